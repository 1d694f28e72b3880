/- Product, Mate, Norm, floor and Floor return what they compute, or the error. -/
import Derived.Test.YtgocloilagcfoabDoorC3
namespace Go.Proofs.YtgocloilagcfoabDoor
open Go.RowKit
attribute [local go_sem ↓] Go.wp_at_zero Go.wp_at_succ

theorem small_yes (a b : Int) (w : World) (h1 : isN a b = true) :
    Calls Tryd.prog 59 #[.agg #[.int .i64 a, .int .i64 b]] w fun e w' => e = .returned (.tuple #[.agg #[.int .i64 a, .int .i64 b], .int .i64 0]) ∧ Below w.heap.size w w' := by
  have H1 := Lib.hid h1; clear h1
  go_enter Tryd.func59, Tryd.ntmps59
  go_wp2_with fail
  refine (isNum _ _ _).mono ?_
  rintro e w1 ⟨rfl, hb1⟩
  have z1_0 : w.heap.size < w1.heap.size := by have := hb1.size; (try simp at this); omega
  have z1_1 : w.heap.size + 1 < w1.heap.size := by have := hb1.size; (try simp at this); omega
  have c1_0_0 : w1.cell? ⟨w.heap.size, 0, none⟩ = some (.int .i64 a) := keep_cell hb1 (by first | assumption | (go_simp; done) | (simp; done) | simp [*])
  have c1_0_1 : w1.cell? ⟨w.heap.size, 1, none⟩ = some (.int .i64 b) := keep_cell hb1 (by first | assumption | (go_simp; done) | (simp; done) | simp [*])
  have c1_1_0 : w1.cell? ⟨w.heap.size + 1, 0, none⟩ = some (.int .i64 0) := keep_cell hb1 (by first | assumption | (go_simp; done) | (simp; done) | simp [*])
  have c1_1_1 : w1.cell? ⟨w.heap.size + 1, 1, none⟩ = some (.int .i64 0) := keep_cell hb1 (by first | assumption | (go_simp; done) | (simp; done) | simp [*])
  have f1_1 : ∀ o, w1.frozen? ⟨w.heap.size + 1, o, none⟩ = false := fun o => (hb1.frozen (p := ⟨w.heap.size + 1, o, none⟩) (by first | assumption | (simp; done) | (simp; omega))).trans (by first | (simp; done) | (go_simp; done) | simp [*])
  have B1 : Below w.heap.size w w1 := bl_call (by repeat (first | exact Below.refl _ _ | exact Nat.le_refl _ | refine Below.alloc ?_ ?_ _ | refine Below.setCell ?_ ?_ _ | refine Below.drew ?_ | refine bl_drewN ?_ _ | (assumption) | refine bl_call ?_ (by assumption) ?_ | omega | (simp <;> omega))) hb1 (by first | assumption | (simp; done) | (simp; omega) | omega)
  clear hb1
  have hsz_1 := B1.size
  rw [H1.out]
  go_wp2_with fail
  exact bodyPost_ret (v := .tuple #[.agg #[.int .i64 a, .int .i64 b], .int .i64 0]) (by simp [results, Tryd.results59, go_sem, *]) rfl ⟨rfl, (by repeat (first | exact Below.refl _ _ | exact Nat.le_refl _ | refine Below.alloc ?_ ?_ _ | refine Below.setCell ?_ ?_ _ | refine Below.drew ?_ | refine bl_drewN ?_ _ | (assumption) | refine bl_call ?_ (by assumption) ?_ | omega | (simp <;> omega)))⟩

theorem small_no (a b : Int) (w : World) (h1 : isN a b = false) :
    Calls Tryd.prog 59 #[.agg #[.int .i64 a, .int .i64 b]] w fun e w' => e = .returned (.tuple #[.agg #[.int .i64 0, .int .i64 0], .int .i64 5]) ∧ Below w.heap.size w w' := by
  have H1 := Lib.hid h1; clear h1
  go_enter Tryd.func59, Tryd.ntmps59
  go_wp2_with fail
  refine (isNum _ _ _).mono ?_
  rintro e w1 ⟨rfl, hb1⟩
  have z1_0 : w.heap.size < w1.heap.size := by have := hb1.size; (try simp at this); omega
  have z1_1 : w.heap.size + 1 < w1.heap.size := by have := hb1.size; (try simp at this); omega
  have c1_1_0 : w1.cell? ⟨w.heap.size + 1, 0, none⟩ = some (.int .i64 0) := keep_cell hb1 (by first | assumption | (go_simp; done) | (simp; done) | simp [*])
  have c1_1_1 : w1.cell? ⟨w.heap.size + 1, 1, none⟩ = some (.int .i64 0) := keep_cell hb1 (by first | assumption | (go_simp; done) | (simp; done) | simp [*])
  have f1_1 : ∀ o, w1.frozen? ⟨w.heap.size + 1, o, none⟩ = false := fun o => (hb1.frozen (p := ⟨w.heap.size + 1, o, none⟩) (by first | assumption | (simp; done) | (simp; omega))).trans (by first | (simp; done) | (go_simp; done) | simp [*])
  have B1 : Below w.heap.size w w1 := bl_call (by repeat (first | exact Below.refl _ _ | exact Nat.le_refl _ | refine Below.alloc ?_ ?_ _ | refine Below.setCell ?_ ?_ _ | refine Below.drew ?_ | refine bl_drewN ?_ _ | (assumption) | refine bl_call ?_ (by assumption) ?_ | omega | (simp <;> omega))) hb1 (by first | assumption | (simp; done) | (simp; omega) | omega)
  clear hb1
  have hsz_1 := B1.size
  rw [H1.out]
  go_wp2_with fail
  exact bodyPost_ret (v := .tuple #[.agg #[.int .i64 0, .int .i64 0], .int .i64 5]) (by simp [results, Tryd.results59, go_sem, *]) rfl ⟨rfl, (by repeat (first | exact Below.refl _ _ | exact Nat.le_refl _ | refine Below.alloc ?_ ?_ _ | refine Below.setCell ?_ ?_ _ | refine Below.drew ?_ | refine bl_drewN ?_ _ | (assumption) | refine bl_call ?_ (by assumption) ?_ | omega | (simp <;> omega)))⟩

theorem Mate_no (a b : Int) (w : World) (h1 : isN a b = false) :
    Calls Tryd.prog 41 #[.agg #[.int .i64 a, .int .i64 b]] w fun e w' => e = .returned (.tuple #[.agg #[.int .i64 0, .int .i64 0], .int .i64 2]) ∧ Below w.heap.size w w' := by
  have H1 := Lib.hid h1; clear h1
  go_enter Tryd.func41, Tryd.ntmps41
  go_wp2_with fail
  refine (isNum _ _ _).mono ?_
  rintro e w1 ⟨rfl, hb1⟩
  have z1_0 : w.heap.size < w1.heap.size := by have := hb1.size; (try simp at this); omega
  have z1_1 : w.heap.size + 1 < w1.heap.size := by have := hb1.size; (try simp at this); omega
  have c1_1_0 : w1.cell? ⟨w.heap.size + 1, 0, none⟩ = some (.int .i64 0) := keep_cell hb1 (by first | assumption | (go_simp; done) | (simp; done) | simp [*])
  have c1_1_1 : w1.cell? ⟨w.heap.size + 1, 1, none⟩ = some (.int .i64 0) := keep_cell hb1 (by first | assumption | (go_simp; done) | (simp; done) | simp [*])
  have f1_1 : ∀ o, w1.frozen? ⟨w.heap.size + 1, o, none⟩ = false := fun o => (hb1.frozen (p := ⟨w.heap.size + 1, o, none⟩) (by first | assumption | (simp; done) | (simp; omega))).trans (by first | (simp; done) | (go_simp; done) | simp [*])
  have B1 : Below w.heap.size w w1 := bl_call (by repeat (first | exact Below.refl _ _ | exact Nat.le_refl _ | refine Below.alloc ?_ ?_ _ | refine Below.setCell ?_ ?_ _ | refine Below.drew ?_ | refine bl_drewN ?_ _ | (assumption) | refine bl_call ?_ (by assumption) ?_ | omega | (simp <;> omega))) hb1 (by first | assumption | (simp; done) | (simp; omega) | omega)
  clear hb1
  have hsz_1 := B1.size
  rw [H1.out]
  go_wp2_with fail
  exact bodyPost_ret (v := .tuple #[.agg #[.int .i64 0, .int .i64 0], .int .i64 2]) (by simp [results, Tryd.results41, go_sem, *]) rfl ⟨rfl, (by repeat (first | exact Below.refl _ _ | exact Nat.le_refl _ | refine Below.alloc ?_ ?_ _ | refine Below.setCell ?_ ?_ _ | refine Below.drew ?_ | refine bl_drewN ?_ _ | (assumption) | refine bl_call ?_ (by assumption) ?_ | omega | (simp <;> omega)))⟩

/-- a result that may be no number: the value and the error -/
def smallV (a b : Int) : Value := if isN a b then .tuple #[.agg #[.int .i64 a, .int .i64 b], .int .i64 0] else .tuple #[.agg #[.int .i64 0, .int .i64 0], .int .i64 5]
theorem small_any (a b : Int) (w : World) :
    Calls Tryd.prog 59 #[.agg #[.int .i64 a, .int .i64 b]] w fun e w' => ∃ c d k : Int, e = .returned (.tuple #[.agg #[.int .i64 c, .int .i64 d], .int .i64 k]) ∧ Below w.heap.size w w' ∧ smallV a b = .tuple #[.agg #[.int .i64 c, .int .i64 d], .int .i64 k] := by
  cases h : isN a b
  · exact (small_no a b w h).mono fun e w' ⟨h1, h2⟩ => ⟨0, 0, 5, h1, h2, by simp [smallV, h]⟩
  · exact (small_yes a b w h).mono fun e w' ⟨h1, h2⟩ => ⟨a, b, 0, h1, h2, by simp [smallV, h]⟩

theorem Mate_yes (a b : Int) (w : World) (h1 : isN a b = true) :
    Calls Tryd.prog 41 #[.agg #[.int .i64 a, .int .i64 b]] w fun e w' => e = .returned (smallV (a + b) (-b)) ∧ Below w.heap.size w w' := by
  obtain ⟨x1, x2, x3, x4⟩ := (isN_iff a b).1 h1
  simp only [] at x1 x2 x3 x4
  have H1 := Lib.hid h1; clear h1
  go_enter Tryd.func41, Tryd.ntmps41
  go_wp2_with fail
  refine (isNum _ _ _).mono ?_
  rintro e w1 ⟨rfl, hb1⟩
  have z1_0 : w.heap.size < w1.heap.size := by have := hb1.size; (try simp at this); omega
  have z1_1 : w.heap.size + 1 < w1.heap.size := by have := hb1.size; (try simp at this); omega
  have c1_0_0 : w1.cell? ⟨w.heap.size, 0, none⟩ = some (.int .i64 a) := keep_cell hb1 (by first | assumption | (go_simp; done) | (simp; done) | simp [*])
  have c1_0_1 : w1.cell? ⟨w.heap.size, 1, none⟩ = some (.int .i64 b) := keep_cell hb1 (by first | assumption | (go_simp; done) | (simp; done) | simp [*])
  have c1_1_0 : w1.cell? ⟨w.heap.size + 1, 0, none⟩ = some (.int .i64 0) := keep_cell hb1 (by first | assumption | (go_simp; done) | (simp; done) | simp [*])
  have c1_1_1 : w1.cell? ⟨w.heap.size + 1, 1, none⟩ = some (.int .i64 0) := keep_cell hb1 (by first | assumption | (go_simp; done) | (simp; done) | simp [*])
  have f1_1 : ∀ o, w1.frozen? ⟨w.heap.size + 1, o, none⟩ = false := fun o => (hb1.frozen (p := ⟨w.heap.size + 1, o, none⟩) (by first | assumption | (simp; done) | (simp; omega))).trans (by first | (simp; done) | (go_simp; done) | simp [*])
  have B1 : Below w.heap.size w w1 := bl_call (by repeat (first | exact Below.refl _ _ | exact Nat.le_refl _ | refine Below.alloc ?_ ?_ _ | refine Below.setCell ?_ ?_ _ | refine Below.drew ?_ | refine bl_drewN ?_ _ | (assumption) | refine bl_call ?_ (by assumption) ?_ | omega | (simp <;> omega))) hb1 (by first | assumption | (simp; done) | (simp; omega) | omega)
  clear hb1
  have hsz_1 := B1.size
  rw [H1.out]
  go_wp2_with fail
  refine (mate_any _ _ _ (by omega) (by omega) (by omega) (by omega)).mono ?_
  rintro e w2 ⟨rfl, hb2⟩
  have z2_0 : w.heap.size < w2.heap.size := by have := hb2.size; (try simp at this); omega
  have z2_1 : w.heap.size + 1 < w2.heap.size := by have := hb2.size; (try simp at this); omega
  have c2_1_0 : w2.cell? ⟨w.heap.size + 1, 0, none⟩ = some (.int .i64 0) := keep_cell hb2 (by first | assumption | (go_simp; done) | (simp; done) | simp [*])
  have c2_1_1 : w2.cell? ⟨w.heap.size + 1, 1, none⟩ = some (.int .i64 0) := keep_cell hb2 (by first | assumption | (go_simp; done) | (simp; done) | simp [*])
  have f2_1 : ∀ o, w2.frozen? ⟨w.heap.size + 1, o, none⟩ = false := fun o => (hb2.frozen (p := ⟨w.heap.size + 1, o, none⟩) (by first | assumption | (simp; done) | (simp; omega))).trans (by first | (simp; done) | (go_simp; done) | simp [*])
  have B2 : Below w.heap.size w w2 := bl_call (by repeat (first | exact Below.refl _ _ | exact Nat.le_refl _ | refine Below.alloc ?_ ?_ _ | refine Below.setCell ?_ ?_ _ | refine Below.drew ?_ | refine bl_drewN ?_ _ | (assumption) | refine bl_call ?_ (by assumption) ?_ | omega | (simp <;> omega))) hb2 (by first | assumption | (simp; done) | (simp; omega) | omega)
  clear hb2
  have hsz_2 := B2.size
  go_wp2_with fail
  refine (small_any _ _ _).mono ?_
  rintro e w3 ⟨c, d, k, rfl, hb3, hv⟩
  have z3_0 : w.heap.size < w3.heap.size := by have := hb3.size; (try simp at this); omega
  have z3_1 : w.heap.size + 1 < w3.heap.size := by have := hb3.size; (try simp at this); omega
  have c3_1_0 : w3.cell? ⟨w.heap.size + 1, 0, none⟩ = some (.int .i64 0) := keep_cell hb3 (by first | assumption | (go_simp; done) | (simp; done) | simp [*])
  have c3_1_1 : w3.cell? ⟨w.heap.size + 1, 1, none⟩ = some (.int .i64 0) := keep_cell hb3 (by first | assumption | (go_simp; done) | (simp; done) | simp [*])
  have f3_1 : ∀ o, w3.frozen? ⟨w.heap.size + 1, o, none⟩ = false := fun o => (hb3.frozen (p := ⟨w.heap.size + 1, o, none⟩) (by first | assumption | (simp; done) | (simp; omega))).trans (by first | (simp; done) | (go_simp; done) | simp [*])
  have B3 : Below w.heap.size w w3 := bl_call (by repeat (first | exact Below.refl _ _ | exact Nat.le_refl _ | refine Below.alloc ?_ ?_ _ | refine Below.setCell ?_ ?_ _ | refine Below.drew ?_ | refine bl_drewN ?_ _ | (assumption) | refine bl_call ?_ (by assumption) ?_ | omega | (simp <;> omega))) hb3 (by first | assumption | (simp; done) | (simp; omega) | omega)
  clear hb3
  have hsz_3 := B3.size
  have HV := Lib.hid hv; clear hv
  go_wp2_with fail
  exact bodyPost_ret (v := .tuple #[.agg #[.int .i64 c, .int .i64 d], .int .i64 k]) (by simp [results, Tryd.results41, go_sem, *]) rfl ⟨by rw [HV.out], (by repeat (first | exact Below.refl _ _ | exact Nat.le_refl _ | refine Below.alloc ?_ ?_ _ | refine Below.setCell ?_ ?_ _ | refine Below.drew ?_ | refine bl_drewN ?_ _ | (assumption) | refine bl_call ?_ (by assumption) ?_ | omega | (simp <;> omega)))⟩

theorem Norm_no (a b : Int) (w : World) (h1 : isN a b = false) :
    Calls Tryd.prog 40 #[.agg #[.int .i64 a, .int .i64 b]] w fun e w' => e = .returned (.tuple #[.int .i64 0, .int .i64 2]) ∧ Below w.heap.size w w' := by
  have H1 := Lib.hid h1; clear h1
  go_enter Tryd.func40, Tryd.ntmps40
  go_wp2_with fail
  refine (isNum _ _ _).mono ?_
  rintro e w1 ⟨rfl, hb1⟩
  have z1_0 : w.heap.size < w1.heap.size := by have := hb1.size; (try simp at this); omega
  have B1 : Below w.heap.size w w1 := bl_call (by repeat (first | exact Below.refl _ _ | exact Nat.le_refl _ | refine Below.alloc ?_ ?_ _ | refine Below.setCell ?_ ?_ _ | refine Below.drew ?_ | refine bl_drewN ?_ _ | (assumption) | refine bl_call ?_ (by assumption) ?_ | omega | (simp <;> omega))) hb1 (by first | assumption | (simp; done) | (simp; omega) | omega)
  clear hb1
  have hsz_1 := B1.size
  rw [H1.out]
  go_wp2_with fail
  go_ret2
  exact ⟨rfl, (by repeat (first | exact Below.refl _ _ | exact Nat.le_refl _ | refine Below.alloc ?_ ?_ _ | refine Below.setCell ?_ ?_ _ | refine Below.drew ?_ | refine bl_drewN ?_ _ | (assumption) | refine bl_call ?_ (by assumption) ?_ | omega | (simp <;> omega)))⟩
theorem Norm_yes (a b : Int) (w : World) (h1 : isN a b = true) :
    Calls Tryd.prog 40 #[.agg #[.int .i64 a, .int .i64 b]] w fun e w' => e = .returned (.tuple #[.int .i64 (a * a + a * b - b * b), .int .i64 0]) ∧ Below w.heap.size w w' := by
  obtain ⟨x1, x2, x3, x4⟩ := (isN_iff a b).1 h1
  simp only [] at x1 x2 x3 x4
  have H1 := Lib.hid h1; clear h1
  go_enter Tryd.func40, Tryd.ntmps40
  go_wp2_with fail
  refine (isNum _ _ _).mono ?_
  rintro e w1 ⟨rfl, hb1⟩
  have z1_0 : w.heap.size < w1.heap.size := by have := hb1.size; (try simp at this); omega
  have c1_0_0 : w1.cell? ⟨w.heap.size, 0, none⟩ = some (.int .i64 a) := keep_cell hb1 (by first | assumption | (go_simp; done) | (simp; done) | simp [*])
  have c1_0_1 : w1.cell? ⟨w.heap.size, 1, none⟩ = some (.int .i64 b) := keep_cell hb1 (by first | assumption | (go_simp; done) | (simp; done) | simp [*])
  have B1 : Below w.heap.size w w1 := bl_call (by repeat (first | exact Below.refl _ _ | exact Nat.le_refl _ | refine Below.alloc ?_ ?_ _ | refine Below.setCell ?_ ?_ _ | refine Below.drew ?_ | refine bl_drewN ?_ _ | (assumption) | refine bl_call ?_ (by assumption) ?_ | omega | (simp <;> omega))) hb1 (by first | assumption | (simp; done) | (simp; omega) | omega)
  clear hb1
  have hsz_1 := B1.size
  rw [H1.out]
  go_wp2_with fail
  refine (norm_any _ _ _ (by omega) (by omega) (by omega) (by omega)).mono ?_
  rintro e w2 ⟨rfl, hb2⟩
  have z2_0 : w.heap.size < w2.heap.size := by have := hb2.size; (try simp at this); omega
  have B2 : Below w.heap.size w w2 := bl_call (by repeat (first | exact Below.refl _ _ | exact Nat.le_refl _ | refine Below.alloc ?_ ?_ _ | refine Below.setCell ?_ ?_ _ | refine Below.drew ?_ | refine bl_drewN ?_ _ | (assumption) | refine bl_call ?_ (by assumption) ?_ | omega | (simp <;> omega))) hb2 (by first | assumption | (simp; done) | (simp; omega) | omega)
  clear hb2
  have hsz_2 := B2.size
  go_wp2_with fail
  go_ret2
  exact ⟨rfl, (by repeat (first | exact Below.refl _ _ | exact Nat.le_refl _ | refine Below.alloc ?_ ?_ _ | refine Below.setCell ?_ ?_ _ | refine Below.drew ?_ | refine bl_drewN ?_ _ | (assumption) | refine bl_call ?_ (by assumption) ?_ | omega | (simp <;> omega)))⟩
end Go.Proofs.YtgocloilagcfoabDoor
