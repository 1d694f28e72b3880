/- Rung returns a value of the ladder, or ErrArg. -/
import Derived.Test.YtgocloilagcfoabDoorG11
import Derived.Test.YtgocloilagcfoabDoorM3
namespace Go.Proofs.YtgocloilagcfoabDoor
open Go.RowKit
attribute [local go_sem ↓] Go.wp_at_zero Go.wp_at_succ

theorem Rung_yes (k : Int) (w : World) (h1 : 0 ≤ k) (h2 : k ≤ 100000) :
    Calls Tryd.prog 35 #[.int .i64 k] w fun e w' => e = .returned (.tuple #[.agg #[.int .i64 (GM.gr 34 k).1, .int .i64 (GM.gr 34 k).2], .int .i64 0]) ∧ Below w.heap.size w w' := by
  have HR := Lib.hid (fun wx => rung_any k wx h1 (by omega))
  obtain ⟨⟨x, y⟩, hp⟩ : ∃ p, GM.gr 34 k = p := ⟨_, rfl⟩
  rw [hp] at HR ⊢
  dsimp only at HR ⊢
  have hb : (decide (0 ≤ k) && decide (k ≤ 100000)) = true := by simp; omega
  have HB := Lib.hid hb
  clear hp hb
  go_enter Tryd.func35, Tryd.ntmps35
  go_wp2_with (first | (go_at_call 46; refine (within_any _ _ _ _).mono ?_; rintro e w' ⟨rfl, rfl⟩; rw [HB.out]) | fail)
  refine (HR.out _).mono ?_
  rintro e w2 ⟨rfl, hb2⟩
  have z2_0 : w.heap.size < w2.heap.size := by have := hb2.size; (try simp at this); omega
  have c2_0_0 : w2.cell? ⟨w.heap.size, 0, none⟩ = some (.int .i64 0) := keep_cell hb2 (by first | assumption | (go_simp; done) | (simp; done) | simp [*])
  have c2_0_1 : w2.cell? ⟨w.heap.size, 1, none⟩ = some (.int .i64 0) := keep_cell hb2 (by first | assumption | (go_simp; done) | (simp; done) | simp [*])
  have f2_0 : ∀ o, w2.frozen? ⟨w.heap.size, o, none⟩ = false := fun o => (hb2.frozen (p := ⟨w.heap.size, o, none⟩) (by first | assumption | (simp; done) | (simp; omega))).trans (by first | (simp; done) | (go_simp; done) | simp [*])
  have B2 : Below w.heap.size w w2 := bl_call (by repeat (first | exact Below.refl _ _ | exact Nat.le_refl _ | refine Below.alloc ?_ ?_ _ | refine Below.setCell ?_ ?_ _ | refine Below.drew ?_ | refine bl_drewN ?_ _ | (assumption) | refine bl_call ?_ (by assumption) ?_ | omega | (simp <;> omega))) hb2 (by first | assumption | (simp; done) | (simp; omega) | omega)
  clear hb2
  have hsz_2 := B2.size
  go_wp2_with fail
  exact bodyPost_ret (v := .tuple #[.agg #[.int .i64 x, .int .i64 y], .int .i64 0]) (by simp [results, Tryd.results35, go_sem, *]) rfl ⟨rfl, (by repeat (first | exact Below.refl _ _ | exact Nat.le_refl _ | refine Below.alloc ?_ ?_ _ | refine Below.setCell ?_ ?_ _ | refine Below.drew ?_ | refine bl_drewN ?_ _ | (assumption) | refine bl_call ?_ (by assumption) ?_ | omega | (simp <;> omega)))⟩

theorem Rung_no (k : Int) (w : World) (h : ¬ (0 ≤ k ∧ k ≤ 100000)) :
    Calls Tryd.prog 35 #[.int .i64 k] w fun e w' => e = .returned (.tuple #[.agg #[.int .i64 0, .int .i64 0], .int .i64 2]) ∧ Below w.heap.size w w' := by
  have hb : (decide (0 ≤ k) && decide (k ≤ 100000)) = false := by simp; omega
  have HB := Lib.hid hb
  clear h hb
  go_enter Tryd.func35, Tryd.ntmps35
  go_wp2_with (first | (go_at_call 46; refine (within_any _ _ _ _).mono ?_; rintro e w' ⟨rfl, rfl⟩; rw [HB.out]) | fail)
  exact bodyPost_ret (v := .tuple #[.agg #[.int .i64 0, .int .i64 0], .int .i64 2]) (by simp [results, Tryd.results35, go_sem, *]) rfl ⟨rfl, (by repeat (first | exact Below.refl _ _ | exact Nat.le_refl _ | refine Below.alloc ?_ ?_ _ | refine Below.setCell ?_ ?_ _ | refine Below.drew ?_ | refine bl_drewN ?_ _ | (assumption) | refine bl_call ?_ (by assumption) ?_ | omega | (simp <;> omega)))⟩
end Go.Proofs.YtgocloilagcfoabDoor
