/- The laws' own helper positive. -/
import Derived.Test.YtgocloilagcfoaaDoorL2
namespace Go.Proofs.YtgocloilagcfoaaDoor
open Go.RowKit
attribute [local go_sem ↓] Go.wp_at_zero Go.wp_at_succ

set_option maxRecDepth 100000 in
set_option maxHeartbeats 2000000 in
theorem positive_any (a b m : Int) (w : World) (m0 : 0 ≤ m) (m1 : m ≤ 1000000) (a1 : -9223372036854775808 ≤ a) (a2 : a ≤ 9223372036854775807) (b1 : -9223372036854775808 ≤ b) (b2 : b ≤ 9223372036854775807) :
    Calls Tryd.prog 33 #[.agg #[.int .i64 a, .int .i64 b], .int .i64 m] w fun e w' => ∃ X Y, e = .returned (.agg #[.int .i64 X, .int .i64 Y]) ∧ (-m ≤ X ∧ X ≤ m ∧ -m ≤ Y ∧ Y ≤ m) ∧ 0 ≤ GM.sgn X Y ∧ Below w.heap.size w w' := by
  have hT := fun wx => tame_any a b m wx m0 m1 a1 a2 b1 b2
  obtain ⟨ba1, ba2⟩ := modZ_bd a (2 * m + 1) (by omega)
  obtain ⟨bb1, bb2⟩ := modZ_bd b (2 * m + 1) (by omega)
  obtain ⟨X, e1⟩ : ∃ y, modZ a (2 * m + 1) - m = y := ⟨_, rfl⟩
  obtain ⟨Y, e2⟩ : ∃ y, modZ b (2 * m + 1) - m = y := ⟨_, rfl⟩
  rw [e1, e2] at hT
  have x1 : -m ≤ X ∧ X ≤ m ∧ -m ≤ Y ∧ Y ≤ m := by omega
  clear e1 e2 ba1 ba2 bb1 bb2
  have hS := fun wx => refSign X Y wx (by omega) (by omega) (by omega) (by omega)
  have hneg := GM.sg_neg (X, Y)
  unfold GM.sg at hneg
  dsimp only at hneg
  obtain ⟨S, eS⟩ : ∃ S, GM.sgn X Y = S := ⟨_, rfl⟩
  rw [eS] at hS hneg
  have HT := Lib.hid hT
  have HS := Lib.hid hS
  have HN := Lib.hid hneg
  have HE := Lib.hid eS
  clear hT hS hneg eS
  go_enter Tryd.func33, Tryd.ntmps33
  go_upto_region 1 with fail
  obtain ⟨w0, hw0⟩ : ∃ wx : World, wx = ((w.alloc (.cells #[.int .i64 a, .int .i64 b] 23)).alloc (.cells #[.int .i64 0, .int .i64 0] 23)) := ⟨_, rfl⟩
  rw [← hw0]
  have q0_0 : w0.heap[w.heap.size]? = some (.cells #[.int .i64 a, .int .i64 b] 23 (0, 0)) := by rw [hw0]; exact blk_old (blk_new _ _)
  have z0_0 : w.heap.size < w0.heap.size := by rw [hw0]; simp <;> omega
  have c0_0_0 : w0.cell? ⟨w.heap.size, 0, none⟩ = some (.int .i64 a) := by rw [hw0]; first | (go_simp; done) | simp
  have c0_0_1 : w0.cell? ⟨w.heap.size, 1, none⟩ = some (.int .i64 b) := by rw [hw0]; first | (go_simp; done) | simp
  have f0_0 : ∀ o, w0.frozen? ⟨w.heap.size, o, none⟩ = false := by intro o; rw [hw0]; first | (go_simp; done) | simp
  have q0_1 : w0.heap[w.heap.size + 1]? = some (.cells #[.int .i64 0, .int .i64 0] 23 (0, 0)) := by rw [hw0]; rw [show w.heap.size + 1 = (w.alloc (.cells #[.int .i64 a, .int .i64 b] 23)).heap.size from by simp]; exact blk_new _ _
  have z0_1 : w.heap.size + 1 < w0.heap.size := by rw [hw0]; simp <;> omega
  have c0_1_0 : w0.cell? ⟨w.heap.size + 1, 0, none⟩ = some (.int .i64 0) := by rw [hw0]; first | (go_simp; done) | simp
  have c0_1_1 : w0.cell? ⟨w.heap.size + 1, 1, none⟩ = some (.int .i64 0) := by rw [hw0]; first | (go_simp; done) | simp
  have f0_1 : ∀ o, w0.frozen? ⟨w.heap.size + 1, o, none⟩ = false := by intro o; rw [hw0]; first | (go_simp; done) | simp
  have B0 : Below w.heap.size w w0 := by rw [hw0]; exact (by repeat (first | exact Below.refl _ _ | exact Nat.le_refl _ | refine Below.alloc ?_ ?_ _ | refine Below.setCell ?_ ?_ _ | refine Below.drew ?_ | refine bl_drewN ?_ _ | (assumption) | refine bl_call ?_ (by assumption) ?_ | omega | (simp <;> omega)))
  clear hw0
  go_wp2_with fail
  refine (HT.out _).mono ?_
  rintro e w1 ⟨rfl, hb1⟩
  have R1 := blk_call hb1 q0_0
  have T1 := blk_call hb1 q0_1
  have B1 := bl_call B0 hb1 (by omega)
  have z1 := blk_lt T1
  have c0 := row2_0 R1
  have c1 := row2_1 R1
  have f0 := row_f R1
  clear hb1 q0_0 q0_1
  go_upto_region 2 with fail
  obtain ⟨w2, h2⟩ : ∃ wx : World, wx = (w1.setCell ⟨w.heap.size, 0, none⟩ (.int .i64 X)).setCell ⟨w.heap.size, 1, none⟩ (.int .i64 Y) := ⟨_, rfl⟩
  rw [← h2]
  have R2 : w2.heap[w.heap.size]? = some (.cells #[.int .i64 X, .int .i64 Y] 23 (0, 0)) := by rw [h2]; exact blk_set2 R1
  have T2 : w2.heap[w.heap.size + 1]? = some (.cells #[.int .i64 0, .int .i64 0] 23 (0, 0)) := by rw [h2]; exact blk_far2 (by omega) T1
  have B2 : Below w.heap.size w w2 := by rw [h2]; exact (by repeat (first | exact Below.refl _ _ | exact Nat.le_refl _ | refine Below.alloc ?_ ?_ _ | refine Below.setCell ?_ ?_ _ | refine Below.drew ?_ | refine bl_drewN ?_ _ | (assumption) | refine bl_call ?_ (by assumption) ?_ | omega | (simp <;> omega)))
  clear h2 R1 T1 c0 c1 f0
  have c0 := row2_0 R2
  have c1 := row2_1 R2
  go_wp2_with fail
  refine (HS.out _).mono ?_
  rintro e w3 ⟨rfl, hb3⟩
  have R3 := blk_call hb3 R2
  have T3 := blk_call hb3 T2
  have B3 := bl_call B2 hb3 (by have := blk_lt T2; omega)
  have z3 := blk_lt T3
  have c0 := row2_0 R3
  have c1 := row2_1 R3
  have t0 := row2_0 T3
  have t1 := row2_1 T3
  have f1 := row_f T3
  clear hb3 R2 T2 R3 T3
  by_cases hs : S < 0
  · go_wp2_with fail
    exact bodyPost_ret (v := .agg #[.int .i64 (-X), .int .i64 (-Y)]) (by simp [results, Tryd.results33, go_sem, *]) rfl ⟨_, _, rfl, by omega, by rw [HN.out]; omega, (by repeat (first | exact Below.refl _ _ | exact Nat.le_refl _ | refine Below.alloc ?_ ?_ _ | refine Below.setCell ?_ ?_ _ | refine Below.drew ?_ | refine bl_drewN ?_ _ | (assumption) | refine bl_call ?_ (by assumption) ?_ | omega | (simp <;> omega)))⟩
  · go_wp2_with fail
    exact bodyPost_ret (v := .agg #[.int .i64 X, .int .i64 Y]) (by simp [results, Tryd.results33, go_sem, *]) rfl ⟨_, _, rfl, by omega, by rw [HE.out]; omega, (by repeat (first | exact Below.refl _ _ | exact Nat.le_refl _ | refine Below.alloc ?_ ?_ _ | refine Below.setCell ?_ ?_ _ | refine Below.drew ?_ | refine bl_drewN ?_ _ | (assumption) | refine bl_call ?_ (by assumption) ?_ | omega | (simp <;> omega)))⟩
end Go.Proofs.YtgocloilagcfoaaDoor
