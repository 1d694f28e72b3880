/- The program computes a few simple results as specified: awake is true. -/
import Derived.Test.YtgocloilagcfoabDoorG14
import Derived.Test.YtgocloilagcfoabDoorG10
import Derived.Test.YtgocloilagcfoabDoorC8
namespace Go.Proofs.YtgocloilagcfoabDoor
open Go.RowKit
attribute [local go_sem ↓] Go.wp_at_zero Go.wp_at_succ

theorem awake_text : GM.textOf (3, 0) = [49, 48, 48, 46, 48, 49] := by decide +kernel
theorem awake_plain : textOK [49, 49] = true ∧ isN (valOf [49, 49]).1 (valOf [49, 49]).2 = true ∧ GM.textOf (valOf [49, 49]) = [49, 48, 48] := by decide +kernel
theorem awake_gaps : GM.gaps 5 = [76, 83, 76, 76, 83] := by decide +kernel
theorem awake_quo : divV 5 0 2 0 = .tuple #[.agg #[.int .i64 2, .int .i64 0], .agg #[.int .i64 1, .int .i64 0], .int .i64 0] := by
  have h1 : quo 5 0 2 0 = (2, 0) := by decide +kernel
  have h2 : rem 5 0 2 0 = (1, 0) := by decide +kernel
  unfold divV
  rw [h1, h2]
  rfl

set_option maxRecDepth 100000 in
set_option maxHeartbeats 2000000 in
theorem awake_any (w : World) : Calls Tryd.prog 15 #[] w fun e w' => e = .returned (.bool true) ∧ Below w.heap.size w w' := by
  have hT := fun wx => Text_yes 3 0 wx (by decide) (by decide)
  rw [awake_text] at hT
  have hP := fun wx => Plain_yes [49, 49] wx (by decide) awake_plain.1 awake_plain.2.1
  rw [awake_plain.2.2] at hP
  have hG := fun wx => Gaps_yes 5 wx (by decide)
  rw [awake_gaps] at hG
  have hD := fun wx => Divide_yes 5 0 2 0 wx (by decide) (by decide) (by decide)
  rw [awake_quo] at hD
  have HT := Lib.hid hT
  have HP := Lib.hid hP
  have HG := Lib.hid hG
  have HD := Lib.hid hD
  clear hT hP hG hD
  go_enter Tryd.func15, Tryd.ntmps15
  go_wp2_with fail
  refine (HT.out _).mono ?_
  rintro e w1 ⟨rfl, hb1⟩
  have B1 : Below w.heap.size w w1 := bl_call (by repeat (first | exact Below.refl _ _ | exact Nat.le_refl _ | refine Below.alloc ?_ ?_ _ | refine Below.setCell ?_ ?_ _ | refine Below.drew ?_ | refine bl_drewN ?_ _ | (assumption) | refine bl_call ?_ (by assumption) ?_ | omega | (simp <;> omega))) hb1 (by first | assumption | (simp; done) | (simp; omega) | omega)
  clear hb1
  have hsz_1 := B1.size
  go_wp2_with fail
  refine (HP.out _).mono ?_
  rintro e w2 ⟨rfl, hb2⟩
  have B2 : Below w.heap.size w w2 := bl_call (by repeat (first | exact Below.refl _ _ | exact Nat.le_refl _ | refine Below.alloc ?_ ?_ _ | refine Below.setCell ?_ ?_ _ | refine Below.drew ?_ | refine bl_drewN ?_ _ | (assumption) | refine bl_call ?_ (by assumption) ?_ | omega | (simp <;> omega))) hb2 (by first | assumption | (simp; done) | (simp; omega) | omega)
  clear hb2
  have hsz_2 := B2.size
  go_wp2_with fail
  refine (HG.out _).mono ?_
  rintro e w3 ⟨rfl, hb3⟩
  have B3 : Below w.heap.size w w3 := bl_call (by repeat (first | exact Below.refl _ _ | exact Nat.le_refl _ | refine Below.alloc ?_ ?_ _ | refine Below.setCell ?_ ?_ _ | refine Below.drew ?_ | refine bl_drewN ?_ _ | (assumption) | refine bl_call ?_ (by assumption) ?_ | omega | (simp <;> omega))) hb3 (by first | assumption | (simp; done) | (simp; omega) | omega)
  clear hb3
  have hsz_3 := B3.size
  go_wp2_with fail
  refine (HD.out _).mono ?_
  rintro e w4 ⟨rfl, hb4⟩
  have B4 : Below w.heap.size w w4 := bl_call (by repeat (first | exact Below.refl _ _ | exact Nat.le_refl _ | refine Below.alloc ?_ ?_ _ | refine Below.setCell ?_ ?_ _ | refine Below.drew ?_ | refine bl_drewN ?_ _ | (assumption) | refine bl_call ?_ (by assumption) ?_ | omega | (simp <;> omega))) hb4 (by first | assumption | (simp; done) | (simp; omega) | omega)
  clear hb4
  have hsz_4 := B4.size
  go_wp2_with fail
  go_ret
  exact ⟨rfl, (by repeat (first | exact Below.refl _ _ | exact Nat.le_refl _ | refine Below.alloc ?_ ?_ _ | refine Below.setCell ?_ ?_ _ | refine Below.drew ?_ | refine bl_drewN ?_ _ | (assumption) | refine bl_call ?_ (by assumption) ?_ | omega | (simp <;> omega)))⟩
end Go.Proofs.YtgocloilagcfoabDoor
