/- The sign of a number, and what compares numbers, return what they compute. -/
import Derived.Test.YtgocloilagcfoabDoorC1
import Derived.Test.YtgocloilagcfoabDoorM1
namespace Go.Proofs.YtgocloilagcfoabDoor
open Go.RowKit

theorem ret_i {a b : Int} (h : a = b) : Ending.returned (.int .i64 a) = .returned (.int .i64 b) := by rw [h]

set_option maxHeartbeats 1000000 in
theorem sign_any (a b : Int) (w : World) (a1 : -600000000 ≤ a) (a2 : a ≤ 600000000) (b1 : -600000000 ≤ b) (b2 : b ≤ 600000000) :
    Calls Tryd.prog 68 #[.agg #[.int .i64 a, .int .i64 b]] w fun e w' => e = .returned (.int .i64 (GM.sgn a b)) ∧ Below w.heap.size w w' := by
  obtain ⟨p1, p2⟩ := mul_bd (show -1800000000 ≤ 2 * a + b by omega) (show 2 * a + b ≤ 1800000000 by omega) (show -1800000000 ≤ 2 * a + b by omega) (show 2 * a + b ≤ 1800000000 by omega)
  obtain ⟨p3, p4⟩ := mul_bd (show -3000000000 ≤ 5 * b by omega) (show 5 * b ≤ 3000000000 by omega) b1 b2
  simp only [Int.reduceMul, Int.reduceNeg] at p1 p2 p3 p4
  rcases (by omega : 2 * a + b < 0 ∨ 2 * a + b = 0 ∨ 0 < 2 * a + b) with h | h | h
  all_goals rcases (by omega : b < 0 ∨ b = 0 ∨ 0 < b) with h' | h' | h'
  case inl.inl =>
    have e : GM.sgn a b = -1 := by unfold GM.sgn; rw [if_neg (by omega), if_neg (by omega), if_pos (by omega)]
    have E := Lib.hid e; clear e
    go_enter Tryd.func68, Tryd.ntmps68
    go_wp2
    go_quiet (fail)
    go_wp2
    go_ret
    exact ⟨ret_i E.out.symm, (by repeat (first | exact Below.refl _ _ | exact Nat.le_refl _ | refine Below.alloc ?_ ?_ _ | refine Below.setCell ?_ ?_ _ | refine Below.drew ?_ | refine bl_drewN ?_ _ | (assumption) | refine bl_call ?_ (by assumption) ?_ | omega | (simp <;> omega)))⟩
  case inl.inr.inl =>
    subst h'
    have e : GM.sgn a 0 = -1 := by unfold GM.sgn; rw [if_neg (by omega), if_neg (by omega), if_pos (by omega)]
    have E := Lib.hid e; clear e
    go_enter Tryd.func68, Tryd.ntmps68
    go_wp2
    go_quiet (fail)
    go_wp2
    go_ret
    exact ⟨ret_i E.out.symm, (by repeat (first | exact Below.refl _ _ | exact Nat.le_refl _ | refine Below.alloc ?_ ?_ _ | refine Below.setCell ?_ ?_ _ | refine Below.drew ?_ | refine bl_drewN ?_ _ | (assumption) | refine bl_call ?_ (by assumption) ?_ | omega | (simp <;> omega)))⟩
  case inl.inr.inr =>
    by_cases hq : 5 * b * b < (2 * a + b) * (2 * a + b)
    · have e : GM.sgn a b = -1 := by
        unfold GM.sgn; rw [if_neg (by omega), if_neg (by omega), if_neg (by omega)]
        have h1 : decide (0 < 2 * a + b) = false := by simp; omega
        have h2 : decide (5 * b * b < (2 * a + b) * (2 * a + b)) = true := by simp; omega
        rw [h1, h2]; rfl
      have hb : (decide (0 < 2 * a + b) == decide (5 * b * b < (2 * a + b) * (2 * a + b))) = false := by
        have h1 : decide (0 < 2 * a + b) = false := by simp; omega
        have h2 : decide (5 * b * b < (2 * a + b) * (2 * a + b)) = true := by simp; omega
        rw [h1, h2]; rfl
      have E := Lib.hid e; clear e
      go_enter Tryd.func68, Tryd.ntmps68
      go_wp2
      go_quiet (fail)
      go_wp2
      go_ret
      exact ⟨ret_i E.out.symm, (by repeat (first | exact Below.refl _ _ | exact Nat.le_refl _ | refine Below.alloc ?_ ?_ _ | refine Below.setCell ?_ ?_ _ | refine Below.drew ?_ | refine bl_drewN ?_ _ | (assumption) | refine bl_call ?_ (by assumption) ?_ | omega | (simp <;> omega)))⟩
    · have e : GM.sgn a b = 1 := by
        unfold GM.sgn; rw [if_neg (by omega), if_neg (by omega), if_neg (by omega)]
        have h1 : decide (0 < 2 * a + b) = false := by simp; omega
        have h2 : decide (5 * b * b < (2 * a + b) * (2 * a + b)) = false := by simp; omega
        rw [h1, h2]; rfl
      have hb : (decide (0 < 2 * a + b) == decide (5 * b * b < (2 * a + b) * (2 * a + b))) = true := by
        have h1 : decide (0 < 2 * a + b) = false := by simp; omega
        have h2 : decide (5 * b * b < (2 * a + b) * (2 * a + b)) = false := by simp; omega
        rw [h1, h2]; rfl
      have E := Lib.hid e; clear e
      go_enter Tryd.func68, Tryd.ntmps68
      go_wp2
      go_quiet (fail)
      go_wp2
      go_ret
      exact ⟨ret_i E.out.symm, (by repeat (first | exact Below.refl _ _ | exact Nat.le_refl _ | refine Below.alloc ?_ ?_ _ | refine Below.setCell ?_ ?_ _ | refine Below.drew ?_ | refine bl_drewN ?_ _ | (assumption) | refine bl_call ?_ (by assumption) ?_ | omega | (simp <;> omega)))⟩
  case inr.inl.inl =>
    have e : GM.sgn a b = -1 := by unfold GM.sgn; rw [if_neg (by omega), if_neg (by omega), if_pos (by omega)]
    have E := Lib.hid e; clear e
    go_enter Tryd.func68, Tryd.ntmps68
    go_wp2
    go_quiet (fail)
    go_wp2
    go_ret
    exact ⟨ret_i E.out.symm, (by repeat (first | exact Below.refl _ _ | exact Nat.le_refl _ | refine Below.alloc ?_ ?_ _ | refine Below.setCell ?_ ?_ _ | refine Below.drew ?_ | refine bl_drewN ?_ _ | (assumption) | refine bl_call ?_ (by assumption) ?_ | omega | (simp <;> omega)))⟩
  case inr.inl.inr.inl =>
    subst h'
    have e : GM.sgn a 0 = 0 := by unfold GM.sgn; rw [if_pos (by omega)]
    have E := Lib.hid e; clear e
    go_enter Tryd.func68, Tryd.ntmps68
    go_wp2
    go_quiet (fail)
    go_wp2
    go_ret
    exact ⟨ret_i E.out.symm, (by repeat (first | exact Below.refl _ _ | exact Nat.le_refl _ | refine Below.alloc ?_ ?_ _ | refine Below.setCell ?_ ?_ _ | refine Below.drew ?_ | refine bl_drewN ?_ _ | (assumption) | refine bl_call ?_ (by assumption) ?_ | omega | (simp <;> omega)))⟩
  case inr.inl.inr.inr =>
    have e : GM.sgn a b = 1 := by unfold GM.sgn; rw [if_neg (by omega), if_pos (by omega)]
    have E := Lib.hid e; clear e
    go_enter Tryd.func68, Tryd.ntmps68
    go_wp2
    go_quiet (fail)
    go_wp2
    go_ret
    exact ⟨ret_i E.out.symm, (by repeat (first | exact Below.refl _ _ | exact Nat.le_refl _ | refine Below.alloc ?_ ?_ _ | refine Below.setCell ?_ ?_ _ | refine Below.drew ?_ | refine bl_drewN ?_ _ | (assumption) | refine bl_call ?_ (by assumption) ?_ | omega | (simp <;> omega)))⟩
  case inr.inr.inl =>
    by_cases hq : 5 * b * b < (2 * a + b) * (2 * a + b)
    · have e : GM.sgn a b = 1 := by
        unfold GM.sgn; rw [if_neg (by omega), if_neg (by omega), if_neg (by omega)]
        have h1 : decide (0 < 2 * a + b) = true := by simp; omega
        have h2 : decide (5 * b * b < (2 * a + b) * (2 * a + b)) = true := by simp; omega
        rw [h1, h2]; rfl
      have hb : (decide (0 < 2 * a + b) == decide (5 * b * b < (2 * a + b) * (2 * a + b))) = true := by
        have h1 : decide (0 < 2 * a + b) = true := by simp; omega
        have h2 : decide (5 * b * b < (2 * a + b) * (2 * a + b)) = true := by simp; omega
        rw [h1, h2]; rfl
      have E := Lib.hid e; clear e
      go_enter Tryd.func68, Tryd.ntmps68
      go_wp2
      go_quiet (fail)
      go_wp2
      go_ret
      exact ⟨ret_i E.out.symm, (by repeat (first | exact Below.refl _ _ | exact Nat.le_refl _ | refine Below.alloc ?_ ?_ _ | refine Below.setCell ?_ ?_ _ | refine Below.drew ?_ | refine bl_drewN ?_ _ | (assumption) | refine bl_call ?_ (by assumption) ?_ | omega | (simp <;> omega)))⟩
    · have e : GM.sgn a b = -1 := by
        unfold GM.sgn; rw [if_neg (by omega), if_neg (by omega), if_neg (by omega)]
        have h1 : decide (0 < 2 * a + b) = true := by simp; omega
        have h2 : decide (5 * b * b < (2 * a + b) * (2 * a + b)) = false := by simp; omega
        rw [h1, h2]; rfl
      have hb : (decide (0 < 2 * a + b) == decide (5 * b * b < (2 * a + b) * (2 * a + b))) = false := by
        have h1 : decide (0 < 2 * a + b) = true := by simp; omega
        have h2 : decide (5 * b * b < (2 * a + b) * (2 * a + b)) = false := by simp; omega
        rw [h1, h2]; rfl
      have E := Lib.hid e; clear e
      go_enter Tryd.func68, Tryd.ntmps68
      go_wp2
      go_quiet (fail)
      go_wp2
      go_ret
      exact ⟨ret_i E.out.symm, (by repeat (first | exact Below.refl _ _ | exact Nat.le_refl _ | refine Below.alloc ?_ ?_ _ | refine Below.setCell ?_ ?_ _ | refine Below.drew ?_ | refine bl_drewN ?_ _ | (assumption) | refine bl_call ?_ (by assumption) ?_ | omega | (simp <;> omega)))⟩
  case inr.inr.inr.inl =>
    subst h'
    have e : GM.sgn a 0 = 1 := by unfold GM.sgn; rw [if_neg (by omega), if_pos (by omega)]
    have E := Lib.hid e; clear e
    go_enter Tryd.func68, Tryd.ntmps68
    go_wp2
    go_quiet (fail)
    go_wp2
    go_ret
    exact ⟨ret_i E.out.symm, (by repeat (first | exact Below.refl _ _ | exact Nat.le_refl _ | refine Below.alloc ?_ ?_ _ | refine Below.setCell ?_ ?_ _ | refine Below.drew ?_ | refine bl_drewN ?_ _ | (assumption) | refine bl_call ?_ (by assumption) ?_ | omega | (simp <;> omega)))⟩
  case inr.inr.inr.inr =>
    have e : GM.sgn a b = 1 := by unfold GM.sgn; rw [if_neg (by omega), if_pos (by omega)]
    have E := Lib.hid e; clear e
    go_enter Tryd.func68, Tryd.ntmps68
    go_wp2
    go_quiet (fail)
    go_wp2
    go_ret
    exact ⟨ret_i E.out.symm, (by repeat (first | exact Below.refl _ _ | exact Nat.le_refl _ | refine Below.alloc ?_ ?_ _ | refine Below.setCell ?_ ?_ _ | refine Below.drew ?_ | refine bl_drewN ?_ _ | (assumption) | refine bl_call ?_ (by assumption) ?_ | omega | (simp <;> omega)))⟩
end Go.Proofs.YtgocloilagcfoabDoor
