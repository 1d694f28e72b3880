/- The reference's plain functions return what they compute. -/
import Derived.Test.YtgocloilagcfoabDoorC3
namespace Go.Proofs.YtgocloilagcfoabDoor
open Go.RowKit
attribute [local go_sem ↓] Go.wp_at_zero Go.wp_at_succ

theorem isN_def (a b : Int) : isN a b = (decide (-1000000 ≤ a) && decide (a ≤ 1000000) && decide (-1000000 ≤ b) && decide (b ≤ 1000000)) := by
  unfold isN; simp [Bool.and_assoc]
theorem refNumber (a b : Int) (w : World) :
    Calls Tryd.prog 22 #[.agg #[.int .i64 a, .int .i64 b]] w fun e w' => e = .returned (.bool (isN a b)) ∧ Below w.heap.size w w' := by
  rw [isN_def]
  by_cases h1 : -1000000 ≤ a
  · by_cases h2 : a ≤ 1000000
    · by_cases h3 : -1000000 ≤ b
      · by_cases h4 : b ≤ 1000000
        all_goals
          go_enter Tryd.func22, Tryd.ntmps22
          go_wp2
          go_ret
          exact ⟨by simp [*], (by repeat (first | exact Below.refl _ _ | exact Nat.le_refl _ | refine Below.alloc ?_ ?_ _ | refine Below.setCell ?_ ?_ _ | refine Below.drew ?_ | refine bl_drewN ?_ _ | (assumption) | refine bl_call ?_ (by assumption) ?_ | omega | (simp <;> omega)))⟩
      · go_enter Tryd.func22, Tryd.ntmps22
        go_wp2
        go_ret
        have : decide (-1000000 ≤ b) = false := by simp; omega
        exact ⟨by simp [this], (by repeat (first | exact Below.refl _ _ | exact Nat.le_refl _ | refine Below.alloc ?_ ?_ _ | refine Below.setCell ?_ ?_ _ | refine Below.drew ?_ | refine bl_drewN ?_ _ | (assumption) | refine bl_call ?_ (by assumption) ?_ | omega | (simp <;> omega)))⟩
    · go_enter Tryd.func22, Tryd.ntmps22
      go_wp2
      go_ret
      have : decide (a ≤ 1000000) = false := by simp; omega
      exact ⟨by simp [this], (by repeat (first | exact Below.refl _ _ | exact Nat.le_refl _ | refine Below.alloc ?_ ?_ _ | refine Below.setCell ?_ ?_ _ | refine Below.drew ?_ | refine bl_drewN ?_ _ | (assumption) | refine bl_call ?_ (by assumption) ?_ | omega | (simp <;> omega)))⟩
  · go_enter Tryd.func22, Tryd.ntmps22
    go_wp2
    go_ret
    have : decide (-1000000 ≤ a) = false := by simp; omega
    exact ⟨by simp [this], (by repeat (first | exact Below.refl _ _ | exact Nat.le_refl _ | refine Below.alloc ?_ ?_ _ | refine Below.setCell ?_ ?_ _ | refine Below.drew ?_ | refine bl_drewN ?_ _ | (assumption) | refine bl_call ?_ (by assumption) ?_ | omega | (simp <;> omega)))⟩

theorem refMinus (a b c d : Int) (w : World) (h1 : -9000000000000000000 ≤ a - c) (h2 : a - c ≤ 9000000000000000000) (h3 : -9000000000000000000 ≤ b - d) (h4 : b - d ≤ 9000000000000000000) :
    Calls Tryd.prog 32 #[.agg #[.int .i64 a, .int .i64 b], .agg #[.int .i64 c, .int .i64 d]] w fun e w' => e = .returned (.agg #[.int .i64 (a - c), .int .i64 (b - d)]) ∧ Below w.heap.size w w' := by
  go_enter Tryd.func32, Tryd.ntmps32
  go_wp2
  exact bodyPost_ret (v := .agg #[.int .i64 (a - c), .int .i64 (b - d)]) (by simp [results, Tryd.results32, go_sem]) rfl ⟨rfl, (by repeat (first | exact Below.refl _ _ | exact Nat.le_refl _ | refine Below.alloc ?_ ?_ _ | refine Below.setCell ?_ ?_ _ | refine Below.drew ?_ | refine bl_drewN ?_ _ | (assumption) | refine bl_call ?_ (by assumption) ?_ | omega | (simp <;> omega)))⟩

theorem refPlus (a b c d : Int) (w : World) (h1 : -9000000000000000000 ≤ a + c) (h2 : a + c ≤ 9000000000000000000) (h3 : -9000000000000000000 ≤ b + d) (h4 : b + d ≤ 9000000000000000000) :
    Calls Tryd.prog 20 #[.agg #[.int .i64 a, .int .i64 b], .agg #[.int .i64 c, .int .i64 d]] w fun e w' => e = .returned (.agg #[.int .i64 (a + c), .int .i64 (b + d)]) ∧ Below w.heap.size w w' := by
  go_enter Tryd.func20, Tryd.ntmps20
  go_wp2
  exact bodyPost_ret (v := .agg #[.int .i64 (a + c), .int .i64 (b + d)]) (by simp [results, Tryd.results20, go_sem]) rfl ⟨rfl, (by repeat (first | exact Below.refl _ _ | exact Nat.le_refl _ | refine Below.alloc ?_ ?_ _ | refine Below.setCell ?_ ?_ _ | refine Below.drew ?_ | refine bl_drewN ?_ _ | (assumption) | refine bl_call ?_ (by assumption) ?_ | omega | (simp <;> omega)))⟩

set_option maxHeartbeats 400000 in
theorem refTimes (a b c d : Int) (w : World) (a1 : -3000000000001 ≤ a) (a2 : a ≤ 3000000000001) (b1 : -2000000000001 ≤ b) (b2 : b ≤ 2000000000001) (c1 : -1000000 ≤ c) (c2 : c ≤ 1000000) (d1 : -1000000 ≤ d) (d2 : d ≤ 1000000) :
    Calls Tryd.prog 25 #[.agg #[.int .i64 a, .int .i64 b], .agg #[.int .i64 c, .int .i64 d]] w fun e w' => e = .returned (.agg #[.int .i64 (a * c + b * d), .int .i64 (a * d + b * c + b * d)]) ∧ Below w.heap.size w w' := by
  obtain ⟨p1, p2⟩ := mul_bd a1 a2 c1 c2
  obtain ⟨p3, p4⟩ := mul_bd b1 b2 d1 d2
  obtain ⟨p5, p6⟩ := mul_bd a1 a2 d1 d2
  obtain ⟨p7, p8⟩ := mul_bd b1 b2 c1 c2
  simp only [Int.reduceMul, Int.reduceNeg] at p1 p2 p3 p4 p5 p6 p7 p8
  go_enter Tryd.func25, Tryd.ntmps25
  go_wp2
  exact bodyPost_ret (v := .agg #[.int .i64 (a * c + b * d), .int .i64 (a * d + b * c + b * d)]) (by simp [results, Tryd.results25, go_sem]) rfl ⟨rfl, (by repeat (first | exact Below.refl _ _ | exact Nat.le_refl _ | refine Below.alloc ?_ ?_ _ | refine Below.setCell ?_ ?_ _ | refine Below.drew ?_ | refine bl_drewN ?_ _ | (assumption) | refine bl_call ?_ (by assumption) ?_ | omega | (simp <;> omega)))⟩

set_option maxHeartbeats 400000 in
theorem refTimes2 (a b c d : Int) (w : World) (a1 : -1000000000 ≤ a) (a2 : a ≤ 1000000000) (b1 : -1000000000 ≤ b) (b2 : b ≤ 1000000000) (c1 : -1000000000 ≤ c) (c2 : c ≤ 1000000000) (d1 : -1000000000 ≤ d) (d2 : d ≤ 1000000000) :
    Calls Tryd.prog 25 #[.agg #[.int .i64 a, .int .i64 b], .agg #[.int .i64 c, .int .i64 d]] w fun e w' => e = .returned (.agg #[.int .i64 (a * c + b * d), .int .i64 (a * d + b * c + b * d)]) ∧ Below w.heap.size w w' := by
  obtain ⟨p1, p2⟩ := mul_bd a1 a2 c1 c2
  obtain ⟨p3, p4⟩ := mul_bd b1 b2 d1 d2
  obtain ⟨p5, p6⟩ := mul_bd a1 a2 d1 d2
  obtain ⟨p7, p8⟩ := mul_bd b1 b2 c1 c2
  simp only [Int.reduceMul, Int.reduceNeg] at p1 p2 p3 p4 p5 p6 p7 p8
  go_enter Tryd.func25, Tryd.ntmps25
  go_wp2
  exact bodyPost_ret (v := .agg #[.int .i64 (a * c + b * d), .int .i64 (a * d + b * c + b * d)]) (by simp [results, Tryd.results25, go_sem]) rfl ⟨rfl, (by repeat (first | exact Below.refl _ _ | exact Nat.le_refl _ | refine Below.alloc ?_ ?_ _ | refine Below.setCell ?_ ?_ _ | refine Below.drew ?_ | refine bl_drewN ?_ _ | (assumption) | refine bl_call ?_ (by assumption) ?_ | omega | (simp <;> omega)))⟩

theorem refMate (a b : Int) (w : World) (a1 : -1000000000 ≤ a) (a2 : a ≤ 1000000000) (b1 : -1000000000 ≤ b) (b2 : b ≤ 1000000000) :
    Calls Tryd.prog 45 #[.agg #[.int .i64 a, .int .i64 b]] w fun e w' => e = .returned (.agg #[.int .i64 (a + b), .int .i64 (-b)]) ∧ Below w.heap.size w w' := by
  go_enter Tryd.func45, Tryd.ntmps45
  go_wp2
  exact bodyPost_ret (v := .agg #[.int .i64 (a + b), .int .i64 (-b)]) (by simp [results, Tryd.results45, go_sem]) rfl ⟨rfl, (by repeat (first | exact Below.refl _ _ | exact Nat.le_refl _ | refine Below.alloc ?_ ?_ _ | refine Below.setCell ?_ ?_ _ | refine Below.drew ?_ | refine bl_drewN ?_ _ | (assumption) | refine bl_call ?_ (by assumption) ?_ | omega | (simp <;> omega)))⟩

theorem refNorm (a b : Int) (w : World) (a1 : -1000000000 ≤ a) (a2 : a ≤ 1000000000) (b1 : -1000000000 ≤ b) (b2 : b ≤ 1000000000) :
    Calls Tryd.prog 44 #[.agg #[.int .i64 a, .int .i64 b]] w fun e w' => e = .returned (.int .i64 (a * a + a * b - b * b)) ∧ Below w.heap.size w w' := by
  obtain ⟨p1, p2⟩ := mul_bd a1 a2 a1 a2
  obtain ⟨p3, p4⟩ := mul_bd b1 b2 b1 b2
  obtain ⟨p5, p6⟩ := mul_bd a1 a2 b1 b2
  simp only [Int.reduceMul, Int.reduceNeg] at p1 p2 p3 p4 p5 p6
  go_enter Tryd.func44, Tryd.ntmps44
  go_wp2
  go_ret
  exact ⟨rfl, (by repeat (first | exact Below.refl _ _ | exact Nat.le_refl _ | refine Below.alloc ?_ ?_ _ | refine Below.setCell ?_ ?_ _ | refine Below.drew ?_ | refine bl_drewN ?_ _ | (assumption) | refine bl_call ?_ (by assumption) ?_ | omega | (simp <;> omega)))⟩

set_option maxHeartbeats 1000000 in
theorem refSign (a b : Int) (w : World) (a1 : -600000000 ≤ a) (a2 : a ≤ 600000000) (b1 : -600000000 ≤ b) (b2 : b ≤ 600000000) :
    Calls Tryd.prog 31 #[.agg #[.int .i64 a, .int .i64 b]] w fun e w' => e = .returned (.int .i64 (GM.sgn a b)) ∧ Below w.heap.size w w' := by
  obtain ⟨p1, p2⟩ := mul_bd (show -1800000000 ≤ 2 * a + b by omega) (show 2 * a + b ≤ 1800000000 by omega) (show -1800000000 ≤ 2 * a + b by omega) (show 2 * a + b ≤ 1800000000 by omega)
  obtain ⟨p3, p4⟩ := mul_bd (show -3000000000 ≤ 5 * b by omega) (show 5 * b ≤ 3000000000 by omega) b1 b2
  simp only [Int.reduceMul, Int.reduceNeg] at p1 p2 p3 p4
  rcases (by omega : 2 * a + b < 0 ∨ 2 * a + b = 0 ∨ 0 < 2 * a + b) with h | h | h
  all_goals rcases (by omega : b < 0 ∨ b = 0 ∨ 0 < b) with h' | h' | h'
  case inl.inl =>
    have e : GM.sgn a b = -1 := by unfold GM.sgn; rw [if_neg (by omega), if_neg (by omega), if_pos (by omega)]
    have E := Lib.hid e; clear e
    go_enter Tryd.func31, Tryd.ntmps31
    go_wp2
    go_quiet (fail)
    go_wp2
    go_ret
    exact ⟨ret_i E.out.symm, (by repeat (first | exact Below.refl _ _ | exact Nat.le_refl _ | refine Below.alloc ?_ ?_ _ | refine Below.setCell ?_ ?_ _ | refine Below.drew ?_ | refine bl_drewN ?_ _ | (assumption) | refine bl_call ?_ (by assumption) ?_ | omega | (simp <;> omega)))⟩
  case inl.inr.inl =>
    subst h'
    have e : GM.sgn a 0 = -1 := by unfold GM.sgn; rw [if_neg (by omega), if_neg (by omega), if_pos (by omega)]
    have E := Lib.hid e; clear e
    go_enter Tryd.func31, Tryd.ntmps31
    go_wp2
    go_quiet (fail)
    go_wp2
    go_ret
    exact ⟨ret_i E.out.symm, (by repeat (first | exact Below.refl _ _ | exact Nat.le_refl _ | refine Below.alloc ?_ ?_ _ | refine Below.setCell ?_ ?_ _ | refine Below.drew ?_ | refine bl_drewN ?_ _ | (assumption) | refine bl_call ?_ (by assumption) ?_ | omega | (simp <;> omega)))⟩
  case inl.inr.inr =>
    by_cases hq : 5 * b * b < (2 * a + b) * (2 * a + b)
    · have e : GM.sgn a b = -1 := by
        unfold GM.sgn; rw [if_neg (by omega), if_neg (by omega), if_neg (by omega)]
        have h1 : decide (0 < 2 * a + b) = false := by simp; omega
        have h2 : decide (5 * b * b < (2 * a + b) * (2 * a + b)) = true := by simp; omega
        rw [h1, h2]; rfl
      have hq2 : ¬ (2 * a + b) * (2 * a + b) < 5 * b * b := by omega
      have E := Lib.hid e; clear e
      go_enter Tryd.func31, Tryd.ntmps31
      go_wp2
      go_quiet (fail)
      go_wp2
      go_ret
      exact ⟨ret_i E.out.symm, (by repeat (first | exact Below.refl _ _ | exact Nat.le_refl _ | refine Below.alloc ?_ ?_ _ | refine Below.setCell ?_ ?_ _ | refine Below.drew ?_ | refine bl_drewN ?_ _ | (assumption) | refine bl_call ?_ (by assumption) ?_ | omega | (simp <;> omega)))⟩
    · have e : GM.sgn a b = 1 := by
        unfold GM.sgn; rw [if_neg (by omega), if_neg (by omega), if_neg (by omega)]
        have h1 : decide (0 < 2 * a + b) = false := by simp; omega
        have h2 : decide (5 * b * b < (2 * a + b) * (2 * a + b)) = false := by simp; omega
        rw [h1, h2]; rfl
      have hne : (2 * a + b) * (2 * a + b) ≠ 5 * (b * b) := fun e => by have := GM.no_root _ _ e; omega
      have h5 : 5 * b * b = 5 * (b * b) := by grind
      have hq2 : (2 * a + b) * (2 * a + b) < 5 * b * b := by omega
      clear h5
      clear hne
      have E := Lib.hid e; clear e
      go_enter Tryd.func31, Tryd.ntmps31
      go_wp2
      go_quiet (fail)
      go_wp2
      go_ret
      exact ⟨ret_i E.out.symm, (by repeat (first | exact Below.refl _ _ | exact Nat.le_refl _ | refine Below.alloc ?_ ?_ _ | refine Below.setCell ?_ ?_ _ | refine Below.drew ?_ | refine bl_drewN ?_ _ | (assumption) | refine bl_call ?_ (by assumption) ?_ | omega | (simp <;> omega)))⟩
  case inr.inl.inl =>
    have e : GM.sgn a b = -1 := by unfold GM.sgn; rw [if_neg (by omega), if_neg (by omega), if_pos (by omega)]
    have E := Lib.hid e; clear e
    go_enter Tryd.func31, Tryd.ntmps31
    go_wp2
    go_quiet (fail)
    go_wp2
    go_ret
    exact ⟨ret_i E.out.symm, (by repeat (first | exact Below.refl _ _ | exact Nat.le_refl _ | refine Below.alloc ?_ ?_ _ | refine Below.setCell ?_ ?_ _ | refine Below.drew ?_ | refine bl_drewN ?_ _ | (assumption) | refine bl_call ?_ (by assumption) ?_ | omega | (simp <;> omega)))⟩
  case inr.inl.inr.inl =>
    subst h'
    have e : GM.sgn a 0 = 0 := by unfold GM.sgn; rw [if_pos (by omega)]
    have E := Lib.hid e; clear e
    go_enter Tryd.func31, Tryd.ntmps31
    go_wp2
    go_quiet (fail)
    go_wp2
    go_ret
    exact ⟨ret_i E.out.symm, (by repeat (first | exact Below.refl _ _ | exact Nat.le_refl _ | refine Below.alloc ?_ ?_ _ | refine Below.setCell ?_ ?_ _ | refine Below.drew ?_ | refine bl_drewN ?_ _ | (assumption) | refine bl_call ?_ (by assumption) ?_ | omega | (simp <;> omega)))⟩
  case inr.inl.inr.inr =>
    have e : GM.sgn a b = 1 := by unfold GM.sgn; rw [if_neg (by omega), if_pos (by omega)]
    have E := Lib.hid e; clear e
    go_enter Tryd.func31, Tryd.ntmps31
    go_wp2
    go_quiet (fail)
    go_wp2
    go_ret
    exact ⟨ret_i E.out.symm, (by repeat (first | exact Below.refl _ _ | exact Nat.le_refl _ | refine Below.alloc ?_ ?_ _ | refine Below.setCell ?_ ?_ _ | refine Below.drew ?_ | refine bl_drewN ?_ _ | (assumption) | refine bl_call ?_ (by assumption) ?_ | omega | (simp <;> omega)))⟩
  case inr.inr.inl =>
    by_cases hq : 5 * b * b < (2 * a + b) * (2 * a + b)
    · have e : GM.sgn a b = 1 := by
        unfold GM.sgn; rw [if_neg (by omega), if_neg (by omega), if_neg (by omega)]
        have h1 : decide (0 < 2 * a + b) = true := by simp; omega
        have h2 : decide (5 * b * b < (2 * a + b) * (2 * a + b)) = true := by simp; omega
        rw [h1, h2]; rfl
      have hq2 : ¬ (2 * a + b) * (2 * a + b) < 5 * b * b := by omega
      have E := Lib.hid e; clear e
      go_enter Tryd.func31, Tryd.ntmps31
      go_wp2
      go_quiet (fail)
      go_wp2
      go_ret
      exact ⟨ret_i E.out.symm, (by repeat (first | exact Below.refl _ _ | exact Nat.le_refl _ | refine Below.alloc ?_ ?_ _ | refine Below.setCell ?_ ?_ _ | refine Below.drew ?_ | refine bl_drewN ?_ _ | (assumption) | refine bl_call ?_ (by assumption) ?_ | omega | (simp <;> omega)))⟩
    · have e : GM.sgn a b = -1 := by
        unfold GM.sgn; rw [if_neg (by omega), if_neg (by omega), if_neg (by omega)]
        have h1 : decide (0 < 2 * a + b) = true := by simp; omega
        have h2 : decide (5 * b * b < (2 * a + b) * (2 * a + b)) = false := by simp; omega
        rw [h1, h2]; rfl
      have hne : (2 * a + b) * (2 * a + b) ≠ 5 * (b * b) := fun e => by have := GM.no_root _ _ e; omega
      have h5 : 5 * b * b = 5 * (b * b) := by grind
      have hq2 : (2 * a + b) * (2 * a + b) < 5 * b * b := by omega
      clear h5
      clear hne
      have E := Lib.hid e; clear e
      go_enter Tryd.func31, Tryd.ntmps31
      go_wp2
      go_quiet (fail)
      go_wp2
      go_ret
      exact ⟨ret_i E.out.symm, (by repeat (first | exact Below.refl _ _ | exact Nat.le_refl _ | refine Below.alloc ?_ ?_ _ | refine Below.setCell ?_ ?_ _ | refine Below.drew ?_ | refine bl_drewN ?_ _ | (assumption) | refine bl_call ?_ (by assumption) ?_ | omega | (simp <;> omega)))⟩
  case inr.inr.inr.inl =>
    subst h'
    have e : GM.sgn a 0 = 1 := by unfold GM.sgn; rw [if_neg (by omega), if_pos (by omega)]
    have E := Lib.hid e; clear e
    go_enter Tryd.func31, Tryd.ntmps31
    go_wp2
    go_quiet (fail)
    go_wp2
    go_ret
    exact ⟨ret_i E.out.symm, (by repeat (first | exact Below.refl _ _ | exact Nat.le_refl _ | refine Below.alloc ?_ ?_ _ | refine Below.setCell ?_ ?_ _ | refine Below.drew ?_ | refine bl_drewN ?_ _ | (assumption) | refine bl_call ?_ (by assumption) ?_ | omega | (simp <;> omega)))⟩
  case inr.inr.inr.inr =>
    have e : GM.sgn a b = 1 := by unfold GM.sgn; rw [if_neg (by omega), if_pos (by omega)]
    have E := Lib.hid e; clear e
    go_enter Tryd.func31, Tryd.ntmps31
    go_wp2
    go_quiet (fail)
    go_wp2
    go_ret
    exact ⟨ret_i E.out.symm, (by repeat (first | exact Below.refl _ _ | exact Nat.le_refl _ | refine Below.alloc ?_ ?_ _ | refine Below.setCell ?_ ?_ _ | refine Below.drew ?_ | refine bl_drewN ?_ _ | (assumption) | refine bl_call ?_ (by assumption) ?_ | omega | (simp <;> omega)))⟩

/-- what mod makes of an int -/
def modZ (x n : Int) : Int := (x % 18446744073709551616) % n
theorem modZ_bd (x n : Int) (h : 0 < n) : 0 ≤ modZ x n ∧ modZ x n < n := ⟨Int.emod_nonneg _ (by omega), Int.emod_lt_of_pos _ h⟩
end Go.Proofs.YtgocloilagcfoabDoor
