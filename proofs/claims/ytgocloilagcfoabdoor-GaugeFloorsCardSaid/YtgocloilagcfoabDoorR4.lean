/- The reference's root and Floor. -/
import Derived.Test.YtgocloilagcfoabDoorR1
import Derived.Test.YtgocloilagcfoabDoorC5
import Derived.Test.YtgocloilagcfoabDoorM3
import Derived.Test.YtgocloilagcfoabDoorD1
namespace Go.Proofs.YtgocloilagcfoabDoor
open Go.RowKit
attribute [local go_sem ↓] Go.wp_at_zero Go.wp_at_succ

set_option maxHeartbeats 1000000 in
theorem refRoot (n : Int) (w : World) (h0 : 0 ≤ n) (h1 : n ≤ 5000000000000) :
    Calls Tryd.prog 72 #[.int .i64 n] w fun e w' => ∃ r, e = .returned (.int .i64 r) ∧ 0 ≤ r ∧ r ≤ 2147483648 ∧ r * r ≤ n ∧ n < (r + 1) * (r + 1) ∧ Below w.heap.size w w' := by
  go_enter Tryd.func72, Tryd.ntmps72
  go_wp2_with fail
  go_loopw [3, 4] (fun x y wr => ∃ l h : Int, x = .int .i64 l ∧ y = .int .i64 h ∧ 0 ≤ l ∧ l < h ∧ h ≤ 2147483648 ∧ l * l ≤ n ∧ Hid (n < h * h) ∧ Below w.heap.size w wr) (fun x y _ => (intOf y - intOf x).toNat)
  case atStart => exact ⟨0, 2147483648, rfl, rfl, by omega, by omega, by omega, by omega, Lib.hid (by omega), Below.refl _ _⟩
  case round =>
    obtain ⟨l, h, rfl, rfl, l0, lh, hm, hl, hh, B⟩ := hrel
    by_cases hlt : l + 1 < h
    · obtain ⟨m1, m2⟩ := tdiv_mid l h hlt
      obtain ⟨m, hmm⟩ : ∃ m, (l + h).tdiv 2 = m := ⟨_, rfl⟩
      have hq : (l + h) / 2 = m := by rw [← hmm, Int.tdiv_eq_ediv_of_nonneg (by omega)]
      rw [hmm] at m1 m2
      obtain ⟨p1, p2⟩ := mul_bd (a := m) (b := m) (A := 2147483648) (B := 2147483648) (by omega) (by omega) (by omega) (by omega)
      simp only [Int.reduceMul, Int.reduceNeg] at p1 p2
      by_cases hc : m * m ≤ n
      · go_wp2_with fail
        go_roundw
        case rel => exact ⟨m, h, rfl, rfl, by omega, by omega, hm, hc, hh, B⟩
        case measure => simp [intOf]; omega
      · go_wp2_with fail
        go_roundw
        case rel => exact ⟨l, m, rfl, rfl, l0, by omega, by omega, hl, Lib.hid (by omega), B⟩
        case measure => simp [intOf]; omega
    · obtain rfl : h = l + 1 := by omega
      go_wp2_with fail
      go_ret
      exact ⟨_, rfl, l0, by omega, hl, hh.out, B⟩
set_option maxHeartbeats 1000000 in
theorem refFloor (a b : Int) (w : World) (a1 : -1000000 ≤ a) (a2 : a ≤ 1000000) (b1 : -1000000 ≤ b) (b2 : b ≤ 1000000) :
    Calls Tryd.prog 43 #[.agg #[.int .i64 a, .int .i64 b]] w fun e w' => ∃ n, e = .returned (.int .i64 n) ∧ FloorIs a b n ∧ Below w.heap.size w w' := by
  by_cases hb : b < 0
  · have hmx : max b (-b) = -b := by omega
    obtain ⟨p1, p2⟩ := mul_bd (a := 5 * -b) (b := -b) (A := 5000000) (B := 1000000) (by omega) (by omega) (by omega) (by omega)
    have p0 : 0 ≤ 5 * -b * -b := Int.mul_nonneg (by omega) (by omega)
    simp only [Int.reduceMul, Int.reduceNeg] at p1 p2
    have HR := Lib.hid (fun wx => refRoot (5 * -b * -b) wx p0 (by omega))
    go_enter Tryd.func43, Tryd.ntmps43
    go_wp2_with fail
    refine (HR.out _).mono ?_
    rintro e w1 ⟨r, rfl, r0, r1, hr1, hr2, hb1⟩
    have z1_0 : w.heap.size < w1.heap.size := by have := hb1.size; (try simp at this); omega
    have c1_0_0 : w1.cell? ⟨w.heap.size, 0, none⟩ = some (.int .i64 a) := keep_cell hb1 (by first | assumption | (go_simp; done) | (simp; done) | simp [*])
    have c1_0_1 : w1.cell? ⟨w.heap.size, 1, none⟩ = some (.int .i64 b) := keep_cell hb1 (by first | assumption | (go_simp; done) | (simp; done) | simp [*])
    have B1 : Below w.heap.size w w1 := bl_call (by repeat (first | exact Below.refl _ _ | exact Nat.le_refl _ | refine Below.alloc ?_ ?_ _ | refine Below.setCell ?_ ?_ _ | refine Below.drew ?_ | refine bl_drewN ?_ _ | (assumption) | refine bl_call ?_ (by assumption) ?_ | omega | (simp <;> omega))) hb1 (by first | assumption | (simp; done) | (simp; omega) | omega)
    clear hb1
    have hsz_1 := B1.size
    have hdv : ((-b) + r).tdiv 2 = ((-b) + r) / 2 := Int.tdiv_eq_ediv_of_nonneg (by omega)
    go_wp2_with fail
    go_ret
    exact ⟨_, rfl, GM.floor_root_neg a b r hb r0 (by rw [← Int.mul_assoc]; exact hr1) (by rw [← Int.mul_assoc]; exact hr2), (by repeat (first | exact Below.refl _ _ | exact Nat.le_refl _ | refine Below.alloc ?_ ?_ _ | refine Below.setCell ?_ ?_ _ | refine Below.drew ?_ | refine bl_drewN ?_ _ | (assumption) | refine bl_call ?_ (by assumption) ?_ | omega | (simp <;> omega)))⟩
  · have hmx : max b (-b) = b := by omega
    obtain ⟨p1, p2⟩ := mul_bd (a := 5 * b) (b := b) (A := 5000000) (B := 1000000) (by omega) (by omega) (by omega) (by omega)
    have p0 : 0 ≤ 5 * b * b := Int.mul_nonneg (by omega) (by omega)
    simp only [Int.reduceMul, Int.reduceNeg] at p1 p2
    have HR := Lib.hid (fun wx => refRoot (5 * b * b) wx p0 (by omega))
    go_enter Tryd.func43, Tryd.ntmps43
    go_wp2_with fail
    refine (HR.out _).mono ?_
    rintro e w1 ⟨r, rfl, r0, r1, hr1, hr2, hb1⟩
    have z1_0 : w.heap.size < w1.heap.size := by have := hb1.size; (try simp at this); omega
    have c1_0_0 : w1.cell? ⟨w.heap.size, 0, none⟩ = some (.int .i64 a) := keep_cell hb1 (by first | assumption | (go_simp; done) | (simp; done) | simp [*])
    have c1_0_1 : w1.cell? ⟨w.heap.size, 1, none⟩ = some (.int .i64 b) := keep_cell hb1 (by first | assumption | (go_simp; done) | (simp; done) | simp [*])
    have B1 : Below w.heap.size w w1 := bl_call (by repeat (first | exact Below.refl _ _ | exact Nat.le_refl _ | refine Below.alloc ?_ ?_ _ | refine Below.setCell ?_ ?_ _ | refine Below.drew ?_ | refine bl_drewN ?_ _ | (assumption) | refine bl_call ?_ (by assumption) ?_ | omega | (simp <;> omega))) hb1 (by first | assumption | (simp; done) | (simp; omega) | omega)
    clear hb1
    have hsz_1 := B1.size
    have hdv : ((b) + r).tdiv 2 = ((b) + r) / 2 := Int.tdiv_eq_ediv_of_nonneg (by omega)
    go_wp2_with fail
    go_ret
    exact ⟨_, rfl, GM.floor_root_pos a b r (by omega) r0 (by rw [← Int.mul_assoc]; exact hr1) (by rw [← Int.mul_assoc]; exact hr2), (by repeat (first | exact Below.refl _ _ | exact Nat.le_refl _ | refine Below.alloc ?_ ?_ _ | refine Below.setCell ?_ ?_ _ | refine Below.drew ?_ | refine bl_drewN ?_ _ | (assumption) | refine bl_call ?_ (by assumption) ?_ | omega | (simp <;> omega)))⟩
end Go.Proofs.YtgocloilagcfoabDoor
