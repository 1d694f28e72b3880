/- Divide returns the quotient and the rest, or the error. -/
import Derived.Test.YtgocloilagcfoabDoorC6
import Derived.Deep.DeepCutAuto
import Derived.Test.YtgocloilagcfoabDoorD1
namespace Go.Proofs.YtgocloilagcfoabDoor
open Go.RowKit
attribute [local go_sem ↓] Go.wp_at_zero Go.wp_at_succ

/-- the coordinates of x times the mate of y, and the norm of y -/
def zA (a b c d : Int) : Int := a * (c + d) + b * -d
def zB (a b c d : Int) : Int := a * -d + b * (c + d) + b * -d
def nm (c d : Int) : Int := c * c + c * d - d * d
/-- the quotient -/
def quo (a b c d : Int) : Int × Int := (nearZ (zA a b c d) (nm c d), nearZ (zB a b c d) (nm c d))
/-- the rest -/
def rem (a b c d : Int) : Int × Int := (a - ((quo a b c d).1 * c + (quo a b c d).2 * d), b - ((quo a b c d).1 * d + (quo a b c d).2 * c + (quo a b c d).2 * d))

theorem nm_zero (c d : Int) (h : nm c d = 0) : c = 0 ∧ d = 0 := by
  have e : (2 * c + d) * (2 * c + d) = 5 * (d * d) := by unfold nm at h; grind
  have h1 := GM.no_root _ _ e
  subst h1
  have h2 : c * c = 0 := by unfold nm at h; simpa using h
  rcases Int.mul_eq_zero.1 h2 with h3 | h3 <;> exact ⟨h3, rfl⟩

theorem near_bd (n d X : Int) (h1 : -X ≤ n) (h2 : n ≤ X) (hX : 0 ≤ X) (hd : d ≠ 0) : -X - 1 ≤ nearZ n d ∧ nearZ n d ≤ X + 1 := by
  have key : ∀ n d : Int, 0 < d → -X ≤ n → n ≤ X → -X - 1 ≤ (2 * n + d - 1) / (2 * d) ∧ (2 * n + d - 1) / (2 * d) ≤ X + 1 := by
    intro n d hd h1 h2
    constructor
    · rw [Int.le_ediv_iff_mul_le (by omega)]
      have : 0 ≤ (X + 1) * (d - 1) := Int.mul_nonneg (by omega) (by omega)
      have e : (-X - 1) * (2 * d) = -2 * ((X + 1) * (d - 1)) - 2 * (X + 1) := by grind
      rw [e]; omega
    · have h3 : (2 * n + d - 1) / (2 * d) < X + 2 := by
        rw [Int.ediv_lt_iff_lt_mul (by omega)]
        have : 0 ≤ (X + 2) * (d - 1) := Int.mul_nonneg (by omega) (by omega)
        have e : (X + 2) * (2 * d) = 2 * ((X + 2) * (d - 1)) + 2 * (X + 2) := by grind
        have e2 : (X + 2) * (d - 1) = (X + 1) * (d - 1) + (d - 1) := by grind
        have : 0 ≤ (X + 1) * (d - 1) := Int.mul_nonneg (by omega) (by omega)
        rw [e]; omega
      omega
  unfold nearZ
  by_cases hneg : d < 0
  · rw [if_pos hneg]; exact key (-n) (-d) (by omega) (by omega) (by omega)
  · rw [if_neg hneg]; exact key n d (by omega) h1 h2

set_option maxHeartbeats 400000 in
theorem product_wide (a b c d : Int) (w : World) (a1 : -3000000000001 ≤ a) (a2 : a ≤ 3000000000001) (b1 : -2000000000001 ≤ b) (b2 : b ≤ 2000000000001) (c1 : -1000000 ≤ c) (c2 : c ≤ 1000000) (d1 : -1000000 ≤ d) (d2 : d ≤ 1000000) :
    Calls Tryd.prog 60 #[.agg #[.int .i64 a, .int .i64 b], .agg #[.int .i64 c, .int .i64 d]] w fun e w' => e = .returned (.agg #[.int .i64 (a * c + b * d), .int .i64 (a * d + b * c + b * d)]) ∧ Below w.heap.size w w' := by
  obtain ⟨p1, p2⟩ := mul_bd a1 a2 c1 c2
  obtain ⟨p3, p4⟩ := mul_bd b1 b2 d1 d2
  obtain ⟨p5, p6⟩ := mul_bd a1 a2 d1 d2
  obtain ⟨p7, p8⟩ := mul_bd b1 b2 c1 c2
  simp only [Int.reduceMul, Int.reduceNeg] at p1 p2 p3 p4 p5 p6 p7 p8
  go_enter Tryd.func60, Tryd.ntmps60
  go_wp2
  exact bodyPost_ret (v := .agg #[.int .i64 (a * c + b * d), .int .i64 (a * d + b * c + b * d)]) (by simp [results, Tryd.results60, go_sem]) rfl ⟨rfl, (by repeat (first | exact Below.refl _ _ | exact Nat.le_refl _ | refine Below.alloc ?_ ?_ _ | refine Below.setCell ?_ ?_ _ | refine Below.drew ?_ | refine bl_drewN ?_ _ | (assumption) | refine bl_call ?_ (by assumption) ?_ | omega | (simp <;> omega)))⟩

theorem zA_bd {a b c d : Int} (a1 : -1000000 ≤ a) (a2 : a ≤ 1000000) (b1 : -1000000 ≤ b) (b2 : b ≤ 1000000) (c1 : -1000000 ≤ c) (c2 : c ≤ 1000000) (d1 : -1000000 ≤ d) (d2 : d ≤ 1000000) :
    -3000000000000 ≤ zA a b c d ∧ zA a b c d ≤ 3000000000000 ∧ -2000000000000 ≤ zB a b c d ∧ zB a b c d ≤ 2000000000000 ∧ -3000000000000 ≤ nm c d ∧ nm c d ≤ 3000000000000 := by
  obtain ⟨p1, p2⟩ := mul_bd a1 a2 c1 c2
  obtain ⟨p3, p4⟩ := mul_bd b1 b2 d1 d2
  obtain ⟨p5, p6⟩ := mul_bd a1 a2 d1 d2
  obtain ⟨p7, p8⟩ := mul_bd b1 b2 c1 c2
  obtain ⟨q1, q2⟩ := mul_bd c1 c2 d1 d2
  obtain ⟨q3, q4⟩ := mul_bd c1 c2 c1 c2
  obtain ⟨q5, q6⟩ := mul_bd d1 d2 d1 d2
  simp only [Int.reduceMul, Int.reduceNeg] at p1 p2 p3 p4 p5 p6 p7 p8 q1 q2 q3 q4 q5 q6
  have e1 : zA a b c d = a * c + a * d - b * d := by unfold zA; grind
  have e2 : zB a b c d = b * c - a * d := by unfold zB; grind
  rw [e1, e2]
  unfold nm
  omega

/-- what the walk is told of the quotient -/
theorem quo_bd {a b c d : Int} (a1 : -1000000 ≤ a) (a2 : a ≤ 1000000) (b1 : -1000000 ≤ b) (b2 : b ≤ 1000000) (c1 : -1000000 ≤ c) (c2 : c ≤ 1000000) (d1 : -1000000 ≤ d) (d2 : d ≤ 1000000) (h : ¬ (c = 0 ∧ d = 0)) :
    nm c d ≠ 0 ∧ -3000000000001 ≤ (quo a b c d).1 ∧ (quo a b c d).1 ≤ 3000000000001 ∧ -2000000000001 ≤ (quo a b c d).2 ∧ (quo a b c d).2 ≤ 2000000000001 := by
  obtain ⟨z1, z2, z3, z4, z5, z6⟩ := zA_bd a1 a2 b1 b2 c1 c2 d1 d2
  have hn : nm c d ≠ 0 := fun e => h (nm_zero c d e)
  have k1 := near_bd (zA a b c d) (nm c d) 3000000000000 z1 z2 (by decide) hn
  have k2 := near_bd (zB a b c d) (nm c d) 2000000000000 z3 z4 (by decide) hn
  unfold quo
  simp only []
  omega

/-- what Divide hands back for two numbers, the second one not 0 -/
def divV (a b c d : Int) : Value :=
  if isN (quo a b c d).1 (quo a b c d).2 && isN (rem a b c d).1 (rem a b c d).2 then .tuple #[.agg #[.int .i64 (quo a b c d).1, .int .i64 (quo a b c d).2], .agg #[.int .i64 (rem a b c d).1, .int .i64 (rem a b c d).2], .int .i64 0]
  else .tuple #[.agg #[.int .i64 0, .int .i64 0], .agg #[.int .i64 0, .int .i64 0], .int .i64 5]
theorem divV_of {a b c d Q1 Q2 Pa Pb : Int} (h1 : (quo a b c d).1 = Q1) (h2 : (quo a b c d).2 = Q2) (h3 : Q1 * c + Q2 * d = Pa) (h4 : Q1 * d + Q2 * c + Q2 * d = Pb) :
    divV a b c d = if isN Q1 Q2 && isN (a + -Pa) (b + -Pb) then .tuple #[.agg #[.int .i64 Q1, .int .i64 Q2], .agg #[.int .i64 (a + -Pa), .int .i64 (b + -Pb)], .int .i64 0]
      else .tuple #[.agg #[.int .i64 0, .int .i64 0], .agg #[.int .i64 0, .int .i64 0], .int .i64 5] := by
  unfold divV rem
  rw [h1, h2, h3, h4]
  simp only [Int.sub_eq_add_neg]
end Go.Proofs.YtgocloilagcfoabDoor
