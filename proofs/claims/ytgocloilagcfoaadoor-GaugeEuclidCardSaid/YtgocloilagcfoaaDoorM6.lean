/- Plain laws of the quotient: the rest is small, multiples leave none. -/
import Derived.Test.YtgocloilagcfoaaDoorC7
import Derived.Test.YtgocloilagcfoaaDoorM4
namespace Go.Proofs.YtgocloilagcfoaaDoor

theorem near_pos (z n : Int) (h : 0 < n) : -n ≤ 2 * (z - (2 * z + n - 1) / (2 * n) * n) ∧ 2 * (z - (2 * z + n - 1) / (2 * n) * n) ≤ n := by
  have h1 := Int.mul_ediv_add_emod (2 * z + n - 1) (2 * n)
  have h2 := Int.emod_nonneg (2 * z + n - 1) (show 2 * n ≠ 0 by omega)
  have h3 := Int.emod_lt_of_pos (2 * z + n - 1) (show 0 < 2 * n by omega)
  generalize (2 * z + n - 1) / (2 * n) = q at *
  have e : 2 * n * q = 2 * (q * n) := by grind
  rw [e] at h1
  generalize q * n = t at *
  omega
theorem near_half (z n : Int) (h : n ≠ 0) : -(n.natAbs : Int) ≤ 2 * (z - nearZ z n * n) ∧ 2 * (z - nearZ z n * n) ≤ n.natAbs := by
  unfold nearZ
  split
  · have := near_pos (-z) (-n) (by omega)
    generalize (2 * -z + -n - 1) / (2 * -n) = q at *
    rw [Int.mul_neg] at this
    generalize q * n = t at *
    omega
  · have := near_pos z n (by omega)
    generalize (2 * z + n - 1) / (2 * n) = q at *
    generalize q * n = t at *
    omega
theorem near_mul (z n : Int) (h : n ≠ 0) : nearZ (z * n) n = z := by
  obtain ⟨h1, h2⟩ := near_half (z * n) n h
  generalize nearZ (z * n) n = q at *
  have e : z * n - q * n = (z - q) * n := by grind
  rw [e] at h1 h2
  rcases Int.lt_trichotomy z q with hl | hl | hl
  · exfalso
    have : ((z - q) * n).natAbs ≥ n.natAbs := by rw [Int.natAbs_mul]; exact Nat.le_mul_of_pos_left _ (by omega)
    omega
  · exact hl.symm
  · exfalso
    have : ((z - q) * n).natAbs ≥ n.natAbs := by rw [Int.natAbs_mul]; exact Nat.le_mul_of_pos_left _ (by omega)
    omega
theorem quo_mul (z1 z2 c d : Int) (h : nm c d ≠ 0) : quo (z1 * c + z2 * d) (z1 * d + z2 * c + z2 * d) c d = (z1, z2) := by
  have e1 : zA (z1 * c + z2 * d) (z1 * d + z2 * c + z2 * d) c d = z1 * nm c d := by unfold zA nm; grind
  have e2 : zB (z1 * c + z2 * d) (z1 * d + z2 * c + z2 * d) c d = z2 * nm c d := by unfold zB nm; grind
  unfold quo
  rw [e1, e2, near_mul _ _ h, near_mul _ _ h]
theorem rest_small (a b c d : Int) (h : nm c d ≠ 0) : 2 * (nm (a - ((quo a b c d).1 * c + (quo a b c d).2 * d)) (b - ((quo a b c d).1 * d + (quo a b c d).2 * c + (quo a b c d).2 * d))).natAbs ≤ (nm c d).natAbs := by
  have h1 := near_half (zA a b c d) (nm c d) h
  have h2 := near_half (zB a b c d) (nm c d) h
  exact GM.rest_norm (quo a b c d).1 (quo a b c d).2 (a, b) (c, d) (nm c d) rfl h1.2 h1.1 h2.2 h2.1 h
end Go.Proofs.YtgocloilagcfoaaDoor
