/- Plain mathematics of norms: a rest has a smaller norm; norms multiply. -/
import Derived.Test.YtgocloilagcfoaaDoorM3
namespace Go.Proofs.YtgocloilagcfoaaDoor.GM

def nrm (x : G) : Int := x.1 * x.1 + x.1 * x.2 - x.2 * x.2
def mt (x : G) : G := (x.1 + x.2, -x.2)
theorem nrm_mul (x y : G) : nrm (mul x y) = nrm x * nrm y := by unfold nrm mul; simp only; grind
theorem mt_mul (x y : G) : mt (mul x y) = mul (mt x) (mt y) := by unfold mt mul; simp only [Prod.mk.injEq]; constructor <;> grind
theorem mul_mt (x : G) : mul x (mt x) = (nrm x, 0) := by unfold mt mul nrm; simp only [Prod.mk.injEq]; constructor <;> grind
theorem mt_mt (x : G) : mt (mt x) = x := by unfold mt; ext <;> simp <;> omega
theorem nrm_mt (x : G) : nrm (mt x) = nrm x := by unfold nrm mt; simp only; grind
theorem nrm_zero (x : G) (h : nrm x = 0) : x = (0, 0) := by
  obtain ⟨c, d⟩ := x
  unfold nrm at h
  simp only at h
  have hd := no_root (2 * c + d) d (by grind)
  subst hd
  have hc : c = 0 := by
    have h2 : c * c = 0 := by simpa using h
    rcases Int.mul_eq_zero.1 h2 with h | h <;> exact h
  simp [hc]

/-- the rest of a division has at most half the norm -/
theorem rest_norm (q1 q2 : Int) (x y : G) (n : Int) (hn : nrm y = n)
    (h1 : 2 * ((mul x (mt y)).1 - q1 * n) ≤ n.natAbs) (h2 : -(n.natAbs : Int) ≤ 2 * ((mul x (mt y)).1 - q1 * n))
    (h3 : 2 * ((mul x (mt y)).2 - q2 * n) ≤ n.natAbs) (h4 : -(n.natAbs : Int) ≤ 2 * ((mul x (mt y)).2 - q2 * n)) (h0 : n ≠ 0) :
    2 * (nrm (sub x (mul (q1, q2) y))).natAbs ≤ n.natAbs := by
  obtain ⟨e1, he1⟩ : ∃ e, (mul x (mt y)).1 - q1 * n = e := ⟨_, rfl⟩
  obtain ⟨e2, he2⟩ : ∃ e, (mul x (mt y)).2 - q2 * n = e := ⟨_, rfl⟩
  obtain ⟨R, hR⟩ : ∃ R, nrm (sub x (mul (q1, q2) y)) = R := ⟨_, rfl⟩
  obtain ⟨N, hN⟩ : ∃ N : Int, (n.natAbs : Int) = N := ⟨_, rfl⟩
  have key : R * n = e1 * e1 + e1 * e2 - e2 * e2 := by
    rw [← hR, ← he1, ← he2, ← hn]
    obtain ⟨a, b⟩ := x
    obtain ⟨c, d⟩ := y
    unfold nrm mul mt sub
    simp only
    grind
  rw [he1, hN] at h1 h2
  rw [he2, hN] at h3 h4
  rw [hR]
  have hNpos : 0 < N := by omega
  have hN2 : N * N = n * n := by rw [← hN]; exact Int.natAbs_mul_self' n
  have b1 : 0 ≤ (N - 2 * e1) * (N + 2 * e1) := Int.mul_nonneg (by omega) (by omega)
  have b2 : 0 ≤ (N - 2 * e2) * (N + 2 * e2) := Int.mul_nonneg (by omega) (by omega)
  have b3 : 0 ≤ (N - 2 * e1) * (N + 2 * e2) := Int.mul_nonneg (by omega) (by omega)
  have b4 : 0 ≤ (N + 2 * e1) * (N - 2 * e2) := Int.mul_nonneg (by omega) (by omega)
  have b5 : 0 ≤ (N - 2 * e1) * (N - 2 * e2) := Int.mul_nonneg (by omega) (by omega)
  have b6 : 0 ≤ (N + 2 * e1) * (N + 2 * e2) := Int.mul_nonneg (by omega) (by omega)
  have s1 : 0 ≤ e1 * e1 := by have := Int.natAbs_mul_self' e1; rw [← this]; exact Int.mul_nonneg (by omega) (by omega)
  have s2 : 0 ≤ e2 * e2 := by have := Int.natAbs_mul_self' e2; rw [← this]; exact Int.mul_nonneg (by omega) (by omega)
  have u1 : 2 * (R * n) ≤ N * N := by rw [key]; grind
  have u2 : -(N * N) ≤ 2 * (R * n) := by rw [key]; grind
  rcases Int.lt_or_le (n.natAbs : Int) (2 * R.natAbs) with hlt | hle
  · exfalso
    have hm : (N + 1) * N ≤ (2 * (R.natAbs : Int)) * N := Int.mul_le_mul_of_nonneg_right (by omega) (by omega)
    have e : (2 * (R.natAbs : Int)) * N = 2 * ((R * n).natAbs : Int) := by
      rw [Int.natAbs_mul, ← hN, Int.natCast_mul, Int.mul_assoc]
    have : (N + 1) * N = N * N + N := by grind
    omega
  · omega
end Go.Proofs.YtgocloilagcfoaaDoor.GM
