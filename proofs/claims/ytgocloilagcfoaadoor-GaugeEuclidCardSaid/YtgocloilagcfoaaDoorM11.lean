/- Dividing again and again: what stays the same, and why it ends. -/
import Derived.Test.YtgocloilagcfoaaDoorC8
import Derived.Test.YtgocloilagcfoaaDoorM6
namespace Go.Proofs.YtgocloilagcfoaaDoor
open Go.RowKit

/-- both numbers are sums of multiples of a and b; the norm of b has been halved i times -/
def Euc (i : Nat) (X1 X2 Y1 Y2 a1 a2 b1 b2 : Int) : Prop :=
  (∃ p1 p2 q1 q2 r1 r2 s1 s2 : Int, X1 = p1 * a1 + p2 * a2 + (q1 * b1 + q2 * b2) ∧ X2 = p1 * a2 + p2 * a1 + p2 * a2 + (q1 * b2 + q2 * b1 + q2 * b2) ∧
    Y1 = r1 * a1 + r2 * a2 + (s1 * b1 + s2 * b2) ∧ Y2 = r1 * a2 + r2 * a1 + r2 * a2 + (s1 * b2 + s2 * b1 + s2 * b2)) ∧ 2 ^ i * (nm b1 b2).natAbs ≤ 300000 ∧ isN a1 a2 = true ∧ isN b1 b2 = true
theorem euc_start (X1 X2 Y1 Y2 : Int) (x1 : -300 ≤ X1 ∧ X1 ≤ 300) (x2 : -300 ≤ X2 ∧ X2 ≤ 300) (y1 : -300 ≤ Y1 ∧ Y1 ≤ 300) (y2 : -300 ≤ Y2 ∧ Y2 ≤ 300) : Euc 0 X1 X2 Y1 Y2 X1 X2 Y1 Y2 := by
  refine ⟨⟨1, 0, 0, 0, 0, 0, 1, 0, by simp, by simp, by simp, by simp⟩, ?_, (isN_iff _ _).2 ⟨by omega, by omega, by omega, by omega⟩, (isN_iff _ _).2 ⟨by omega, by omega, by omega, by omega⟩⟩
  obtain ⟨pa, qa⟩ := mul_bd (a := Y1) (b := Y1) (A := 300) (B := 300) y1.1 y1.2 y1.1 y1.2
  obtain ⟨pb, qb⟩ := mul_bd (a := Y1) (b := Y2) (A := 300) (B := 300) y1.1 y1.2 y2.1 y2.2
  obtain ⟨pc, qc⟩ := mul_bd (a := Y2) (b := Y2) (A := 300) (B := 300) y2.1 y2.2 y2.1 y2.2
  simp only [Int.reduceMul, Int.reduceNeg] at pa qa pb qb pc qc
  unfold nm
  omega
theorem euc_step {i : Nat} {X1 X2 Y1 Y2 a1 a2 b1 b2 : Int} (h : Euc i X1 X2 Y1 Y2 a1 a2 b1 b2) (hb : ¬ (b1 = 0 ∧ b2 = 0)) (hn : isN (rem a1 a2 b1 b2).1 (rem a1 a2 b1 b2).2 = true) :
    Euc (i + 1) X1 X2 Y1 Y2 b1 b2 (rem a1 a2 b1 b2).1 (rem a1 a2 b1 b2).2 := by
  obtain ⟨⟨p1, p2, q1, q2, r1, r2, s1, s2, e1, e2, e3, e4⟩, h2, h3, h4⟩ := h
  have hs := rest_small a1 a2 b1 b2 (fun e => hb (nm_zero _ _ e))
  refine ⟨?_, ?_, h4, hn⟩
  · unfold rem
    dsimp only
    generalize (quo a1 a2 b1 b2).1 = u
    generalize (quo a1 a2 b1 b2).2 = v
    refine ⟨p1 * u + p2 * v + q1, p1 * v + p2 * u + p2 * v + q2, p1, p2, r1 * u + r2 * v + s1, r1 * v + r2 * u + r2 * v + s2, r1, r2, ?_, ?_, ?_, ?_⟩
    · rw [e1]; grind
    · rw [e2]; grind
    · rw [e3]; grind
    · rw [e4]; grind
  · have e : nm (rem a1 a2 b1 b2).1 (rem a1 a2 b1 b2).2 = nm (a1 - ((quo a1 a2 b1 b2).1 * b1 + (quo a1 a2 b1 b2).2 * b2)) (a2 - ((quo a1 a2 b1 b2).1 * b2 + (quo a1 a2 b1 b2).2 * b1 + (quo a1 a2 b1 b2).2 * b2)) := rfl
    rw [e, Nat.pow_succ, Nat.mul_assoc]
    exact Nat.le_trans (Nat.mul_le_mul_left _ hs) h2
theorem euc_few {i : Nat} {X1 X2 Y1 Y2 a1 a2 b1 b2 : Int} (h : Euc i X1 X2 Y1 Y2 a1 a2 b1 b2) (hb : ¬ (b1 = 0 ∧ b2 = 0)) : i < 19 := by
  rcases Nat.lt_or_ge i 19 with hi | hi
  · exact hi
  · exfalso
    have h1 : 2 ^ 19 ≤ 2 ^ i := Nat.pow_le_pow_right (by decide) hi
    have h2 : 1 ≤ (nm b1 b2).natAbs := by
      have : nm b1 b2 ≠ 0 := fun e => hb (nm_zero _ _ e)
      omega
    have h3 := Nat.mul_le_mul h1 h2
    have h4 := h.2.1
    omega
theorem euc_end {i : Nat} {X1 X2 Y1 Y2 a1 a2 : Int} (h : Euc i X1 X2 Y1 Y2 a1 a2 0 0) :
    isN a1 a2 = true ∧ ∃ p1 p2 r1 r2 : Int, X1 = p1 * a1 + p2 * a2 ∧ X2 = p1 * a2 + p2 * a1 + p2 * a2 ∧ Y1 = r1 * a1 + r2 * a2 ∧ Y2 = r1 * a2 + r2 * a1 + r2 * a2 := by
  obtain ⟨⟨p1, p2, q1, q2, r1, r2, s1, s2, e1, e2, e3, e4⟩, h2, h3, h4⟩ := h
  exact ⟨h3, p1, p2, r1, r2, by rw [e1]; simp, by rw [e2]; simp, by rw [e3]; simp, by rw [e4]; simp⟩
/-- a multiple is divided without a rest, or the quotient is no number -/
theorem div_multiple (X1 X2 a1 a2 p1 p2 : Int) (h1 : X1 = p1 * a1 + p2 * a2) (h2 : X2 = p1 * a2 + p2 * a1 + p2 * a2) (ha : ¬ (a1 = 0 ∧ a2 = 0)) :
    ∃ u v e : Int, divV X1 X2 a1 a2 = .tuple #[.agg #[.int .i64 u, .int .i64 v], .agg #[.int .i64 0, .int .i64 0], .int .i64 e] ∧ (e = 0 ∨ e = 5) := by
  subst h1 h2
  unfold divV rem
  rw [quo_mul p1 p2 a1 a2 (fun e => ha (nm_zero _ _ e))]
  dsimp only
  rw [Int.sub_self, Int.sub_self]
  by_cases hk : (isN p1 p2 && isN 0 0) = true
  · rw [if_pos hk]; exact ⟨_, _, _, rfl, .inl rfl⟩
  · rw [if_neg hk]; exact ⟨_, _, _, rfl, .inr rfl⟩
theorem eql_zero (a1 a2 : Int) (ha : ¬ (a1 = 0 ∧ a2 = 0)) : ∀ wx : World, (binOp .eql 23 (.agg #[.int .i64 a1, .int .i64 a2]) (.agg #[.int .i64 0, .int .i64 0])).run Tryd.prog wx = .ok (.bool false) wx := by
  have hne : ((a1 == 0) && (a2 == 0)) = false := by
    cases h : (a1 == 0) && (a2 == 0)
    · rfl
    · exfalso; apply ha; simpa using h
  intro wx
  rw [← hne]
  by_cases hc : a1 = 0 <;> by_cases hd : a2 = 0 <;> simp [go_sem, hc, hd]
theorem neq_zero (a1 a2 : Int) (ha : ¬ (a1 = 0 ∧ a2 = 0)) : ∀ wx : World, (binOp .neq 23 (.agg #[.int .i64 a1, .int .i64 a2]) (.agg #[.int .i64 0, .int .i64 0])).run Tryd.prog wx = .ok (.bool true) wx := by
  have hne : (!((a1 == 0) && (a2 == 0))) = true := by
    cases h : (a1 == 0) && (a2 == 0)
    · rfl
    · exfalso; apply ha; simpa using h
  intro wx
  rw [← hne]
  by_cases hc : a1 = 0 <;> by_cases hd : a2 = 0 <;> simp [go_sem, hc, hd]
end Go.Proofs.YtgocloilagcfoaaDoor
