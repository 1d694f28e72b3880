/- Plain mathematics of floors and gaps. -/
import Derived.Test.YtgocloilagcfoabDoorM2
namespace Go.Proofs.YtgocloilagcfoabDoor.GM

theorem sgn_mono_a {a a' b : Int} (h : a ≤ a') (h0 : 0 ≤ sgn a b) : 0 ≤ sgn a' b := by
  have h1 : 0 ≤ sg (a' - a, 0) := by unfold sg sgn; simp; split <;> (try split) <;> omega
  have := (sg_add (a, b) (a' - a, 0)).1 h0 h1
  unfold sg add at this
  simp at this
  rw [show a + (a' - a) = a' by omega] at this
  exact this

theorem floor_unique {a b n m : Int} (h1 : 0 ≤ sgn (a - n) b) (h2 : sgn (a - n - 1) b < 0) (h3 : 0 ≤ sgn (a - m) b) (h4 : sgn (a - m - 1) b < 0) : n = m := by
  rcases Int.lt_trichotomy n m with h | h | h
  · have := sgn_mono_a (show a - m ≤ a - n - 1 by omega) h3; omega
  · exact h
  · have := sgn_mono_a (show a - n ≤ a - m - 1 by omega) h1; omega

theorem sq_le_of (a b : Int) (hb : 0 ≤ b) (h : a * a ≤ b * b) : a ≤ b := by
  rcases Int.lt_or_le b a with h1 | h1
  · have h2 : (b + 1) * (b + 1) ≤ a * a := Int.mul_le_mul h1 h1 (by omega) (by omega)
    have e : (b + 1) * (b + 1) = b * b + 2 * b + 1 := by grind
    omega
  · exact h1

/-- b >= 0: the sign of c + b w by a bound of the root -/
theorem sgn_of_root (b r c : Int) (hb : 0 ≤ b) (hr : 0 ≤ r) (h1 : r * r ≤ 5 * (b * b)) (h2 : 5 * (b * b) < (r + 1) * (r + 1)) :
    (-(2 * c + b) ≤ r → 0 ≤ sgn c b) ∧ (r < -(2 * c + b) → sgn c b < 0) := by
  have e5 : 5 * b * b = 5 * (b * b) := Int.mul_assoc _ _ _
  constructor
  · intro h
    unfold sgn
    split
    · omega
    · split
      · omega
      · rename_i n1 n2
        split
        · rename_i n3
          -- 2c+b <= 0 and b <= 0: b = 0, so r = 0 and 2c+b = 0
          obtain rfl : b = 0 := by omega
          have : r * r ≤ 0 := by simpa using h1
          have hr0 : r = 0 := by
            rcases Int.lt_or_le 0 r with h | h
            · have := Int.mul_pos h h; omega
            · omega
          omega
        · have hneg : 2 * c + b < 0 := by omega
          have hs : (2 * c + b) * (2 * c + b) ≤ r * r := by
            have : -(2 * c + b) * -(2 * c + b) ≤ r * r := Int.mul_le_mul h h (by omega) hr
            rwa [Int.neg_mul_neg] at this
          rw [if_pos]
          · omega
          · rw [e5]
            have : ¬ 5 * (b * b) < (2 * c + b) * (2 * c + b) := by omega
            simp [this]; omega
  · intro h
    have hneg : 2 * c + b < 0 := by omega
    have hs : (r + 1) * (r + 1) ≤ (2 * c + b) * (2 * c + b) := by
      have : (r + 1) * (r + 1) ≤ -(2 * c + b) * -(2 * c + b) := Int.mul_le_mul (by omega) (by omega) (by omega) (by omega)
      rwa [Int.neg_mul_neg] at this
    unfold sgn
    rw [if_neg (by omega), if_neg (by omega)]
    split
    · omega
    · rw [if_neg]
      · omega
      · rw [e5]
        have : 5 * (b * b) < (2 * c + b) * (2 * c + b) := by omega
        simp [this]; omega

theorem floor_root_pos (a b r : Int) (hb : 0 ≤ b) (hr : 0 ≤ r) (h1 : r * r ≤ 5 * (b * b)) (h2 : 5 * (b * b) < (r + 1) * (r + 1)) :
    0 ≤ sgn (a - (a + (b + r) / 2)) b ∧ sgn (a - (a + (b + r) / 2) - 1) b < 0 := by
  refine ⟨(sgn_of_root b r _ hb hr h1 h2).1 (by omega), (sgn_of_root b r _ hb hr h1 h2).2 (by omega)⟩

theorem floor_root_neg (a b r : Int) (hb : b < 0) (hr : 0 ≤ r) (h1 : r * r ≤ 5 * (-b * -b)) (h2 : 5 * (-b * -b) < (r + 1) * (r + 1)) :
    0 ≤ sgn (a - (a - (-b + r) / 2 - 1)) b ∧ sgn (a - (a - (-b + r) / 2 - 1) - 1) b < 0 := by
  have s1 := (sgn_of_root (-b) r (-((-b + r) / 2) - 1) (by omega) hr h1 h2).2 (by omega)
  have s2 := (sgn_of_root (-b) r (-((-b + r) / 2)) (by omega) hr h1 h2).1 (by omega)
  have n1 := sg_neg (-((-b + r) / 2) - 1, -b)
  have n2 := sg_neg (-((-b + r) / 2), -b)
  unfold sg at n1 n2
  simp only [Int.neg_neg] at n1 n2
  have z : sgn (-((-b + r) / 2)) (-b) ≠ 0 := by rw [Ne, sgn_zero_iff]; omega
  rw [show a - (a - (-b + r) / 2 - 1) = -(-((-b + r) / 2) - 1) by omega, show -(-((-b + r) / 2) - 1) - 1 = (-b + r) / 2 by omega, n1, n2]
  omega

/-- the letters of the gaps -/
def gap (k : Nat) : UInt8 := if (gr 34 (k + 1 : Nat)).1 = (gr 34 (k : Nat)).1 + 1 ∧ (gr 34 (k + 1 : Nat)).2 = (gr 34 (k : Nat)).2 then 76 else 83
def gaps (n : Nat) : List UInt8 := (List.range n).map gap
theorem gaps_succ (n : Nat) : gaps (n + 1) = gaps n ++ [gap n] := by unfold gaps; rw [List.range_succ]; simp
theorem gr_ne (k : Nat) (h : k + 1 < 14930352) : ¬ ((gr 34 (k + 1 : Nat)).1 = 0 ∧ (gr 34 (k + 1 : Nat)).2 = 0) := by
  have := (gr_isRung ((k + 1 : Nat) : Int) (by omega) (by omega)).1
  omega
theorem gr_zero : gr 34 0 = (0, 0) := by decide +kernel
end Go.Proofs.YtgocloilagcfoabDoor.GM
