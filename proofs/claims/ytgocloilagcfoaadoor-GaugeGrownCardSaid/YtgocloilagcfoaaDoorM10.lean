/- The gaps arise from their own beginning; the number of letters S among the first ones. -/
import Derived.Test.YtgocloilagcfoaaDoorM3
namespace Go.Proofs.YtgocloilagcfoaaDoor.GM

theorem gap_step (k : Nat) (h : k < 2000) : (gap k = 76 ∧ (gr 34 (k + 1 : Nat)).1 = (gr 34 (k : Nat)).1 + 1 ∧ (gr 34 (k + 1 : Nat)).2 = (gr 34 (k : Nat)).2) ∨
    (gap k = 83 ∧ (gr 34 (k + 1 : Nat)).1 = (gr 34 (k : Nat)).1 - 1 ∧ (gr 34 (k + 1 : Nat)).2 = (gr 34 (k : Nat)).2 + 1) := by
  have r1 := gr_isRung (k : Nat) (by omega) (by omega)
  have r2 := gr_isRung ((k + 1 : Nat) : Int) (by omega) (by omega)
  have hs := r1.succ (show IsRung ((k : Nat) + 1 : Int) _ _ from r2)
  unfold gap
  rcases hs with h | h
  · left; rw [if_pos h]; exact ⟨rfl, h⟩
  · right; rw [if_neg (by omega)]; exact ⟨rfl, h⟩
/-- the position of w times the value at the position k -/
def np (k : Nat) : Nat := (2 * (gr 34 (k : Nat)).1 + 3 * (gr 34 (k : Nat)).2).toNat
theorem np_eq (k : Nat) (h : k < 2000) : (np k : Int) = 2 * (gr 34 (k : Nat)).1 + 3 * (gr 34 (k : Nat)).2 ∧ k ≤ np k ∧ np k ≤ 2 * k := by
  have r1 := gr_isRung (k : Nat) (by omega) (by omega)
  have b := r1.bounds (by omega)
  have e := r1.1
  unfold np
  omega
theorem np_rung (k : Nat) (h : k < 2000) : IsRung (np k) (gr 34 (k : Nat)).2 ((gr 34 (k : Nat)).1 + (gr 34 (k : Nat)).2) ∧ cl (gr 34 (k : Nat)).2 ((gr 34 (k : Nat)).1 + (gr 34 (k : Nat)).2) < 14472334024676222 := by
  have r1 := gr_isRung (k : Nat) (by omega) (by omega)
  have b := r1.bounds (by omega)
  have e := (np_eq k h).1
  unfold IsRung cl at *
  omega
theorem gap_76 {n : Nat} {a b a' b' : Int} (hn : n + 1 < 14930352) (h : IsRung n a b) (h' : IsRung ((n : Int) + 1) a' b') (e1 : a' = a + 1) (_ : b' = b) : gap n = 76 := by
  obtain ⟨x1, x2⟩ := (gr_isRung n (by omega) (by omega)).unique h
  obtain ⟨y1, y2⟩ := (gr_isRung ((n + 1 : Nat) : Int) (by omega) (by omega)).unique (show IsRung ((n + 1 : Nat) : Int) a' b' from h')
  unfold gap
  rw [if_pos (by omega)]
theorem gap_83 {n : Nat} {a b a' b' : Int} (hn : n + 1 < 14930352) (h : IsRung n a b) (h' : IsRung ((n : Int) + 1) a' b') (e1 : a' = a - 1) (e2 : b' = b + 1) : gap n = 83 := by
  obtain ⟨x1, x2⟩ := (gr_isRung n (by omega) (by omega)).unique h
  obtain ⟨y1, y2⟩ := (gr_isRung ((n + 1 : Nat) : Int) (by omega) (by omega)).unique (show IsRung ((n + 1 : Nat) : Int) a' b' from h')
  unfold gap
  rw [if_neg (by omega)]
theorem grow_L (k : Nat) (h : k < 1500) (hg : gap k = 76) : np (k + 1) = np k + 2 ∧ gaps (np (k + 1)) = gaps (np k) ++ [76, 83] := by
  have hs := gap_step k (by omega)
  have e0 := np_eq k (by omega)
  have e1 := np_eq (k + 1) (by omega)
  rcases hs with ⟨-, h1, h2⟩ | ⟨h0, -, -⟩
  · obtain ⟨r0, r0'⟩ := np_rung k (by omega)
    obtain ⟨r1, -⟩ := np_rung (k + 1) (by omega)
    have hn : np (k + 1) = np k + 2 := by omega
    rw [h1, h2, hn] at r1
    have rm := gr_isRung ((np k + 1 : Nat) : Int) (by omega) (by omega)
    have s1 := r0.succ (show IsRung ((np k : Int) + 1) _ _ from rm)
    have hL : (gr 34 (np k + 1 : Nat)).1 = (gr 34 (k : Nat)).2 + 1 ∧ (gr 34 (np k + 1 : Nat)).2 = (gr 34 (k : Nat)).1 + (gr 34 (k : Nat)).2 := by
      rcases s1 with s1 | s1
      · exact s1
      · exfalso
        have := rm.2.1
        rw [s1.1, s1.2] at this
        unfold cl at this r0'
        omega
    refine ⟨hn, ?_⟩
    rw [hn, gaps_succ, gaps_succ, gap_76 (by omega) r0 (show IsRung ((np k : Int) + 1) _ _ from rm) hL.1 hL.2,
      gap_83 (n := np k + 1) (by omega) rm (show IsRung (((np k + 1 : Nat) : Int) + 1) _ _ from r1) (by omega) (by omega)]
    simp
  · rw [hg] at h0; exact absurd h0 (by decide)
theorem grow_S (k : Nat) (h : k < 1500) (hg : gap k = 83) : np (k + 1) = np k + 1 ∧ gaps (np (k + 1)) = gaps (np k) ++ [76] := by
  have hs := gap_step k (by omega)
  have e0 := np_eq k (by omega)
  have e1 := np_eq (k + 1) (by omega)
  rcases hs with ⟨h0, -, -⟩ | ⟨-, h1, h2⟩
  · rw [hg] at h0; exact absurd h0 (by decide)
  · obtain ⟨r0, -⟩ := np_rung k (by omega)
    obtain ⟨r1, -⟩ := np_rung (k + 1) (by omega)
    have hn : np (k + 1) = np k + 1 := by omega
    rw [h1, h2, hn] at r1
    refine ⟨hn, ?_⟩
    rw [hn, gaps_succ, gap_76 (by omega) r0 (show IsRung ((np k : Int) + 1) _ _ from r1) (by omega) (by omega)]
theorem np_zero : np 0 = 0 := by
  unfold np
  rw [show ((0 : Nat) : Int) = 0 from rfl, gr_zero]; rfl
theorem gaps_len (n : Nat) : (gaps n).length = n := by unfold gaps; simp
theorem gaps_take (n m : Nat) (h : n ≤ m) : (gaps m).take n = gaps n := by
  unfold gaps
  rw [← List.map_take, List.take_range, Nat.min_eq_left h]
theorem neg_of_lin {a b : Int} (b1 : -1000000 ≤ b) (b2 : b ≤ 1000000) (h : 23416728348467685 * a + 37889062373143906 * b < 0) : sgn a b < 0 := by
  rcases Int.lt_or_le (sgn a b) 0 with h1 | h1
  · exact h1
  · have := sgn_nonneg_lin h1 (by omega) (by omega)
    unfold lin at this
    omega
theorem pos_of_lin {a b : Int} (b1 : -1000000 ≤ b) (b2 : b ≤ 1000000) (h : 0 ≤ 23416728348467685 * a + 37889062373143906 * b) (h0 : ¬ (a = 0 ∧ b = 0)) : 0 < sgn a b := by
  have hz : sgn a b ≠ 0 := fun e => h0 ((sgn_zero_iff a b).1 e)
  rcases Int.lt_or_le (sgn a b) 0 with h1 | h1
  · have := sgn_neg_lin h1 (by omega) (by omega)
    unfold lin at this
    omega
  · omega
theorem off_bounds (n : Nat) (h : n ≤ 1000) : sgn ((gr 34 (n : Nat)).2 - 2 * n - 1) n < 0 ∧ 0 < sgn ((gr 34 (n : Nat)).2 - 2 * n + 1) n := by
  have r := gr_isRung (n : Nat) (by omega) (by omega)
  have b := r.bounds (by omega)
  unfold IsRung cl at r
  constructor
  · exact neg_of_lin (by omega) (by omega) (by omega)
  · exact pos_of_lin (by omega) (by omega) (by omega) (by omega)
end Go.Proofs.YtgocloilagcfoaaDoor.GM
