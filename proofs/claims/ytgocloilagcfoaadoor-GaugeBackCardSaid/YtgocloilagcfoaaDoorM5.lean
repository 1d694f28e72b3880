/- Plain mathematics of the reference's text: written from the greatest power on, it is the plain text. -/
import Derived.Test.YtgocloilagcfoaaDoorM4
namespace Go.Proofs.YtgocloilagcfoaaDoor.GM

/-- noughts ahead: while x is less than the powers -/
theorem ints_skip (m : Nat) : ∀ (n : Nat) (x : G), Lt x (pt (n + 40)) → (ints (n + m) x).dropWhile (· == 48) = (ints n x).dropWhile (· == 48) ∧ rest (n + m) x = rest n x ∧ lefts (n + m + 40) (n + m + 40) x = lefts (n + 40) (n + 40) x := by
  induction m with
  | zero => intro n x _; exact ⟨rfl, rfl, rfl⟩
  | succ m ih =>
    intro n x h
    have h1 : Lt x (pt (n + m + 40)) := h.trans_le (pt_mono (by omega))
    have hd := (dgx_false_iff (n + m + 40) x).2 h1
    have hn := nxx_none _ x hd
    obtain ⟨i1, i2, i3⟩ := ih n x h
    refine ⟨?_, ?_, ?_⟩
    · show ((if dgx (n + m + 40) x then (49 : UInt8) else 48) :: ints (n + m) (nxx (n + m + 40) x)).dropWhile (· == 48) = _
      rw [hd, hn]
      exact i1
    · show rest (n + m) (nxx (n + m + 40) x) = _
      rw [hn]; exact i2
    · show lefts (n + (m + 1) + 40) (n + (m + 1) + 40) x = _
      rw [show n + (m + 1) + 40 = (n + m + 40) + 1 by omega]
      show lefts (n + m + 40) (n + m + 40) (nxx (n + m + 40) x) = _
      rw [hn]; exact i3

/-- what is written from the place n on: the plain text -/
theorem fut_start (n : Nat) (x : G) (hn : n < 40) (h1 : Lt x (pt (n + 41))) (h2 : n = 0 ∨ Le (pt (n + 40)) x) : fut (n + 41) x = textOf x := by
  obtain ⟨m, hm⟩ : ∃ m, 40 = n + 1 + m := ⟨39 - n, by omega⟩
  obtain ⟨i1, i2, _⟩ := ints_skip m (n + 1) x (by rw [show n + 1 + 40 = n + 41 by omega]; exact h1)
  rw [← hm] at i1 i2
  have e1 : fut (n + 41) x = ints (n + 1) x ++ tail (rest (n + 1) x) := by
    unfold fut; rw [if_pos (by omega), show n + 41 - 40 = n + 1 by omega]
  have e2 : textOf x = (if (ints 40 x).dropWhile (· == 48) = [] then [48] else (ints 40 x).dropWhile (· == 48)) ++ tail (rest 40 x) := rfl
  rw [e1, e2, i1, i2]
  refine congrArg (fun l => l ++ tail (rest (n + 1) x)) ?_
  have e3 : ints (n + 1) x = (if dgx (n + 40) x then (49 : UInt8) else 48) :: ints n (nxx (n + 40) x) := rfl
  rw [e3]
  by_cases hd : dgx (n + 40) x = true
  · rw [hd]; rfl
  · rcases h2 with rfl | h2
    · have : dgx (0 + 40) x = false := by simpa using hd
      rw [this]; rfl
    · exact absurd ((dgx_iff _ _).2 h2) hd

theorem lefts_start (n : Nat) (x : G) (hn : n < 40) (h1 : Lt x (pt (n + 41))) (h : lefts 80 80 x = (0, 0)) : lefts (n + 41) (n + 41) x = (0, 0) := by
  obtain ⟨m, hm⟩ : ∃ m, 40 = n + 1 + m := ⟨39 - n, by omega⟩
  obtain ⟨_, _, i3⟩ := ints_skip m (n + 1) x (by rw [show n + 1 + 40 = n + 41 by omega]; exact h1)
  rw [← hm] at i3
  rw [← h, show (80 : Nat) = 40 + 40 by rfl, i3]

/-- one round of the reference's writing -/
theorem fut_round (n : Nat) (x : G) (h : 40 ≤ n ∨ x ≠ (0, 0)) : fut (n + 1) x = (if n + 1 = 40 then [46] else []) ++ dgt n x :: fut n (nxx n x) := by
  by_cases h1 : 40 ≤ n
  · rw [fut_int n x h1, if_neg (by omega)]; rfl
  · have hx : x ≠ (0, 0) := by rcases h with h | h; exact absurd h h1; exact h
    by_cases h2 : n = 39
    · subst h2; rw [fut_40, if_neg hx, if_pos rfl, fut_lt 39 _ (by decide)]; rfl
    · rw [fut_frac n x (by omega) hx, if_neg (by omega), fut_lt n _ (by omega)]; rfl
theorem fut_stop (n : Nat) (h : n ≤ 40) : fut n (0, 0) = [] := by
  rcases Nat.lt_or_ge n 40 with h1 | h1
  · rw [fut_lt n _ h1, frac_zero]
  · obtain rfl : n = 40 := by omega
    rw [fut_40]; rfl
theorem lefts_more (n : Nat) (x : G) (h : lefts n n x = (0, 0)) (hx : x ≠ (0, 0)) : n ≠ 0 := by
  rintro rfl; exact hx h
/-- a number is less than the greatest power -/
theorem num_lt (x : G) (hx : Num x) : Lt x (pt 80) := by
  have := big_lt x.1 x.2 hx.1 hx.2.1 hx.2.2.1 hx.2.2.2
  rw [← not_le]
  unfold Le sub sg
  rw [pt80]
  simp only
  omega
end Go.Proofs.YtgocloilagcfoaaDoor.GM
