/- Plain mathematics of the numbers a + b w: their order, the ladder, the plain texts. -/
namespace Go.Proofs.YtgocloilagcfoabDoor.GM

theorem sq_lt_of (a b : Int) (hb : 0 ≤ b) (h : a * a < b * b) : a < b := by
  by_cases h1 : a < b
  · exact h1
  · have := Int.mul_le_mul (show b ≤ a by omega) (show b ≤ a by omega) hb (by omega); omega

theorem no_root_aux (n : Nat) : ∀ s c : Nat, c ≤ n → s * s = 5 * (c * c) → c = 0 := by
  induction n with
  | zero => intro s c h _; omega
  | succ n ih =>
    intro s c h e
    have h5 : s % 5 = 0 := by
      have hd : (s * s) % 5 = 0 := by omega
      rw [Nat.mul_mod] at hd
      have hb : s % 5 < 5 := Nat.mod_lt _ (by omega)
      generalize s % 5 = r at *
      match r, hb, hd with
      | 0, _, _ => rfl
      | 1, _, hd => simp at hd
      | 2, _, hd => simp at hd
      | 3, _, hd => simp at hd
      | 4, _, hd => simp at hd
    obtain ⟨t, rfl⟩ : ∃ t, s = 5 * t := ⟨s / 5, by omega⟩
    have e2 : c * c = 5 * (t * t) := by
      have : 5 * t * (5 * t) = 5 * (5 * (t * t)) := by grind
      omega
    by_cases hc : c = 0
    · exact hc
    · have hlt : t < c := by
        rcases Nat.lt_or_ge t c with h1 | h1
        · exact h1
        · have h2 := Nat.mul_le_mul h1 h1
          have h3 : 0 < c * c := Nat.mul_pos (by omega) (by omega)
          omega
      have h0 : t = 0 := ih c t (by omega) e2
      subst h0
      rcases Nat.mul_eq_zero.1 (show c * c = 0 by simpa using e2) with h | h <;> exact h

theorem no_root (s c : Int) (e : s * s = 5 * (c * c)) : c = 0 := by
  have h := no_root_aux c.natAbs s.natAbs c.natAbs (Nat.le_refl _) (by
    have e1 : ((s.natAbs * s.natAbs : Nat) : Int) = s * s := Int.natAbs_mul_self
    have e2 : ((c.natAbs * c.natAbs : Nat) : Int) = c * c := Int.natAbs_mul_self
    omega)
  omega

/-- the sign of a + b w -/
def sgn (a b : Int) : Int :=
  if 2 * a + b = 0 ∧ b = 0 then 0
  else if 0 ≤ 2 * a + b ∧ 0 ≤ b then 1
  else if 2 * a + b ≤ 0 ∧ b ≤ 0 then -1
  else if (decide (0 < 2 * a + b) == decide (5 * b * b < (2 * a + b) * (2 * a + b))) then 1 else -1

theorem key_pos (P l d s c : Int) (hP : 0 < P) (hd : l * l = 5 * (P * P) + d) (hs : 0 ≤ s)
    (hb : d * (c * c) < P * P) (h : 5 * (c * c) < s * s) : l * c < P * s := by
  have hs0 : 0 ≤ P * s := Int.mul_nonneg (by omega) hs
  apply sq_lt_of _ _ hs0
  have h1 : 0 ≤ (P * P) * (s * s - 5 * (c * c) - 1) := Int.mul_nonneg (Int.mul_nonneg (by omega) (by omega)) (by omega)
  have h2 : l * c * (l * c) = (l * l) * (c * c) := by grind
  have h3 : P * s * (P * s) = P * P * (s * s - 5 * (c * c) - 1) + 5 * (P * P) * (c * c) + P * P := by grind
  rw [h2, h3, hd]
  have h4 : (5 * (P * P) + d) * (c * c) = 5 * (P * P) * (c * c) + d * (c * c) := by grind
  omega

theorem key_neg (P l d s c : Int) (hP : 0 < P) (hl : 0 < l) (hd : l * l = 5 * (P * P) + d) (hc : 0 < c)
    (hb : -(d * (c * c)) < P * P) (h : s * s < 5 * (c * c)) : P * s < l * c := by
  apply sq_lt_of _ _ (Int.mul_nonneg (by omega) (by omega))
  have h1 : 0 ≤ (P * P) * (5 * (c * c) - s * s - 1) := Int.mul_nonneg (Int.mul_nonneg (by omega) (by omega)) (by omega)
  have h2 : l * c * (l * c) = (l * l) * (c * c) := by grind
  have h3 : P * s * (P * s) = 5 * (P * P) * (c * c) - P * P - P * P * (5 * (c * c) - s * s - 1) := by grind
  rw [h2, h3, hd]
  have h4 : (5 * (P * P) + d) * (c * c) = 5 * (P * P) * (c * c) + d * (c * c) := by grind
  omega

theorem sgn_lin_gen (P Q d : Int) (hP : 0 < P) (hl : 0 < 2 * Q - P) (hd : (2 * Q - P) * (2 * Q - P) = 5 * (P * P) + d)
    (B : Int) (hB1 : d * (B * B) < P * P) (hB2 : -(d * (B * B)) < P * P) (a b : Int) (h1 : -B ≤ b) (h2 : b ≤ B) :
    (sgn a b = 1 ∧ 0 < P * a + Q * b) ∨ (sgn a b = 0 ∧ a = 0 ∧ b = 0) ∨ (sgn a b = -1 ∧ P * a + Q * b < 0) := by
  have e : 2 * (P * a + Q * b) = P * (2 * a + b) + (2 * Q - P) * b := by grind
  unfold sgn
  generalize hS : 2 * a + b = s at *
  generalize hL : 2 * Q - P = l at *
  by_cases c0 : s = 0 ∧ b = 0
  · rw [if_pos c0]; right; left; exact ⟨rfl, by omega, c0.2⟩
  rw [if_neg c0]
  by_cases c1 : 0 ≤ s ∧ 0 ≤ b
  · rw [if_pos c1]; left
    refine ⟨rfl, ?_⟩
    have p1 : 0 ≤ P * s := Int.mul_nonneg (by omega) c1.1
    have p2 : 0 ≤ l * b := Int.mul_nonneg (by omega) c1.2
    by_cases hs : s = 0
    · have hb : 0 < b := by omega
      have := Int.mul_pos hl hb
      omega
    · have := Int.mul_pos hP (show 0 < s by omega)
      omega
  rw [if_neg c1]
  by_cases c2 : s ≤ 0 ∧ b ≤ 0
  · rw [if_pos c2]; right; right
    refine ⟨rfl, ?_⟩
    have p1 : 0 ≤ P * (-s) := Int.mul_nonneg (by omega) (by omega)
    have p2 : 0 ≤ l * (-b) := Int.mul_nonneg (by omega) (by omega)
    rw [Int.mul_neg] at p1 p2
    by_cases hs : s = 0
    · have := Int.mul_pos hl (show 0 < -b by omega)
      rw [Int.mul_neg] at this
      omega
    · have := Int.mul_pos hP (show 0 < -s by omega)
      rw [Int.mul_neg] at this
      omega
  rw [if_neg c2]
  have bb : ∀ c : Int, 0 < c → c ≤ B → (0 ≤ d → d * (c * c) < P * P) ∧ (d ≤ 0 → -(d * (c * c)) < P * P) := by
    intro c hc hcB
    have hcc : c * c ≤ B * B := Int.mul_le_mul hcB hcB (by omega) (by omega)
    constructor
    · intro hd0
      have := Int.mul_le_mul_of_nonneg_left hcc hd0
      omega
    · intro hd0
      have := Int.mul_le_mul_of_nonneg_left hcc (show 0 ≤ -d by omega)
      rw [Int.neg_mul, Int.neg_mul] at this
      omega
  have PP : 0 < P * P := Int.mul_pos hP hP
  have bb' : ∀ c : Int, 0 < c → c ≤ B → d * (c * c) < P * P ∧ -(d * (c * c)) < P * P := by
    intro c hc hcB
    obtain ⟨b1, b2⟩ := bb c hc hcB
    have cc : 0 ≤ c * c := Int.mul_nonneg (by omega) (by omega)
    rcases Int.le_total 0 d with h | h
    · have := Int.mul_nonneg h cc
      have := b1 h
      omega
    · have := Int.mul_nonneg (show 0 ≤ -d by omega) cc
      rw [Int.neg_mul] at this
      have := b2 h
      omega
  have h5 : 5 * b * b = 5 * (b * b) := by grind
  rw [h5]
  by_cases hs : 0 < s
  · have hb : b < 0 := by omega
    obtain ⟨k1, k2⟩ := bb' (-b) (by omega) (by omega)
    have hbb : -b * -b = b * b := by grind
    rw [hbb] at k1 k2
    by_cases h : 5 * (b * b) < s * s
    · left
      refine ⟨by simp [hs, h], ?_⟩
      have := key_pos P l d s (-b) hP hd (by omega) (by rw [hbb]; exact k1) (by rw [hbb]; exact h)
      rw [Int.mul_neg] at this
      omega
    · right; right
      refine ⟨by simp [hs, h], ?_⟩
      have hne : s * s ≠ 5 * (b * b) := fun e => by have := no_root _ _ e; omega
      have := key_neg P l d s (-b) hP hl hd (by omega) (by rw [hbb]; exact k2) (by rw [hbb]; omega)
      rw [Int.mul_neg] at this
      omega
  · have hb : 0 < b := by omega
    have hs' : s < 0 := by omega
    obtain ⟨k1, k2⟩ := bb' b (by omega) (by omega)
    have hss : -s * -s = s * s := by grind
    by_cases h : 5 * (b * b) < s * s
    · right; right
      refine ⟨by simp [hs, h], ?_⟩
      have := key_pos P l d (-s) b hP hd (by omega) k1 (by rw [hss]; exact h)
      rw [Int.mul_neg] at this
      omega
    · left
      refine ⟨by simp [hs, h], ?_⟩
      have hne : s * s ≠ 5 * (b * b) := fun e => by have := no_root _ _ e; omega
      have := key_neg P l d (-s) b hP hl hd (by omega) k2 (by rw [hss]; omega)
      rw [Int.mul_neg] at this
      omega

/-- the linear form that decides the sign: F80 a + F81 b -/
def lin (a b : Int) : Int := 23416728348467685 * a + 37889062373143906 * b

theorem sgn_lin (a b : Int) (h1 : -1000000000000000 ≤ b) (h2 : b ≤ 1000000000000000) :
    (sgn a b = 1 ∧ 0 < lin a b) ∨ (sgn a b = 0 ∧ a = 0 ∧ b = 0) ∨ (sgn a b = -1 ∧ lin a b < 0) :=
  sgn_lin_gen 23416728348467685 37889062373143906 4 (by decide) (by decide) (by decide) 1000000000000000 (by decide) (by decide) a b h1 h2

/-- the same by the next convergent -/
theorem sgn_lin' (a b : Int) (h1 : -1000000000000000 ≤ b) (h2 : b ≤ 1000000000000000) :
    (sgn a b = 1 ∧ 0 < 37889062373143906 * a + 61305790721611591 * b) ∨ (sgn a b = 0 ∧ a = 0 ∧ b = 0) ∨ (sgn a b = -1 ∧ 37889062373143906 * a + 61305790721611591 * b < 0) :=
  sgn_lin_gen 37889062373143906 61305790721611591 (-4) (by decide) (by decide) (by decide) 1000000000000000 (by decide) (by decide) a b h1 h2

theorem sgn_w (a b : Int) (h1 : -1000000000000000 ≤ b) (h2 : b ≤ 1000000000000000) (h3 : -1000000000000000 ≤ a + b) (h4 : a + b ≤ 1000000000000000) : sgn b (a + b) = sgn a b := by
  have x := sgn_lin b (a + b) h3 h4
  have y := sgn_lin' a b h1 h2
  unfold lin at x
  omega

/-- 0 ≤ u < 1 -/
def InU (p q : Int) : Prop := 0 ≤ lin p q ∧ lin p q < 23416728348467685

theorem inU_q (p q M : Int) (h : InU p q) (h1 : -M ≤ q) (h2 : q ≤ M) : -(M * 6181 / 10000 + 1) ≤ p + q ∧ p + q ≤ M * 6181 / 10000 + 1 := by
  unfold InU lin at h
  omega

/-- the bound on the second coordinate after n steps -/
def mb : Nat → Int → Int
  | 0, M => M
  | n + 1, M => mb n (M * 6181 / 10000 + 1)

/-- one digit: (the digit, what is left), times w -/
def dg (p q : Int) : Bool := decide (23416728348467685 ≤ lin q (p + q))
def nx (p q : Int) : Int × Int := if dg p q then (q - 1, p + q) else (q, p + q)

theorem nx_inU (p q : Int) (h : InU p q) (h1 : -1000000000000000 ≤ q) (h2 : q ≤ 1000000000000000) : InU (nx p q).1 (nx p q).2 := by
  unfold nx
  have x1 := sgn_lin p q h1 h2
  have x2 := sgn_lin' p q h1 h2
  have y1 := sgn_lin (p - 1) q h1 h2
  have y2 := sgn_lin' (p - 1) q h1 h2
  unfold InU at h
  unfold lin at *
  by_cases hd : dg p q = true
  · rw [if_pos hd]
    unfold dg lin at hd
    simp at hd
    unfold InU lin
    simp only []
    omega
  · rw [if_neg hd]
    unfold dg lin at hd
    simp at hd
    unfold InU lin
    simp only []
    omega

def nxs : Nat → Int → Int → Int × Int
  | 0, p, q => (p, q)
  | n + 1, p, q => nxs n (nx p q).1 (nx p q).2

theorem nxs_bound (n : Nat) : ∀ (p q M : Int), InU p q → -M ≤ q → q ≤ M → M ≤ 1000000000000000 → InU (nxs n p q).1 (nxs n p q).2 ∧ -(mb n M) ≤ (nxs n p q).2 ∧ (nxs n p q).2 ≤ mb n M := by
  induction n with
  | zero => intro p q M h h1 h2 _; exact ⟨h, h1, h2⟩
  | succ n ih =>
    intro p q M h h1 h2 hM
    have hq := inU_q p q M h h1 h2
    have e : (nx p q).2 = p + q := by unfold nx; split <;> rfl
    exact ih _ _ _ (nx_inU p q h (by omega) (by omega)) (by rw [e]; exact hq.1) (by rw [e]; exact hq.2) (by omega)

theorem nxs_add (m : Nat) : ∀ (n : Nat) (p q : Int), nxs (m + n) p q = nxs n (nxs m p q).1 (nxs m p q).2 := by
  induction m with
  | zero => intro n p q; simp [nxs]
  | succ m ih => intro n p q; rw [Nat.add_right_comm]; simp only [nxs]; exact ih n _ _

theorem small_ends (p q : Int) (h : InU p q) (h1 : -2 ≤ q) (h2 : q ≤ 2) : nxs 5 p q = (0, 0) := by
  unfold InU lin at h
  rcases (by omega : q = -2 ∨ q = -1 ∨ q = 0 ∨ q = 1 ∨ q = 2) with rfl | rfl | rfl | rfl | rfl
  · obtain rfl : p = 4 := by omega
    decide
  · obtain rfl : p = 2 := by omega
    decide
  · obtain rfl : p = 0 := by omega
    decide
  · obtain rfl : p = -1 := by omega
    decide
  · obtain rfl : p = -3 := by omega
    decide

theorem ends74 (p q : Int) (h : InU p q) (h1 : -300000000000000 ≤ q) (h2 : q ≤ 300000000000000) : nxs 74 p q = (0, 0) := by
  have b := nxs_bound 69 p q 300000000000000 h h1 h2 (by decide)
  have e : mb 69 300000000000000 = 2 := by decide +kernel
  rw [e] at b
  rw [show 74 = 69 + 5 from rfl, nxs_add]
  exact small_ends _ _ b.1 b.2.1 b.2.2
theorem nxs_zero (n : Nat) : nxs n 0 0 = (0, 0) := by
  induction n with
  | zero => rfl
  | succ n ih => exact ih

/-- the weights 1, 2, 3, 5 and so on -/
def fb : Nat → Int
  | 0 => 1
  | 1 => 2
  | n + 2 => fb n + fb (n + 1)

theorem fb_pos : ∀ n, 0 < fb n ∧ fb n < fb (n + 1)
  | 0 => by decide
  | 1 => by decide
  | n + 2 => by
    have h1 := fb_pos n
    have h2 := fb_pos (n + 1)
    have e1 : fb (n + 2) = fb n + fb (n + 1) := rfl
    have e2 : fb (n + 2 + 1) = fb (n + 1) + fb (n + 2) := rfl
    omega

/-- w^n, n from 0 on -/
def pu : Nat → Int × Int
  | 0 => (1, 0)
  | n + 1 => ((pu n).2, (pu n).1 + (pu n).2)

theorem pu_fb : ∀ n, (pu n).1 + 2 * (pu n).2 = fb n
  | 0 => by decide
  | 1 => by decide
  | n + 2 => by
    have h1 := pu_fb n
    have h2 := pu_fb (n + 1)
    have e1 : fb (n + 2) = fb n + fb (n + 1) := rfl
    have e2 : (pu (n + 2)).1 = (pu (n + 1)).2 := rfl
    have e3 : (pu (n + 2)).2 = (pu (n + 1)).1 + (pu (n + 1)).2 := rfl
    have e4 : (pu (n + 1)).1 = (pu n).2 := rfl
    have e5 : (pu (n + 1)).2 = (pu n).1 + (pu n).2 := rfl
    omega

/-- the conjugate's linear form -/
def cl (a b : Int) : Int := 23416728348467685 * a - 14472334024676221 * b

/-- the digits of k by the weights below i, greatest first: the sum of the powers -/
def gr : Nat → Int → Int × Int
  | 0, _ => (0, 0)
  | i + 1, k => if fb i ≤ k then ((pu i).1 + (gr i (k - fb i)).1, (pu i).2 + (gr i (k - fb i)).2) else gr i k

def lo : Nat → Int
  | 0 => 0
  | 1 => 0
  | i + 2 => min (lo (i + 1)) (cl (pu (i + 1)).1 (pu (i + 1)).2 + lo i)
def hi : Nat → Int
  | 0 => 0
  | 1 => 23416728348467685
  | i + 2 => max (hi (i + 1)) (cl (pu (i + 1)).1 (pu (i + 1)).2 + hi i)

theorem gr_spec : ∀ (i : Nat) (k : Int), 0 ≤ k → k < fb i →
    (gr i k).1 + 2 * (gr i k).2 = k ∧ lo i ≤ cl (gr i k).1 (gr i k).2 ∧ cl (gr i k).1 (gr i k).2 ≤ hi i
  | 0, k, h0, h1 => by
    have : fb 0 = 1 := rfl
    obtain rfl : k = 0 := by omega
    decide
  | 1, k, h0, h1 => by
    have : fb 1 = 2 := rfl
    rcases (by omega : k = 0 ∨ k = 1) with rfl | rfl <;> decide
  | i + 2, k, h0, h1 => by
    have e1 : fb (i + 2) = fb i + fb (i + 1) := rfl
    have p := fb_pos i
    by_cases h : fb (i + 1) ≤ k
    · have hn : ¬ fb i ≤ k - fb (i + 1) := by omega
      have g1 : gr (i + 1) (k - fb (i + 1)) = gr i (k - fb (i + 1)) := by
        rw [gr, if_neg hn]
      have g2 : gr (i + 2) k = ((pu (i + 1)).1 + (gr i (k - fb (i + 1))).1, (pu (i + 1)).2 + (gr i (k - fb (i + 1))).2) := by
        rw [gr, if_pos h, g1]
      have ih := gr_spec i (k - fb (i + 1)) (by omega) (by omega)
      have pf := pu_fb (i + 1)
      rw [g2]
      simp only [lo, hi]
      unfold cl at *
      omega
    · have g2 : gr (i + 2) k = gr (i + 1) k := by rw [gr, if_neg h]
      have ih := gr_spec (i + 1) k h0 (by omega)
      rw [g2]
      simp only [lo, hi]
      omega

/-- the value at the position k of the ladder -/
def IsRung (k a b : Int) : Prop := a + 2 * b = k ∧ -23416728348467685 < cl a b ∧ cl a b < 37889062373143906

theorem lo34 : -23416728348467685 < lo 34 := by decide +kernel
theorem hi34 : hi 34 < 37889062373143906 := by decide +kernel
theorem fb34 : fb 34 = 14930352 := by decide +kernel

theorem gr_isRung (k : Int) (h0 : 0 ≤ k) (h1 : k < 14930352) : IsRung k (gr 34 k).1 (gr 34 k).2 := by
  have := gr_spec 34 k h0 (by rw [fb34]; exact h1)
  have := lo34
  have := hi34
  unfold IsRung
  omega

theorem IsRung.unique {k a b a' b' : Int} (h : IsRung k a b) (h' : IsRung k a' b') : a = a' ∧ b = b' := by
  unfold IsRung cl at *
  omega

theorem gr_le (j : Nat) : ∀ (i : Nat) (k : Int), 0 ≤ k → k < fb i → gr (i + j) k = gr i k := by
  induction j with
  | zero => intro i k _ _; rfl
  | succ j ih =>
    intro i k h0 h1
    have : ∀ m, fb i ≤ fb (i + m) := by
      intro m
      induction m with
      | zero => exact Int.le_refl _
      | succ m ihm => have := fb_pos (i + m); rw [← Nat.add_assoc]; omega
    have hj := this j
    rw [← Nat.add_assoc, gr, if_neg (by omega)]
    exact ih i k h0 h1

theorem IsRung.lt {k a b k' a' b' : Int} (h : IsRung k a b) (h' : IsRung k' a' b') (hk : k < k') : lin a b < lin a' b' := by
  unfold IsRung cl at *
  unfold lin
  omega

theorem IsRung.succ {k a b a' b' : Int} (h : IsRung k a b) (h' : IsRung (k + 1) a' b') : (a' = a + 1 ∧ b' = b) ∨ (a' = a - 1 ∧ b' = b + 1) := by
  unfold IsRung cl at *
  omega

theorem IsRung.succ2 {k a b a' b' a'' b'' : Int} (h : IsRung k a b) (h' : IsRung (k + 1) a' b') (h'' : IsRung (k + 2) a'' b'') (e : b' = b + 1) : b'' = b' := by
  unfold IsRung cl at *
  omega

theorem IsRung.bounds {k a b : Int} (h : IsRung k a b) (h0 : 0 ≤ k) : 0 ≤ a ∧ 0 ≤ b ∧ a ≤ k ∧ b ≤ k := by
  unfold IsRung cl at *
  omega

/-- neighbouring numbers of Fibonacci -/
def fp : Nat → Int × Int
  | 0 => (1, 1)
  | n + 1 => ((fp n).2, (fp n).1 + (fp n).2)

theorem fp_facts : ∀ n, 0 < (fp n).1 ∧ (n : Int) ≤ (fp n).1 ∧ (n : Int) + 1 ≤ (fp n).2 ∧ (fp n).1 ≤ (fp n).2 ∧ (fp n).2 ≤ 2 * (fp n).1 ∧
    ((2 * (fp n).2 - (fp n).1) * (2 * (fp n).2 - (fp n).1) = 5 * ((fp n).1 * (fp n).1) + 4 ∨ (2 * (fp n).2 - (fp n).1) * (2 * (fp n).2 - (fp n).1) = 5 * ((fp n).1 * (fp n).1) + -4)
  | 0 => by decide
  | n + 1 => by
    obtain ⟨h1, h2, h3, h4, h5, h6⟩ := fp_facts n
    have e1 : (fp (n + 1)).1 = (fp n).2 := rfl
    have e2 : (fp (n + 1)).2 = (fp n).1 + (fp n).2 := rfl
    rw [e1, e2]
    generalize (fp n).1 = P at *
    generalize (fp n).2 = Q at *
    refine ⟨by omega, by omega, by omega, by omega, by omega, ?_⟩
    rcases h6 with h6 | h6
    · right; grind
    · left; grind

theorem sgn_fp (n : Nat) (a b : Int) (h1 : -(n : Int) < 2 * b) (h2 : 2 * b < n) :
    (sgn a b = 1 ∧ 0 < (fp n).1 * a + (fp n).2 * b) ∨ (sgn a b = 0 ∧ a = 0 ∧ b = 0) ∨ (sgn a b = -1 ∧ (fp n).1 * a + (fp n).2 * b < 0) := by
  obtain ⟨p1, p2, p3, p4, p5, p6⟩ := fp_facts n
  generalize (fp n).1 = P at *
  generalize (fp n).2 = Q at *
  have hB : 4 * ((b.natAbs : Int) * (b.natAbs : Int)) < P * P := by
    have h3 : 2 * (b.natAbs : Int) < P := by omega
    have h4 := Int.mul_le_mul (show 2 * (b.natAbs : Int) + 1 ≤ P by omega) (show 2 * (b.natAbs : Int) + 1 ≤ P by omega) (by omega) (by omega)
    have : (2 * (b.natAbs : Int) + 1) * (2 * (b.natAbs : Int) + 1) = 4 * ((b.natAbs : Int) * (b.natAbs : Int)) + 4 * (b.natAbs : Int) + 1 := by grind
    omega
  have hB0 : 0 ≤ (b.natAbs : Int) * (b.natAbs : Int) := Int.mul_nonneg (by omega) (by omega)
  rcases p6 with p6 | p6
  · exact sgn_lin_gen P Q 4 p1 (by omega) p6 b.natAbs hB (by omega) a b (by omega) (by omega)
  · exact sgn_lin_gen P Q (-4) p1 (by omega) p6 b.natAbs (by omega) (by omega) a b (by omega) (by omega)

/-- multiplying by w keeps the sign -/
theorem sgn_mulw (a b : Int) : sgn b (a + b) = sgn a b := by
  obtain ⟨n, hn1, hn2, hn3, hn4⟩ : ∃ n : Nat, -(n : Int) < 2 * b ∧ 2 * b < n ∧ -(n : Int) < 2 * (a + b) ∧ 2 * (a + b) < n :=
    ⟨2 * b.natAbs + 2 * (a + b).natAbs + 1, by omega, by omega, by omega, by omega⟩
  have x := sgn_fp n b (a + b) hn3 hn4
  have y := sgn_fp (n + 1) a b (by omega) (by omega)
  have e1 : (fp (n + 1)).1 = (fp n).2 := rfl
  have e2 : (fp (n + 1)).2 = (fp n).1 + (fp n).2 := rfl
  rw [e1, e2] at y
  generalize (fp n).1 = P at *
  generalize (fp n).2 = Q at *
  have e : P * b + Q * (a + b) = Q * a + (P + Q) * b := by grind
  rw [e] at x
  by_cases hz : a = 0 ∧ b = 0
  · obtain ⟨rfl, rfl⟩ := hz
    rfl
  · omega

theorem sgn_tri (a b : Int) : sgn a b = 1 ∨ sgn a b = 0 ∨ sgn a b = -1 := by
  have := sgn_fp (2 * b.natAbs + 1) a b (by omega) (by omega)
  omega
theorem sgn_zero_iff (a b : Int) : sgn a b = 0 ↔ a = 0 ∧ b = 0 := by
  have := sgn_fp (2 * b.natAbs + 1) a b (by omega) (by omega)
  constructor
  · intro h; omega
  · rintro ⟨rfl, rfl⟩; decide

/-- product of a + b w and c + d w -/
def mul (x y : Int × Int) : Int × Int := (x.1 * y.1 + x.2 * y.2, x.1 * y.2 + x.2 * y.1 + x.2 * y.2)

/-- w^-n, n from 0 on -/
def pd : Nat → Int × Int
  | 0 => (1, 0)
  | n + 1 => ((pd n).2 - (pd n).1, (pd n).1)

/-- w^(i - 40) -/
def pt (i : Nat) : Int × Int := if i < 40 then pd (40 - i) else pu (i - 40)

theorem pt_succ (i : Nat) : pt (i + 1) = ((pt i).2, (pt i).1 + (pt i).2) := by
  unfold pt
  by_cases h : i + 1 < 40
  · rw [if_pos h, if_pos (by omega)]
    obtain ⟨j, hj⟩ : ∃ j, 40 - (i + 1) = j := ⟨_, rfl⟩
    rw [hj, show 40 - i = j + 1 by omega]
    simp only [pd]
    ext <;> simp
  · by_cases h2 : i < 40
    · obtain rfl : i = 39 := by omega
      decide
    · rw [if_neg h, if_neg h2, show i + 1 - 40 = (i - 40) + 1 by omega]
      rfl

theorem pt40 : pt 40 = (1, 0) := rfl

theorem mul_pt_succ (i : Nat) (u : Int × Int) : mul (pt (i + 1)) u = ((mul (pt i) u).2, (mul (pt i) u).1 + (mul (pt i) u).2) := by
  rw [pt_succ]; unfold mul; simp only [Prod.mk.injEq]; constructor <;> grind

theorem sgn_pt (i : Nat) (u : Int × Int) : sgn (mul (pt i) u).1 (mul (pt i) u).2 = sgn u.1 u.2 := by
  have up : ∀ i, sgn (mul (pt (i + 1)) u).1 (mul (pt (i + 1)) u).2 = sgn (mul (pt i) u).1 (mul (pt i) u).2 := by
    intro i; rw [mul_pt_succ]; exact sgn_mulw _ _
  have all : ∀ i, sgn (mul (pt i) u).1 (mul (pt i) u).2 = sgn (mul (pt 0) u).1 (mul (pt 0) u).2 := by
    intro i
    induction i with
    | zero => rfl
    | succ i ih => rw [up, ih]
  rw [all i, ← all 40, pt40]
  unfold mul; simp

/-- one digit: is the power at i at most x? -/
def dgx (i : Nat) (x : Int × Int) : Bool := decide (0 ≤ sgn (x.1 - (pt i).1) (x.2 - (pt i).2))
def nxx (i : Nat) (x : Int × Int) : Int × Int := if dgx i x then (x.1 - (pt i).1, x.2 - (pt i).2) else x
/-- what is left behind the digits at n - 1, .., m -/
def lefts : Nat → Nat → Int × Int → Int × Int      -- number of digits, the place above them
  | 0, _, x => x
  | n + 1, i, x => lefts n (i - 1) (nxx (i - 1) x)

theorem dgx_u (i : Nat) (u : Int × Int) (h1 : -900000000000000 ≤ u.1 + u.2) (h2 : u.1 + u.2 ≤ 900000000000000) : dgx i (mul (pt (i + 1)) u) = dg u.1 u.2 := by
  unfold dgx dg
  have e : ((mul (pt (i + 1)) u).1 - (pt i).1, (mul (pt (i + 1)) u).2 - (pt i).2) = mul (pt i) (u.2 - 1, u.1 + u.2) := by
    rw [pt_succ]; unfold mul; simp only [Prod.mk.injEq]; constructor <;> grind
  have e' := Prod.mk.injEq .. ▸ e
  have e1 := congrArg Prod.fst e
  have e2 := congrArg Prod.snd e
  simp only [] at e1 e2
  rw [e1, e2, sgn_pt]
  simp only []
  have x := sgn_lin (u.2 - 1) (u.1 + u.2) (by omega) (by omega)
  unfold lin at *
  rw [decide_eq_decide]
  omega

theorem nxx_u (i : Nat) (u : Int × Int) (h1 : -900000000000000 ≤ u.1 + u.2) (h2 : u.1 + u.2 ≤ 900000000000000) :
    nxx i (mul (pt (i + 1)) u) = mul (pt i) (nx u.1 u.2) := by
  unfold nxx nx
  rw [dgx_u i u h1 h2]
  by_cases h : dg u.1 u.2 = true
  · rw [if_pos h, if_pos h, pt_succ]; unfold mul; simp only [Prod.mk.injEq]; constructor <;> grind
  · rw [if_neg h, if_neg h, pt_succ]; unfold mul; simp only [Prod.mk.injEq]; constructor <;> grind

theorem lefts_u (n : Nat) : ∀ (i : Nat) (u : Int × Int) (M : Int), n ≤ i → InU u.1 u.2 → -M ≤ u.2 → u.2 ≤ M → M ≤ 300000000000000 →
    lefts n i (mul (pt i) u) = mul (pt (i - n)) (nxs n u.1 u.2) := by
  induction n with
  | zero => intro i u M _ _ _ _ _; rfl
  | succ n ih =>
    intro i u M hi hu h1 h2 hM
    obtain ⟨j, rfl⟩ : ∃ j, i = j + 1 := ⟨i - 1, by omega⟩
    have hq := inU_q u.1 u.2 M hu h1 h2
    by_cases hM2 : 4 ≤ M
    · have : M * 6181 / 10000 + 1 ≤ M := by omega
      have e : (nx u.1 u.2).2 = u.1 + u.2 := by unfold nx; split <;> rfl
      rw [lefts, Nat.add_sub_cancel, nxx_u j u (by omega) (by omega)]
      rw [ih j (nx u.1 u.2) M (by omega) (nx_inU _ _ hu (by omega) (by omega)) (by omega) (by omega) hM]
      rw [show j + 1 - (n + 1) = j - n by omega]
      rfl
    · have e : (nx u.1 u.2).2 = u.1 + u.2 := by unfold nx; split <;> rfl
      rw [lefts, Nat.add_sub_cancel, nxx_u j u (by omega) (by omega)]
      rw [ih j (nx u.1 u.2) 4 (by omega) (nx_inU _ _ hu (by omega) (by omega)) (by omega) (by omega) (by omega)]
      rw [show j + 1 - (n + 1) = j - n by omega]
      rfl

theorem pt0 : pt 0 = (165580141, -102334155) := by decide +kernel
theorem pt80 : pt 80 = (63245986, 102334155) := by decide +kernel

theorem mul_pt_inv (x : Int × Int) : mul (pt 80) (mul (pt 0) x) = x := by
  rw [pt0, pt80]; unfold mul; ext <;> simp <;> omega

theorem sgn_nonneg_lin {a b : Int} (h : 0 ≤ sgn a b) (h1 : -1000000000000000 ≤ b) (h2 : b ≤ 1000000000000000) : 0 ≤ lin a b := by
  have := sgn_lin a b h1 h2
  unfold lin at *
  omega
theorem sgn_neg_lin {a b : Int} (h : sgn a b < 0) (h1 : -1000000000000000 ≤ b) (h2 : b ≤ 1000000000000000) : lin a b < 0 := by
  have := sgn_lin a b h1 h2
  unfold lin at *
  omega

theorem big_lt (a b : Int) (a1 : -1000000 ≤ a) (a2 : a ≤ 1000000) (b1 : -1000000 ≤ b) (b2 : b ≤ 1000000) : sgn (a - 63245986) (b - 102334155) = -1 := by
  have := sgn_lin (a - 63245986) (b - 102334155) (by omega) (by omega)
  unfold lin at *
  omega

theorem lefts80 (a b : Int) (a1 : -1000000 ≤ a) (a2 : a ≤ 1000000) (b1 : -1000000 ≤ b) (b2 : b ≤ 1000000) (h : 0 ≤ sgn a b) : lefts 80 80 (a, b) = (0, 0) := by
  have e := mul_pt_inv (a, b)
  have hu : mul (pt 0) (a, b) = (165580141 * a - 102334155 * b, 165580141 * b - 102334155 * a - 102334155 * b) := by
    rw [pt0]; unfold mul; ext <;> simp <;> omega
  have s1 : 0 ≤ sgn (mul (pt 0) (a, b)).1 (mul (pt 0) (a, b)).2 := by rw [sgn_pt]; exact h
  have s2 : sgn ((mul (pt 0) (a, b)).1 - 1) (mul (pt 0) (a, b)).2 < 0 := by
    have e2 : ((mul (pt 0) (a, b)).1 - 1, (mul (pt 0) (a, b)).2) = mul (pt 0) (a - 63245986, b - 102334155) := by
      rw [pt0]; unfold mul; ext <;> simp <;> omega
    have e21 := congrArg Prod.fst e2
    have e22 := congrArg Prod.snd e2
    simp only [] at e21 e22
    rw [e21, e22, sgn_pt]
    simp only []
    have := big_lt a b a1 a2 b1 b2
    omega
  rw [← e]
  rw [hu] at *
  have l1 := sgn_nonneg_lin s1 (by simp only []; omega) (by simp only []; omega)
  have l2 := sgn_neg_lin s2 (by simp only []; omega) (by simp only []; omega)
  have hin : InU (165580141 * a - 102334155 * b) (165580141 * b - 102334155 * a - 102334155 * b) := by
    unfold InU lin at *
    simp only [] at l1 l2
    omega
  rw [lefts_u 80 80 _ 300000000000000 (by decide) hin (by simp only []; omega) (by simp only []; omega) (by decide)]
  simp only []
  rw [show 80 = 74 + 6 from rfl, nxs_add, ends74 _ _ hin (by omega) (by omega)]
  rw [nxs_zero]
  unfold mul; simp

abbrev G := Int × Int
/-- the sign of a number -/
def sg (x : G) : Int := sgn x.1 x.2
def add (x y : G) : G := (x.1 + y.1, x.2 + y.2)
def sub (x y : G) : G := (x.1 - y.1, x.2 - y.2)

theorem sg_big (x y : G) : ∃ n : Nat, -(n : Int) < 2 * x.2 ∧ 2 * x.2 < n ∧ -(n : Int) < 2 * y.2 ∧ 2 * y.2 < n ∧ -(n : Int) < 2 * (x.2 + y.2) ∧ 2 * (x.2 + y.2) < n ∧ -(n : Int) < 2 * (x.2 - y.2) ∧ 2 * (x.2 - y.2) < n :=
  ⟨2 * x.2.natAbs + 2 * y.2.natAbs + 1, by omega, by omega, by omega, by omega, by omega, by omega, by omega, by omega⟩

theorem sg_add (x y : G) : (0 ≤ sg x → 0 ≤ sg y → 0 ≤ sg (add x y)) ∧ (0 < sg x → 0 ≤ sg y → 0 < sg (add x y)) ∧ (0 ≤ sg x → 0 < sg y → 0 < sg (add x y)) := by
  obtain ⟨n, h1, h2, h3, h4, h5, h6, _, _⟩ := sg_big x y
  have a := sgn_fp n x.1 x.2 h1 h2
  have b := sgn_fp n y.1 y.2 h3 h4
  have c := sgn_fp n (x.1 + y.1) (x.2 + y.2) h5 h6
  have e : (fp n).1 * (x.1 + y.1) + (fp n).2 * (x.2 + y.2) = ((fp n).1 * x.1 + (fp n).2 * x.2) + ((fp n).1 * y.1 + (fp n).2 * y.2) := by grind
  rw [e] at c
  unfold sg add
  simp only []
  have z1 : sgn x.1 x.2 = 0 → (fp n).1 * x.1 + (fp n).2 * x.2 = 0 := by
    intro h; rw [sgn_zero_iff] at h; rw [h.1, h.2]; simp
  have z2 : sgn y.1 y.2 = 0 → (fp n).1 * y.1 + (fp n).2 * y.2 = 0 := by
    intro h; rw [sgn_zero_iff] at h; rw [h.1, h.2]; simp
  generalize (fp n).1 * x.1 + (fp n).2 * x.2 = X at *
  generalize (fp n).1 * y.1 + (fp n).2 * y.2 = Y at *
  have z3 : sgn (x.1 + y.1) (x.2 + y.2) = 0 → X + Y = 0 := by
    intro h
    have e2 := (sgn_zero_iff _ _).1 h
    rw [e2.1, e2.2] at e
    simp at e
    omega
  omega

theorem sg_neg (x : G) : sg (-x.1, -x.2) = -sg x := by
  obtain ⟨n, h1, h2, _⟩ := sg_big x x
  have a := sgn_fp n x.1 x.2 h1 h2
  have c := sgn_fp n (-x.1) (-x.2) (by omega) (by omega)
  rw [Int.mul_neg, Int.mul_neg] at c
  unfold sg
  simp only []
  have z1 : sgn x.1 x.2 = 0 → (fp n).1 * x.1 + (fp n).2 * x.2 = 0 := by
    intro h; rw [sgn_zero_iff] at h; rw [h.1, h.2]; simp
  have z2 : sgn (-x.1) (-x.2) = 0 → (fp n).1 * x.1 + (fp n).2 * x.2 = 0 := by
    intro h; rw [sgn_zero_iff] at h; rw [show x.1 = 0 by omega, show x.2 = 0 by omega]; simp
  generalize (fp n).1 * x.1 = X at *
  generalize (fp n).2 * x.2 = Y at *
  omega
theorem sg_sub_comm (x y : G) : sg (sub y x) = -sg (sub x y) := by
  rw [← sg_neg]; unfold sub; simp only []; congr 1; ext <;> simp <;> omega
theorem sg_zero_iff (x : G) : sg x = 0 ↔ x = (0, 0) := by
  unfold sg; rw [sgn_zero_iff]; constructor
  · rintro ⟨h1, h2⟩; exact Prod.ext h1 h2
  · intro h; rw [h]; exact ⟨rfl, rfl⟩
theorem sg_tri (x : G) : sg x = 1 ∨ sg x = 0 ∨ sg x = -1 := sgn_tri _ _

/-- less or equal, less -/
def Le (x y : G) : Prop := 0 ≤ sg (sub y x)
def Lt (x y : G) : Prop := 0 < sg (sub y x)
theorem sub_add (x y z : G) : sub z x = add (sub y x) (sub z y) := by unfold sub add; ext <;> simp <;> omega
theorem Le.trans {x y z : G} (h : Le x y) (h' : Le y z) : Le x z := by unfold Le; rw [sub_add x y z]; exact (sg_add _ _).1 h h'
theorem Lt.trans_le {x y z : G} (h : Lt x y) (h' : Le y z) : Lt x z := by unfold Lt; rw [sub_add x y z]; exact (sg_add _ _).2.1 h h'
theorem Le.trans_lt {x y z : G} (h : Le x y) (h' : Lt y z) : Lt x z := by unfold Lt; rw [sub_add x y z]; exact (sg_add _ _).2.2 h h'
theorem Lt.le {x y : G} (h : Lt x y) : Le x y := by unfold Lt at h; unfold Le; omega
theorem Lt.trans {x y z : G} (h : Lt x y) (h' : Lt y z) : Lt x z := h.trans_le h'.le
theorem not_le (x y : G) : ¬ Le x y ↔ Lt y x := by unfold Le Lt; rw [sg_sub_comm x y]; omega
theorem not_lt (x y : G) : ¬ Lt x y ↔ Le y x := by unfold Le Lt; rw [sg_sub_comm x y]; omega
theorem Le.refl (x : G) : Le x x := by unfold Le sub sg; simp; decide
theorem lt_irrefl (x : G) : ¬ Lt x x := by rw [not_lt]; exact Le.refl x
theorem Le.antisymm {x y : G} (h : Le x y) (h' : Le y x) : x = y := by
  unfold Le at *
  have h2 := sg_sub_comm x y
  have : sg (sub y x) = 0 := by omega
  rw [sg_zero_iff] at this
  unfold sub at this
  simp only [Prod.mk.injEq] at this
  exact Prod.ext (by omega) (by omega)
theorem add_le {x y x' y' : G} (h : Le x y) (h' : Le x' y') : Le (add x x') (add y y') := by
  unfold Le
  rw [show sub (add y y') (add x x') = add (sub y x) (sub y' x') by unfold sub add; ext <;> simp <;> omega]
  exact (sg_add _ _).1 h h'
theorem add_lt {x y x' y' : G} (h : Le x y) (h' : Lt x' y') : Lt (add x x') (add y y') := by
  unfold Lt
  rw [show sub (add y y') (add x x') = add (sub y x) (sub y' x') by unfold sub add; ext <;> simp <;> omega]
  exact (sg_add _ _).2.2 h h'
theorem sub_lt_iff (x y z : G) : Lt (sub x y) z ↔ Lt x (add y z) := by
  unfold Lt
  rw [show sub z (sub x y) = sub (add y z) x by unfold sub add; ext <;> simp <;> omega]

theorem pt_pos (i : Nat) : 0 < sg (pt i) := by
  have h := sgn_pt i (1, 0)
  have e : mul (pt i) (1, 0) = pt i := by unfold mul; ext <;> simp
  rw [e] at h
  unfold sg
  rw [h]
  decide
theorem pt_add (i : Nat) : pt (i + 2) = add (pt i) (pt (i + 1)) := by
  rw [pt_succ (i + 1), pt_succ i]; unfold add; ext <;> simp <;> omega
theorem zero_lt_pt (i : Nat) : Lt (0, 0) (pt i) := by
  unfold Lt sub; simp only [Int.sub_zero]; exact pt_pos i
theorem pt_lt (i : Nat) : Lt (pt i) (pt (i + 1)) := by
  rcases i with _ | i
  · unfold Lt sub sg; rw [pt_succ 0, pt0]; decide
  · rw [pt_add i]
    have h := add_lt (Le.refl (pt (i + 1))) (zero_lt_pt i)
    have e1 : add (pt (i + 1)) (0, 0) = pt (i + 1) := by unfold add; ext <;> simp
    have e2 : add (pt (i + 1)) (pt i) = add (pt i) (pt (i + 1)) := by unfold add; ext <;> simp <;> omega
    rw [e1, e2] at h
    exact h
theorem pt_mono {i j : Nat} (h : i ≤ j) : Le (pt i) (pt j) := by
  induction j with
  | zero => obtain rfl : i = 0 := by omega
            exact Le.refl _
  | succ j ih =>
    by_cases e : i = j + 1
    · rw [e]; exact Le.refl _
    · exact (ih (by omega)).trans (pt_lt j).le
theorem dgx_iff (i : Nat) (x : G) : dgx i x = true ↔ Le (pt i) x := by
  unfold dgx Le sub sg; simp
theorem dgx_false_iff (i : Nat) (x : G) : dgx i x = false ↔ Lt x (pt i) := by
  rw [← not_le, ← dgx_iff]; simp

/-- the digits at the places n - 1, .., 0 before the point -/
def ints : Nat → G → List UInt8
  | 0, _ => []
  | n + 1, x => (if dgx (n + 40) x then 49 else 48) :: ints n (nxx (n + 40) x)
/-- what they leave -/
def rest : Nat → G → G
  | 0, x => x
  | n + 1, x => rest n (nxx (n + 40) x)
/-- the digits behind the point, while something is left -/
def frac : Nat → G → List UInt8
  | 0, _ => []
  | n + 1, x => if x = (0, 0) then [] else (if dgx n x then 49 else 48) :: frac n (nxx n x)
def tail (r : G) : List UInt8 := if r = (0, 0) then [] else 46 :: frac 40 r
/-- the plain text of a number -/
def textOf (x : G) : List UInt8 :=
  (if (ints 40 x).dropWhile (· == 48) = [] then [48] else (ints 40 x).dropWhile (· == 48)) ++ tail (rest 40 x)

/-- the value of digits, the first at the place below i -/
def vl : Nat → List UInt8 → G
  | _, [] => (0, 0)
  | i, c :: l => add ((((c.toNat : Int) - 48) * (pt (i - 1)).1, ((c.toNat : Int) - 48) * (pt (i - 1)).2)) (vl (i - 1) l)

theorem dg_add (i : Nat) (x : G) : add ((((if dgx i x then (49 : UInt8) else 48).toNat : Int) - 48) * (pt i).1, (((if dgx i x then (49 : UInt8) else 48).toNat : Int) - 48) * (pt i).2) (nxx i x) = x := by
  unfold nxx add
  by_cases h : dgx i x = true
  · simp [h]; ext <;> simp <;> omega
  · simp [h]

theorem add_assoc (x y z : G) : add (add x y) z = add x (add y z) := by unfold add; ext <;> simp <;> omega
theorem add_zero (x : G) : add x (0, 0) = x := by unfold add; ext <;> simp
theorem zero_add (x : G) : add (0, 0) x = x := by unfold add; ext <;> simp

theorem vl_ints (n : Nat) : ∀ x, add (vl (n + 40) (ints n x)) (rest n x) = x := by
  induction n with
  | zero => intro x; simp only [ints, vl, rest]; exact zero_add x
  | succ n ih =>
    intro x
    simp only [ints, vl, rest]
    rw [show n + 1 + 40 - 1 = n + 40 by omega, add_assoc, ih, dg_add]

theorem nxx_zero (i : Nat) : nxx i (0, 0) = (0, 0) := by
  unfold nxx
  have : dgx i (0, 0) = false := by
    rw [dgx_false_iff]; exact zero_lt_pt i
  rw [this]; rfl

theorem lefts_zero (n : Nat) : ∀ i, lefts n i (0, 0) = (0, 0) := by
  induction n with
  | zero => intro i; rfl
  | succ n ih => intro i; rw [lefts, nxx_zero]; exact ih _

theorem lefts_add (m : Nat) : ∀ (n i : Nat) (x : G), lefts (m + n) i x = lefts n (i - m) (lefts m i x) := by
  induction m with
  | zero => intro n i x; simp [lefts]
  | succ m ih => intro n i x; rw [Nat.add_right_comm]; simp only [lefts]; rw [ih]; congr 1; omega

theorem rest_lefts (n : Nat) : ∀ x, rest n x = lefts n (n + 40) x := by
  induction n with
  | zero => intro x; rfl
  | succ n ih => intro x; rw [rest, lefts, show n + 1 + 40 - 1 = n + 40 by omega, ih]

theorem vl_frac (n : Nat) : ∀ x, add (vl n (frac n x)) (lefts n n x) = x := by
  induction n with
  | zero => intro x; simp only [frac, vl, lefts]; exact zero_add x
  | succ n ih =>
    intro x
    rw [frac]
    by_cases h : x = (0, 0)
    · rw [if_pos h, h, lefts_zero]; rfl
    · rw [if_neg h]
      simp only [vl, lefts]
      rw [Nat.add_sub_cancel, add_assoc, ih, dg_add]

/-- the number that is not less than 0, and not too great -/
def Num (x : G) : Prop := -1000000 ≤ x.1 ∧ x.1 ≤ 1000000 ∧ -1000000 ≤ x.2 ∧ x.2 ≤ 1000000
instance (x : G) : Decidable (Num x) := by unfold Num; exact inferInstance

theorem text_ends (x : G) (hx : Num x) (h : 0 ≤ sg x) : lefts 40 40 (rest 40 x) = (0, 0) := by
  rw [rest_lefts]
  have := lefts_add 40 40 80 x
  rw [show (80 : Nat) - 40 = 40 from rfl] at this
  rw [← this]
  exact lefts80 x.1 x.2 hx.1 hx.2.1 hx.2.2.1 hx.2.2.2 h

theorem vl_zero_cons (i : Nat) (l : List UInt8) : vl i (48 :: l) = vl (i - 1) l := by
  rw [vl]; simp only [show ((48 : UInt8).toNat : Int) - 48 = 0 from rfl, Int.zero_mul]; exact zero_add _

theorem vl_drop (l : List UInt8) : ∀ i, l.length ≤ i → vl ((l.dropWhile (· == 48)).length + (i - l.length)) (l.dropWhile (· == 48)) = vl i l := by
  induction l with
  | nil => intro i _; rfl
  | cons c l ih =>
    intro i hi
    rw [List.dropWhile_cons]
    by_cases h : (c == 48) = true
    · rw [if_pos h]
      have hc : c = 48 := by simpa using h
      rw [hc, vl_zero_cons]
      simp at hi
      rw [← ih (i - 1) (by omega)]
      congr 1
      simp
      omega
    · rw [if_neg h]
      congr 1
      simp at hi ⊢
      omega

theorem ints_length (n : Nat) : ∀ x, (ints n x).length = n := by
  induction n with
  | zero => intro x; rfl
  | succ n ih => intro x; simp [ints, ih]
theorem frac_length (n : Nat) : ∀ x, (frac n x).length ≤ n := by
  induction n with
  | zero => intro x; simp [frac]
  | succ n ih => intro x; rw [frac]; split; simp; have := ih (nxx n x); simp; omega

theorem vl_append (l l' : List UInt8) : ∀ i, vl i (l ++ l') = add (vl i l) (vl (i - l.length) l') := by
  induction l with
  | nil => intro i; simp only [List.nil_append, vl]; exact (zero_add _).symm
  | cons c l ih => intro i; simp only [List.cons_append, vl]; rw [ih, add_assoc]; congr 3; simp; omega

/-- the digits before the point, and behind it -/
def head (x : G) : List UInt8 := if (ints 40 x).dropWhile (· == 48) = [] then [48] else (ints 40 x).dropWhile (· == 48)
theorem textOf_eq (x : G) : textOf x = head x ++ tail (rest 40 x) := rfl
theorem vl_head (x : G) : vl ((head x).length + 40) (head x) = vl 80 (ints 40 x) := by
  have h := vl_drop (ints 40 x) 80 (by rw [ints_length]; decide)
  rw [ints_length] at h
  unfold head
  by_cases e : (ints 40 x).dropWhile (· == 48) = []
  · rw [if_pos e]; rw [e] at h; rw [← h]; rfl
  · rw [if_neg e]; exact h
theorem head_length (x : G) : 1 ≤ (head x).length ∧ (head x).length ≤ 40 := by
  unfold head
  by_cases e : (ints 40 x).dropWhile (· == 48) = []
  · rw [if_pos e]; simp
  · rw [if_neg e]
    have h1 : 0 < ((ints 40 x).dropWhile (· == 48)).length := List.length_pos_iff.2 e
    have h2 := (List.dropWhile_sublist (· == 48) (l := ints 40 x)).length_le
    rw [ints_length] at h2
    omega
/-- the value of the text is the number -/
theorem vl_text (x : G) (hx : Num x) (h : 0 ≤ sg x) : vl ((head x).length + 40) (head x ++ (frac 40 (rest 40 x))) = x := by
  rw [vl_append, vl_head, Nat.add_sub_cancel_left]
  have h1 := vl_frac 40 (rest 40 x)
  rw [text_ends x hx h, add_zero] at h1
  rw [h1]
  exact vl_ints 40 x

/-- digits 0 and 1, no two digits 1 side by side, the first one behind 'last' -/
def plainD : UInt8 → List UInt8 → Bool
  | _, [] => true
  | last, c :: l => !(decide (49 < c) || (c == 49 && last == 49)) && plainD c l

theorem zero_le_iff (x : G) : Le (0, 0) x ↔ 0 ≤ sg x := by unfold Le sub; simp
theorem zero_lt_iff (x : G) : Lt (0, 0) x ↔ 0 < sg x := by unfold Lt sub; simp
theorem nxx_nonneg (i : Nat) (x : G) (h : 0 ≤ sg x) : 0 ≤ sg (nxx i x) := by
  unfold nxx
  by_cases hd : dgx i x = true
  · rw [if_pos hd]
    rw [dgx_iff] at hd
    exact hd
  · rw [if_neg hd]; exact h
theorem nxx_one (i : Nat) (x : G) (hd : dgx i x = true) : nxx i x = sub x (pt i) := by unfold nxx sub; rw [if_pos hd]
theorem nxx_none (i : Nat) (x : G) (hd : dgx i x = false) : nxx i x = x := by unfold nxx; rw [hd]; rfl
theorem nxx_lt (i : Nat) (x : G) (h : Lt x (pt (i + 1))) : Lt (nxx i x) (pt i) := by
  by_cases hd : dgx i x = true
  · rw [nxx_one i x hd, sub_lt_iff]
    refine h.trans_le ?_
    rcases i with _ | i
    · unfold Le; decide +kernel
    · rw [pt_add i]
      have := add_le (pt_lt i).le (Le.refl (pt (i + 1)))
      exact this
  · have hd : dgx i x = false := by simpa using hd
    rw [nxx_none i x hd, ← dgx_false_iff]; exact hd
theorem nxx_lt2 (i : Nat) (x : G) (h : Lt x (pt (i + 2))) (hd : dgx (i + 1) x = true) : Lt (nxx (i + 1) x) (pt i) := by
  rw [nxx_one _ x hd, sub_lt_iff]
  rw [pt_add i] at h
  have e : add (pt i) (pt (i + 1)) = add (pt (i + 1)) (pt i) := by unfold add; ext <;> simp <;> omega
  rw [← e]; exact h

theorem frac_plain (n : Nat) : ∀ x, 0 ≤ sg x → (Lt x (pt n) → plainD 48 (frac n x) = true) ∧ (Lt x (pt (n - 1)) → plainD 49 (frac n x) = true) := by
  induction n with
  | zero => intro x _; simp [frac, plainD]
  | succ n ih =>
    intro x hx
    rw [frac]
    by_cases h0 : x = (0, 0)
    · rw [if_pos h0]; simp [plainD]
    rw [if_neg h0]
    have hn := nxx_nonneg n x hx
    by_cases hd : dgx n x = true
    · rw [if_pos hd]
      constructor
      · intro hlt
        rcases n with _ | n
        · simp [plainD, frac]
        · have := (ih (nxx (n + 1) x) hn).2 (nxx_lt2 n x hlt hd)
          simp [plainD, this]
      · intro hlt
        rw [Nat.add_sub_cancel, ← dgx_false_iff] at hlt
        rw [hd] at hlt; cases hlt
    · rw [if_neg hd]
      have hd' : dgx n x = false := by simpa using hd
      have hlt := (dgx_false_iff n x).1 hd'
      have := (ih (nxx n x) hn).1 (by rw [nxx_none n x hd']; exact hlt)
      simp [plainD, this]

theorem rest_nonneg (n : Nat) : ∀ x, 0 ≤ sg x → 0 ≤ sg (rest n x) := by
  induction n with
  | zero => intro x h; exact h
  | succ n ih => intro x h; exact ih _ (nxx_nonneg _ _ h)
theorem rest_lt (n : Nat) : ∀ x, Lt x (pt (n + 40)) → Lt (rest n x) (pt 40) := by
  induction n with
  | zero => intro x h; exact h
  | succ n ih => intro x h; exact ih _ (nxx_lt _ _ (by rw [show n + 40 + 1 = n + 1 + 40 by omega]; exact h))

/-- all digits in one: those before the point, then those behind it -/
def allD (n : Nat) (x : G) : List UInt8 := ints n x ++ frac 40 (rest n x)
theorem allD_succ (n : Nat) (x : G) : allD (n + 1) x = (if dgx (n + 40) x then 49 else 48) :: allD n (nxx (n + 40) x) := rfl
theorem all_plain (n : Nat) : ∀ x, 0 ≤ sg x → (Lt x (pt (n + 40)) → plainD 48 (allD n x) = true) ∧ (Lt x (pt (n + 39)) → plainD 49 (allD n x) = true) := by
  induction n with
  | zero => intro x h; exact frac_plain 40 x h
  | succ n ih =>
    intro x hx
    rw [allD_succ]
    have hn := nxx_nonneg (n + 40) x hx
    by_cases hd : dgx (n + 40) x = true
    · rw [if_pos hd]
      constructor
      · intro hlt
        have := (ih (nxx (n + 40) x) hn).2 (nxx_lt2 (n + 39) x (by rw [show n + 39 + 2 = n + 1 + 40 by omega]; exact hlt) hd)
        simp [plainD, this]
      · intro hlt
        rw [show n + 1 + 39 = n + 40 by omega, ← dgx_false_iff, hd] at hlt
        cases hlt
    · rw [if_neg hd]
      have hd' : dgx (n + 40) x = false := by simpa using hd
      have hlt := (dgx_false_iff (n + 40) x).1 hd'
      have := (ih (nxx (n + 40) x) hn).1 (by rw [nxx_none _ x hd']; exact hlt)
      simp [plainD, this]

/-- the value of plain digits lies below the place above them -/
theorem vl_bounds (l : List UInt8) : ∀ (i : Nat) (last : UInt8), l.length ≤ i → (∀ c ∈ l, 48 ≤ c) → plainD last l = true →
    0 ≤ sg (vl i l) ∧ Lt (vl i l) (pt i) ∧ (last = 49 → 1 ≤ i → Lt (vl i l) (pt (i - 1))) := by
  induction l with
  | nil => intro i last _ _ _; exact ⟨show 0 ≤ sg (0, 0) by decide, zero_lt_pt i, fun _ _ => zero_lt_pt _⟩
  | cons c l ih =>
    intro i last hi hc hp
    obtain ⟨i, rfl⟩ : ∃ j, i = j + 1 := ⟨i - 1, by simp at hi; omega⟩
    simp [plainD] at hp
    obtain ⟨⟨h1, h2⟩, h3⟩ := hp
    have hc48 : 48 ≤ c := hc c (by simp)
    have hcc : c = 48 ∨ c = 49 := by
      rw [UInt8.le_iff_toNat_le] at h1 hc48
      simp at h1 hc48
      rcases (by omega : c.toNat = 48 ∨ c.toNat = 49) with h | h
      · left; exact UInt8.toNat_inj.1 h
      · right; exact UInt8.toNat_inj.1 h
    have ih' := ih i c (by simp at hi; omega) (fun d hd => hc d (by simp [hd])) h3
    rcases hcc with rfl | rfl
    · rw [vl_zero_cons, Nat.add_sub_cancel]
      exact ⟨ih'.1, ih'.2.1.trans (pt_lt i), fun _ _ => ih'.2.1⟩
    · have e : vl (i + 1) (49 :: l) = add (pt i) (vl i l) := by
        rw [vl, Nat.add_sub_cancel]; simp only [show ((49 : UInt8).toNat : Int) - 48 = 1 from rfl, Int.one_mul]
      rw [e]
      refine ⟨?_, ?_, ?_⟩
      · rw [← zero_le_iff] at ih' ⊢
        have := add_le (zero_lt_pt i).le ih'.1
        rw [zero_add] at this
        exact this
      · rcases i with _ | i
        · have hl : l = [] := by cases l with | nil => rfl | cons d l => simp at hi
          rw [hl]; simp only [vl]; rw [add_zero]; exact pt_lt 0
        · have := add_lt (Le.refl (pt (i + 1))) (ih'.2.2 rfl (by omega))
          rw [Nat.add_sub_cancel] at this
          rw [pt_add i]
          have e : add (pt i) (pt (i + 1)) = add (pt (i + 1)) (pt i) := by unfold add; ext <;> simp <;> omega
          rw [e]; exact this
      · intro hl; exact absurd hl (by simpa using h2)

theorem dgx_vl (c : UInt8) (l : List UInt8) (i : Nat) (last : UInt8) (hi : l.length ≤ i) (hc : ∀ d ∈ c :: l, 48 ≤ d) (hp : plainD last (c :: l) = true) :
    (if dgx i (vl (i + 1) (c :: l)) then (49 : UInt8) else 48) = c ∧ nxx i (vl (i + 1) (c :: l)) = vl i l := by
  simp [plainD] at hp
  obtain ⟨⟨h1, h2⟩, h3⟩ := hp
  have hc48 : 48 ≤ c := hc c (by simp)
  have hcc : c = 48 ∨ c = 49 := by
    rw [UInt8.le_iff_toNat_le] at h1 hc48
    simp at h1 hc48
    rcases (by omega : c.toNat = 48 ∨ c.toNat = 49) with h | h
    · left; exact UInt8.toNat_inj.1 h
    · right; exact UInt8.toNat_inj.1 h
  have b := vl_bounds l i c hi (fun d hd => hc d (by simp [hd])) h3
  rcases hcc with rfl | rfl
  · rw [vl_zero_cons, Nat.add_sub_cancel]
    have : dgx i (vl i l) = false := by rw [dgx_false_iff]; exact b.2.1
    exact ⟨by rw [this]; rfl, nxx_none _ _ this⟩
  · have e : vl (i + 1) (49 :: l) = add (pt i) (vl i l) := by
      rw [vl, Nat.add_sub_cancel]; simp only [show ((49 : UInt8).toNat : Int) - 48 = 1 from rfl, Int.one_mul]
    have hd : dgx i (vl (i + 1) (49 :: l)) = true := by
      rw [dgx_iff, e]
      have := add_le (Le.refl (pt i)) ((zero_le_iff _).2 b.1)
      rw [add_zero] at this
      exact this
    refine ⟨by rw [hd]; rfl, ?_⟩
    rw [nxx_one _ _ hd, e]; unfold sub add; ext <;> simp <;> omega

theorem ints_vl (D E : List UInt8) (hE : E.length ≤ 40) : ∀ (last : UInt8), (∀ d ∈ D ++ E, 48 ≤ d) → plainD last (D ++ E) = true →
    ints D.length (vl (D.length + 40) (D ++ E)) = D ∧ rest D.length (vl (D.length + 40) (D ++ E)) = vl 40 E := by
  induction D with
  | nil => intro last _ _; exact ⟨rfl, by simp [rest]⟩
  | cons c D ih =>
    intro last hc hp
    have h := dgx_vl c (D ++ E) (D.length + 40) last (by simp; omega) hc hp
    have hp' : plainD c (D ++ E) = true := by simp only [List.cons_append, plainD] at hp; simp at hp; exact hp.2
    have ih' := ih c (fun d hd => hc d (by simp at hd ⊢; right; exact hd)) hp'
    simp only [List.length_cons, List.cons_append, ints, rest]
    rw [show D.length + 1 + 40 = D.length + 40 + 1 by omega, h.1, h.2]
    exact ⟨by rw [ih'.1], ih'.2⟩

theorem vl_ne_zero (l : List UInt8) : ∀ (i : Nat) (last : UInt8), l.length ≤ i → (∀ c ∈ l, 48 ≤ c) → plainD last l = true → l ≠ [] → l.getLastD 0 ≠ 48 → vl i l ≠ (0, 0) := by
  induction l with
  | nil => intro i last _ _ _ h; exact absurd rfl h
  | cons c l ih =>
    intro i last hi hc hp _ hl
    obtain ⟨i, rfl⟩ : ∃ j, i = j + 1 := ⟨i - 1, by simp at hi; omega⟩
    have h := dgx_vl c l i last (by simp at hi; omega) hc hp
    intro hz
    rw [hz] at h
    have hp' : plainD c l = true := by simp only [plainD] at hp; simp at hp; exact hp.2
    have hd : dgx i (0, 0) = false := by rw [dgx_false_iff]; exact zero_lt_pt i
    rw [hd, nxx_zero] at h
    have hc48 : c = 48 := by have := h.1; simp at this; exact this.symm
    cases l with
    | nil => simp [List.getLastD] at hl; exact hl hc48
    | cons d l =>
      exact ih i c (by simp at hi ⊢; omega) (fun e he => hc e (by simp at he ⊢; right; exact he)) hp' (by simp) (by simpa [List.getLastD] using hl) h.2.symm

theorem frac_vl (E : List UInt8) : ∀ (n : Nat) (last : UInt8), E.length ≤ n → (∀ d ∈ E, 48 ≤ d) → plainD last E = true → (E ≠ [] → E.getLastD 0 ≠ 48) → frac n (vl n E) = E := by
  induction E with
  | nil => intro n last _ _ _ _; cases n <;> simp [frac, vl]
  | cons c E ih =>
    intro n last hn hc hp hl
    obtain ⟨n, rfl⟩ : ∃ j, n = j + 1 := ⟨n - 1, by simp at hn; omega⟩
    have hne := vl_ne_zero (c :: E) (n + 1) last hn hc hp (by simp) (hl (by simp))
    have h := dgx_vl c E n last (by simp at hn; omega) hc hp
    have hp' : plainD c E = true := by simp only [plainD] at hp; simp at hp; exact hp.2
    rw [frac, if_neg hne, h.1, h.2]
    rw [ih n c (by simp at hn; omega) (fun e he => hc e (by simp [he])) hp']
    intro hE
    have := hl (by simp)
    cases E with
    | nil => exact absurd rfl hE
    | cons d l => simpa [List.getLastD] using this

end Go.Proofs.YtgocloilagcfoabDoor.GM
