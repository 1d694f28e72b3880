/- The plain law of writing: digit by digit, what is written and what is still to come make the plain text. -/
import Derived.Test.YtgocloilagcfoabDoorM1
namespace Go.Proofs.YtgocloilagcfoabDoor.GM

def sb1 : Nat → Int
  | 0 => 0
  | n + 1 => sb1 n + ((pt n).1.natAbs : Int)
def sb2 : Nat → Int
  | 0 => 0
  | n + 1 => sb2 n + ((pt n).2.natAbs : Int)
theorem lefts_bd (n : Nat) : ∀ x : G, lefts n n x = (0, 0) → -(sb1 n) ≤ x.1 ∧ x.1 ≤ sb1 n ∧ -(sb2 n) ≤ x.2 ∧ x.2 ≤ sb2 n := by
  induction n with
  | zero =>
    intro x h
    have : x = (0, 0) := h
    subst this
    decide
  | succ n ih =>
    intro x h
    have h' : lefts n n (nxx n x) = (0, 0) := h
    obtain ⟨a1, a2, a3, a4⟩ := ih _ h'
    unfold sb1 sb2
    unfold nxx at a1 a2 a3 a4
    split at a1
    · rename_i hd
      simp only [hd, if_true] at a1 a2 a3 a4
      omega
    · rename_i hd
      simp only [hd] at a2 a3 a4
      simp at a2 a3 a4
      omega
theorem sb_top : ∀ n : Fin 80, sb1 (n + 1) + ((pt n).1.natAbs : Int) ≤ 600000000 ∧ sb2 (n + 1) + ((pt n).2.natAbs : Int) ≤ 600000000 ∧ sb1 (n + 1) ≤ 600000000 ∧ sb2 (n + 1) ≤ 600000000 := by decide +kernel
/-- the bounds under which the program's sign is right -/
theorem step_bd (n : Nat) (hn : n < 80) (x : G) (h : lefts (n + 1) (n + 1) x = (0, 0)) :
    -600000000 ≤ x.1 - (pt n).1 ∧ x.1 - (pt n).1 ≤ 600000000 ∧ -600000000 ≤ x.2 - (pt n).2 ∧ x.2 - (pt n).2 ≤ 600000000 ∧ -600000000 ≤ x.1 ∧ x.1 ≤ 600000000 ∧ -600000000 ≤ x.2 ∧ x.2 ≤ 600000000 := by
  obtain ⟨a1, a2, a3, a4⟩ := lefts_bd _ _ h
  obtain ⟨b1, b2, b3, b4⟩ := sb_top ⟨n, hn⟩
  dsimp only at b1 b2 b3 b4
  omega

/-- what is still to be written below place n -/
def fut (n : Nat) (x : G) : List UInt8 := if 40 ≤ n then ints (n - 40) x ++ tail (rest (n - 40) x) else frac n x
/-- one digit -/
def dgt (n : Nat) (x : G) : UInt8 := if dgx n x = true then 49 else 48
theorem fut_int (n : Nat) (x : G) (h : 40 ≤ n) : fut (n + 1) x = dgt n x :: fut n (nxx n x) := by
  unfold fut
  rw [if_pos (by omega), if_pos h, show n + 1 - 40 = (n - 40) + 1 by omega]
  show ((if dgx (n - 40 + 40) x then (49 : UInt8) else 48) :: ints (n - 40) (nxx (n - 40 + 40) x)) ++ tail (rest (n - 40) (nxx (n - 40 + 40) x)) = _
  rw [show n - 40 + 40 = n by omega]
  rfl
theorem fut_40 (x : G) : fut 40 x = if x = (0, 0) then [] else 46 :: dgt 39 x :: frac 39 (nxx 39 x) := by
  show tail x = _
  unfold tail
  by_cases h : x = (0, 0)
  · rw [if_pos h, if_pos h]
  · rw [if_neg h, if_neg h]
    show 46 :: (if x = (0, 0) then [] else _) = _
    rw [if_neg h]; rfl
theorem fut_frac (n : Nat) (x : G) (h : n < 39) (hx : x ≠ (0, 0)) : fut (n + 1) x = dgt n x :: frac n (nxx n x) := by
  unfold fut
  rw [if_neg (by omega)]
  show (if x = (0, 0) then [] else _) = _
  rw [if_neg hx]; rfl
theorem frac_zero (n : Nat) : frac n (0, 0) = [] := by cases n <;> rfl
theorem fut_lt (n : Nat) (x : G) (h : n < 40) : fut n x = frac n x := by unfold fut; rw [if_neg (by omega)]
theorem fut_80 (x : G) : fut 80 x = ints 40 x ++ tail (rest 40 x) := rfl
theorem lefts_next (n : Nat) (x : G) (h : lefts (n + 1) (n + 1) x = (0, 0)) : lefts n n (nxx n x) = (0, 0) := h
theorem ints_01 (n : Nat) : ∀ x, ∀ c ∈ ints n x, c = 49 ∨ c = 48 := by
  induction n with
  | zero => intro x c h; cases h
  | succ n ih =>
    intro x c h
    rcases List.mem_cons.1 h with h | h
    · rw [h]; split
      · exact .inl rfl
      · exact .inr rfl
    · exact ih _ c h
theorem tail_drop (r : G) : (tail r).dropWhile (· == 48) = tail r := by
  unfold tail
  split
  · rfl
  · rfl
/-- the noughts in front cut off: the plain text, but for a nought ahead of the point -/
theorem text_cut (x : G) : (∀ c l, (ints 40 x ++ tail (rest 40 x)).dropWhile (· == 48) = c :: l → c ≠ 46 → textOf x = c :: l) ∧
    (∀ l, (ints 40 x ++ tail (rest 40 x)).dropWhile (· == 48) = 46 :: l → textOf x = 48 :: 46 :: l) ∧
    ((ints 40 x ++ tail (rest 40 x)).dropWhile (· == 48) = [] → textOf x = [48]) := by
  have h01 := ints_01 40 x
  unfold textOf
  generalize ints 40 x = I at *
  have htl := tail_drop (rest 40 x)
  have h46 : ∀ c l, tail (rest 40 x) = c :: l → c = 46 := by
    intro c l h
    unfold tail at h
    split at h
    · cases h
    · exact (List.cons.inj h).1.symm
  generalize tail (rest 40 x) = T at *
  have key : (I ++ T).dropWhile (· == 48) = if I.dropWhile (· == 48) = [] then T else I.dropWhile (· == 48) ++ T := by
    rw [List.dropWhile_append]
    by_cases h : I.dropWhile (· == 48) = []
    · simp [h, htl]
    · simp [h]
  have hI : ∀ c l, I.dropWhile (· == 48) = c :: l → c = 49 := by
    intro c l h
    have hm : c ∈ I := (List.dropWhile_sublist _).mem (by rw [h]; exact List.mem_cons_self)
    rcases h01 c hm with h1 | h1
    · exact h1
    · have := List.head?_dropWhile_not (· == 48) I
      rw [h] at this
      simp [h1] at this
  rw [key]
  by_cases h : I.dropWhile (· == 48) = []
  · rw [if_pos h, if_pos h]
    refine ⟨fun c l h1 h2 => absurd (h46 c l h1) h2, fun l h1 => by rw [h1]; rfl, fun h1 => by rw [h1]; rfl⟩
  · rw [if_neg h, if_neg h]
    obtain ⟨c0, l0, hc0⟩ : ∃ c l, I.dropWhile (· == 48) = c :: l := by
      cases h2 : I.dropWhile (· == 48) with
      | nil => exact absurd h2 h
      | cons c l => exact ⟨c, l, rfl⟩
    have := hI c0 l0 hc0
    rw [hc0]
    refine ⟨fun c l h1 h2 => h1, fun l h1 => ?_, fun h1 => by cases h1⟩
    have h3 := (List.cons.inj h1).1
    rw [this] at h3
    exact absurd h3 (by decide)
end Go.Proofs.YtgocloilagcfoabDoor.GM
