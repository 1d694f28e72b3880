/- Plain texts: the text of a number is plain and its value is the number; a plain text is the text of its value. -/
import Derived.Test.YtgocloilagcfoabDoorR11
namespace Go.Proofs.YtgocloilagcfoabDoor
open Go.RowKit

theorem cut_point (D E : List UInt8) (h : (46 : UInt8) ∉ D) : cutL (D ++ 46 :: E) = (D, E, true) := by
  have hm : (46 : UInt8) ∈ D ++ 46 :: E := by simp
  have hp : ∀ a ∈ D, (a != (46 : UInt8)) = true := fun a ha => by
    simp only [bne_iff_ne, ne_eq]
    intro e; exact h (e ▸ ha)
  have hb : before (D ++ 46 :: E) = D := by
    unfold before
    rw [List.takeWhile_append_of_pos hp, List.takeWhile_cons]
    simp
  have hc : behind (D ++ 46 :: E) = E := by
    unfold behind
    rw [List.dropWhile_append_of_pos hp, List.dropWhile_cons]
    simp
  unfold cutL
  rw [if_pos hm, hb, hc]
theorem cut_plain (D : List UInt8) (h : (46 : UInt8) ∉ D) : cutL D = (D, [], false) := if_neg h

theorem ints_dig (n : Nat) : ∀ x, ∀ c ∈ GM.ints n x, c = 48 ∨ c = 49 := by
  induction n with
  | zero => intro x c hc; cases hc
  | succ n ih =>
    intro x c hc
    rw [GM.ints] at hc
    rcases List.mem_cons.1 hc with h | h
    · rw [h]; split
      · exact .inr rfl
      · exact .inl rfl
    · exact ih _ c h
theorem frac_dig (n : Nat) : ∀ x, ∀ c ∈ GM.frac n x, c = 48 ∨ c = 49 := by
  induction n with
  | zero => intro x c hc; cases hc
  | succ n ih =>
    intro x c hc
    rw [GM.frac] at hc
    split at hc
    · cases hc
    · rcases List.mem_cons.1 hc with h | h
      · rw [h]; split
        · exact .inr rfl
        · exact .inl rfl
      · exact ih _ c h
theorem head_dig (x : GM.G) : ∀ c ∈ GM.head x, c = 48 ∨ c = 49 := by
  intro c hc
  unfold GM.head at hc
  split at hc
  · exact .inl (by simpa using hc)
  · exact ints_dig 40 x c ((List.dropWhile_sublist _).subset hc)
theorem dig_is {c : UInt8} (h : c = 48 ∨ c = 49) : isDig c = true := by rcases h with rfl | rfl <;> rfl
theorem no_point {l : List UInt8} (h : ∀ c ∈ l, c = 48 ∨ c = 49) : (46 : UInt8) ∉ l := fun hm => by rcases h 46 hm with h1 | h1 <;> cases h1
theorem frac_zero (n : Nat) : GM.frac n (0, 0) = [] := by cases n <;> simp [GM.frac]

theorem cut_text (x : GM.G) : cutL (GM.textOf x) = (GM.head x, GM.frac 40 (GM.rest 40 x), !decide (GM.rest 40 x = (0, 0))) := by
  rw [GM.textOf_eq]
  unfold GM.tail
  have hh := no_point (head_dig x)
  by_cases h : GM.rest 40 x = (0, 0)
  · rw [if_pos h, List.append_nil, cut_plain _ hh, h, frac_zero]; simp
  · rw [if_neg h, cut_point _ _ hh]; simp [h]
theorem text_ok (x : GM.G) : textOK (GM.textOf x) = true := by
  unfold textOK
  rw [cut_text]
  dsimp only
  obtain ⟨h1, h2⟩ := GM.head_length x
  rw [partOK_of _ h1 h2 (fun c hc => dig_is (head_dig x c hc)), Bool.true_and]
  by_cases h : GM.rest 40 x = (0, 0)
  · simp [h]
  · have h3 : 1 ≤ (GM.frac 40 (GM.rest 40 x)).length := by
      rw [show (40 : Nat) = 39 + 1 from rfl, GM.frac, if_neg h]; simp
    rw [partOK_of _ h3 (GM.frac_length 40 _) (fun c hc => dig_is (frac_dig 40 _ c hc))]
    simp
theorem digits_text (x : GM.G) : digitsOf (GM.textOf x) = GM.head x ++ GM.frac 40 (GM.rest 40 x) := by
  unfold digitsOf
  rw [cut_text]
  dsimp only
  by_cases h : GM.rest 40 x = (0, 0)
  · rw [h, frac_zero]; simp
  · simp [h]
theorem val_digits (l : List UInt8) : valOf l = GM.vl ((cutL l).1.length + 40) (digitsOf l) := rfl
theorem val_text (x : GM.G) (hx : GM.Num x) (h : 0 ≤ GM.sg x) : valOf (GM.textOf x) = x := by
  rw [val_digits, digits_text, cut_text]
  exact GM.vl_text x hx h

theorem plainD_zeros (l E : List UInt8) : GM.plainD 48 (l.dropWhile (· == 48) ++ E) = GM.plainD 48 (l ++ E) := by
  induction l with
  | nil => rfl
  | cons c l ih =>
    rw [List.dropWhile_cons]
    by_cases h : (c == 48) = true
    · rw [if_pos h]
      have hc : c = 48 := by simpa using h
      rw [hc, List.cons_append, ih]
      simp [GM.plainD]
    · rw [if_neg h]
theorem plainD_head (x : GM.G) (E : List UInt8) : GM.plainD 48 (GM.head x ++ E) = GM.plainD 48 (GM.ints 40 x ++ E) := by
  have h := plainD_zeros (GM.ints 40 x) E
  unfold GM.head
  by_cases e : (GM.ints 40 x).dropWhile (· == 48) = []
  · rw [if_pos e, ← h, e]; simp [GM.plainD]
  · rw [if_neg e, h]
theorem num_lt80 (x : GM.G) (hx : GM.Num x) : GM.Lt x (GM.pt 80) := by
  have := GM.big_lt x.1 x.2 hx.1 hx.2.1 hx.2.2.1 hx.2.2.2
  unfold GM.Lt
  rw [GM.sg_sub_comm x]
  unfold GM.sg GM.sub
  rw [GM.pt80]
  dsimp only
  rw [this]; decide
theorem text_plainD (x : GM.G) (hx : GM.Num x) (h : 0 ≤ GM.sg x) : GM.plainD 48 (GM.head x ++ GM.frac 40 (GM.rest 40 x)) = true := by
  rw [plainD_head]
  exact (GM.all_plain 40 x h).1 (num_lt80 x hx)
theorem frac_last (n : Nat) : ∀ x, x ≠ ((0, 0) : GM.G) → GM.lefts n n x = (0, 0) → (GM.frac n x).getLast? = some 49 := by
  induction n with
  | zero => intro x hx hl; exact absurd hl hx
  | succ n ih =>
    intro x hx hl
    rw [GM.frac, if_neg hx]
    rw [GM.lefts, Nat.add_sub_cancel] at hl
    by_cases hz : GM.nxx n x = (0, 0)
    · rw [hz, frac_zero]
      by_cases hd : GM.dgx n x = true
      · rw [if_pos hd]; rfl
      · rw [GM.nxx_none n x (by simpa using hd)] at hz
        exact absurd hz hx
    · rw [List.getLast?_cons, ih _ hz hl]; rfl
theorem head_first (x : GM.G) : (GM.head x)[0]? ≠ some 48 ∨ (GM.head x).length = 1 := by
  unfold GM.head
  by_cases e : (GM.ints 40 x).dropWhile (· == 48) = []
  · rw [if_pos e]; exact .inr rfl
  · rw [if_neg e]
    left
    intro h
    have h1 := List.head?_dropWhile_not (· == (48 : UInt8)) (GM.ints 40 x)
    rw [List.head?_eq_getElem?, h] at h1
    simp at h1
theorem text_plain (x : GM.G) (hx : GM.Num x) (h : 0 ≤ GM.sg x) : plainL (GM.textOf x) = true := by
  unfold plainL
  rw [text_ok, digits_text, text_plainD x hx h, cut_text]
  dsimp only
  simp only [Bool.true_and, Bool.and_eq_true, Bool.or_eq_true, Bool.not_eq_true', decide_eq_true_eq, beq_eq_false_iff_ne]
  have hl := (GM.head_length x).1
  constructor
  · rw [GM.textOf_eq, List.getElem?_append_left hl]
    exact head_first x
  · rw [GM.textOf_eq]
    unfold GM.tail
    by_cases hr : GM.rest 40 x = (0, 0)
    · rw [if_pos hr]; left; simp
    · rw [if_neg hr]
      right
      rw [← List.getLast?_eq_getElem?, List.getLast?_append, List.getLast?_cons, frac_last 40 _ hr (GM.text_ends x hx h)]
      simp

theorem ints_pad (n : Nat) (x : GM.G) (h : GM.Lt x (GM.pt (n + 40))) : ∀ k, GM.ints (k + n) x = List.replicate k 48 ++ GM.ints n x ∧ GM.rest (k + n) x = GM.rest n x := by
  intro k
  induction k with
  | zero => simp
  | succ k ih =>
    have hd : GM.dgx (k + n + 40) x = false := by
      rw [GM.dgx_false_iff]; exact h.trans_le (GM.pt_mono (by omega))
    rw [show k + 1 + n = (k + n) + 1 by omega, GM.ints, GM.rest, hd, GM.nxx_none _ _ hd, ih.1, ih.2]
    exact ⟨rfl, rfl⟩
theorem plainD_tail (D E : List UInt8) : ∀ q, GM.plainD q (D ++ E) = true → ∃ q', GM.plainD q' E = true := by
  induction D with
  | nil => intro q h; exact ⟨q, h⟩
  | cons c D ih =>
    intro q h
    simp only [List.cons_append, GM.plainD, Bool.and_eq_true] at h
    exact ih c h.2
theorem plain_join (D E : List UInt8) (hD1 : 1 ≤ D.length) (hD2 : D.length ≤ 40) (hE : E.length ≤ 40) (hd : ∀ d ∈ D ++ E, 48 ≤ d) (hp : GM.plainD 48 (D ++ E) = true)
    (h1 : D[0]? ≠ some 48 ∨ D.length = 1) (h2 : E ≠ [] → E.getLastD 0 ≠ 48) : GM.textOf (GM.vl (D.length + 40) (D ++ E)) = D ++ (if E = [] then [] else 46 :: E) := by
  have b := GM.vl_bounds (D ++ E) (D.length + 40) 48 (by simp; omega) hd hp
  obtain ⟨i1, i2⟩ := GM.ints_vl D E hE 48 hd hp
  generalize GM.vl (D.length + 40) (D ++ E) = v at *
  obtain ⟨p1, p2⟩ := ints_pad D.length v b.2.1 (40 - D.length)
  rw [show 40 - D.length + D.length = 40 by omega, i1] at p1
  rw [show 40 - D.length + D.length = 40 by omega, i2] at p2
  have hh : GM.head v = D := by
    unfold GM.head
    rw [p1, List.dropWhile_append_of_pos (by intro a ha; rw [List.eq_of_mem_replicate ha]; rfl)]
    cases D with
    | nil => simp at hD1
    | cons c D =>
      rw [List.dropWhile_cons]
      by_cases hc : (c == 48) = true
      · have hc' : c = 48 := by simpa using hc
        subst hc'
        have hl : D = [] := by
          rcases h1 with h | h
          · exact absurd rfl h
          · exact List.length_eq_zero_iff.1 (by simpa using h)
        subst hl
        rfl
      · rw [if_neg hc, if_neg (by simp)]
  have ht : GM.tail (GM.vl 40 E) = (if E = [] then [] else 46 :: E) := by
   unfold GM.tail
   by_cases hE0 : E = []
   · subst hE0; rfl
   · obtain ⟨q, hq⟩ := plainD_tail D E 48 hp
     have hd' : ∀ d ∈ E, 48 ≤ d := fun d h => hd d (List.mem_append_right _ h)
     rw [if_neg hE0, if_neg (GM.vl_ne_zero E 40 q hE hd' hq hE0 (h2 hE0)), GM.frac_vl E 40 q hE hd' hq h2]
  rw [GM.textOf_eq, hh, p2, ht]
theorem dig_le {c : UInt8} (h : 48 ≤ c.toNat) : 48 ≤ c := by rw [UInt8.le_iff_toNat_le]; exact h
theorem text_of_plain (t : List UInt8) (h : plainL t = true) : GM.textOf (valOf t) = t := by
  unfold plainL at h
  simp only [Bool.and_eq_true, Bool.or_eq_true, Bool.not_eq_true', decide_eq_true_eq, beq_eq_false_iff_ne] at h
  obtain ⟨ht, hp, h1, h2⟩ := h
  rw [val_digits]
  have hok := ht
  unfold textOK at hok
  simp only [Bool.and_eq_true] at hok
  obtain ⟨o1, o2⟩ := hok
  obtain ⟨a1, a2, a3⟩ := partOK_len1 o1
  by_cases hm : (46 : UInt8) ∈ t
  · have hcut : cutL t = (before t, behind t, true) := if_pos hm
    have e := split46 t hm
    have hdo : digitsOf t = before t ++ behind t := by unfold digitsOf; rw [hcut]; rfl
    rw [hcut] at h1 h2 o2 a1 a2 a3 ⊢
    rw [hdo] at hp ⊢
    dsimp only at h1 h2 o2 a1 a2 a3 ⊢
    obtain ⟨b1, b2, b3⟩ := partOK_len1 (l := behind t) (by simpa using o2)
    generalize before t = D at *
    generalize behind t = E at *
    have hne : E ≠ [] := fun h => by rw [h] at b1; simp at b1
    have := plain_join D E a1 a2 b2 (fun d hd => by
      rcases List.mem_append.1 hd with hd | hd
      · exact dig_le (a3 d hd).1
      · exact dig_le (b3 d hd).1) hp (by
        rw [e, List.getElem?_append_left a1] at h1
        exact h1) (fun _ hh => by
        rcases h2 with h2 | h2
        · rw [e] at h2; simp at h2
        · apply h2
          rw [e, ← List.getLast?_eq_getElem?, List.getLast?_append, List.getLast?_cons]
          cases hE : E.getLast? with
          | none => rw [List.getLast?_eq_none_iff] at hE; exact absurd hE hne
          | some y =>
            rw [List.getLastD_eq_getLast?, hE] at hh
            simp at hh
            rw [hh]; rfl)
    rw [this, if_neg hne, ← e]
  · have hcut : cutL t = (t, [], false) := if_neg hm
    have hdo : digitsOf t = t := by unfold digitsOf; rw [hcut]; simp
    rw [hcut] at h1 a1 a2 a3 ⊢
    rw [hdo] at hp ⊢
    dsimp only at h1 a1 a2 a3 ⊢
    have := plain_join t [] a1 a2 (by simp) (fun d hd => dig_le (a3 d (by simpa using hd)).1) (by rw [List.append_nil]; exact hp) h1 (fun hh => absurd rfl hh)
    rw [List.append_nil, if_pos rfl, List.append_nil] at this
    exact this

/-- the number lies between the powers that its digits before the point tell -/
theorem text_between (x : GM.G) (hx : GM.Num x) (h : 0 ≤ GM.sg x) : GM.Lt x (GM.pt ((GM.head x).length + 40)) ∧ ((GM.textOf x)[0]? = some 48 → GM.Lt x (1, 0)) ∧ ((GM.textOf x)[0]? ≠ some 48 → GM.Le (GM.pt ((GM.head x).length + 39)) x) := by
  have hv := GM.vl_text x hx h
  have hp := text_plainD x hx h
  have hd : ∀ d ∈ GM.head x ++ GM.frac 40 (GM.rest 40 x), 48 ≤ d := by
    intro d hm
    have : d = 48 ∨ d = 49 := by
      rcases List.mem_append.1 hm with hm | hm
      · exact head_dig x d hm
      · exact frac_dig 40 _ d hm
    rcases this with rfl | rfl <;> decide
  have hf := GM.frac_length 40 (GM.rest 40 x)
  have hl := (GM.head_length x).1
  have hfi := head_first x
  have hdg := head_dig x
  rw [GM.textOf_eq, List.getElem?_append_left hl]
  generalize GM.frac 40 (GM.rest 40 x) = E at *
  generalize GM.head x = D at *
  have b := GM.vl_bounds (D ++ E) (D.length + 40) 48 (by simp; omega) hd hp
  rw [hv] at b
  refine ⟨b.2.1, ?_, ?_⟩
  · intro h0
    have hl1 : D.length = 1 := by
      rcases hfi with h1 | h1
      · exact absurd h0 h1
      · exact h1
    obtain ⟨c, rfl⟩ : ∃ c, D = [c] := by
      cases D with
      | nil => simp at hl1
      | cons c D => exact ⟨c, by simp at hl1; rw [hl1]⟩
    have hc : c = 48 := by simpa using h0
    subst hc
    simp only [List.cons_append, List.nil_append] at hv hp hd
    rw [GM.vl_zero_cons] at hv
    have hp' : GM.plainD 48 E = true := by simpa [GM.plainD] using hp
    have b2 := GM.vl_bounds E 40 48 hf (fun d hm => hd d (List.mem_cons_of_mem _ hm)) hp'
    rw [show ([48] : List UInt8).length + 40 - 1 = 40 from rfl] at hv
    rw [hv] at b2
    exact b2.2.1
  · intro h0
    cases D with
    | nil => simp at hl
    | cons c D =>
      have hc : c = 49 := by
        rcases hdg c List.mem_cons_self with h1 | h1
        · exact absurd (by rw [h1]; rfl) h0
        · exact h1
      subst hc
      simp only [List.cons_append, List.length_cons] at hv hp hd ⊢
      have hp' : GM.plainD 49 (D ++ E) = true := by
        simp only [GM.plainD, Bool.and_eq_true] at hp
        exact hp.2
      have b2 := GM.vl_bounds (D ++ E) (D.length + 40) 49 (by simp; omega) (fun d hm => hd d (List.mem_cons_of_mem _ hm)) hp'
      have e : GM.vl (D.length + 1 + 40) (49 :: (D ++ E)) = GM.add (GM.pt (D.length + 40)) (GM.vl (D.length + 40) (D ++ E)) := by
        rw [GM.vl, show D.length + 1 + 40 - 1 = D.length + 40 by omega]
        simp only [show ((49 : UInt8).toNat : Int) - 48 = 1 from rfl, Int.one_mul]
      rw [e] at hv
      have := GM.add_le (GM.Le.refl (GM.pt (D.length + 40))) ((GM.zero_le_iff _).2 b2.1)
      rw [GM.add_zero, hv] at this
      rw [show D.length + 1 + 39 = D.length + 40 by omega]
      exact this
end Go.Proofs.YtgocloilagcfoabDoor
