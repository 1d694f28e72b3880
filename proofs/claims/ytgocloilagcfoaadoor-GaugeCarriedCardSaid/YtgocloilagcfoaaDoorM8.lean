/- The laws' own texts: they are texts of numbers; noughts in front and at the end, and carried digits, change no value. -/
import Derived.Test.YtgocloilagcfoaaDoorM7
import Derived.Test.YtgocloilagcfoaaDoorL5
namespace Go.Proofs.YtgocloilagcfoaaDoor
open Go.RowKit

/-- a text of few digits: before and behind the point -/
def Form (P Q t : List UInt8) : Prop := (1 ≤ P.length ∧ P.length ≤ 12) ∧ Q.length ≤ 23 ∧ (∀ c ∈ P ++ Q, 48 ≤ c.toNat ∧ c.toNat ≤ 51) ∧ t = P ++ (if Q = [] then [] else 46 :: Q)
theorem Form.nop {P Q t : List UInt8} (h : Form P Q t) : (46 : UInt8) ∉ P := fun hm => by
  have := (h.2.2.1 46 (List.mem_append_left _ hm)).1
  revert this; decide
theorem Form.nop2 {P Q t : List UInt8} (h : Form P Q t) : (46 : UInt8) ∉ Q := fun hm => by
  have := (h.2.2.1 46 (List.mem_append_right _ hm)).1
  revert this; decide
theorem Form.cut {P Q t : List UInt8} (h : Form P Q t) : cutL t = (P, Q, !decide (Q = [])) := by
  have hp := h.nop
  obtain ⟨h1, h2, h3, rfl⟩ := h
  by_cases hq : Q = []
  · subst hq
    rw [if_pos rfl, List.append_nil, cut_plain _ hp]; simp
  · rw [if_neg hq, cut_point _ _ hp]; simp [hq]
theorem isDig_of {c : UInt8} (h : 48 ≤ c.toNat ∧ c.toNat ≤ 51) : isDig c = true := by unfold isDig; simp; omega
theorem Form.ok {P Q t : List UInt8} (h : Form P Q t) : textOK t = true := by
  unfold textOK
  rw [h.cut]
  dsimp only
  obtain ⟨⟨a1, a2⟩, h2, h3, -⟩ := h
  rw [partOK_of _ a1 (by omega) (fun c hc => isDig_of (h3 c (List.mem_append_left _ hc))), Bool.true_and]
  by_cases hq : Q = []
  · simp [hq]
  · have : 1 ≤ Q.length := List.length_pos_iff.2 hq
    rw [partOK_of _ this (by omega) (fun c hc => isDig_of (h3 c (List.mem_append_right _ hc)))]
    simp
theorem Form.val {P Q t : List UInt8} (h : Form P Q t) : valOf t = GM.vl (P.length + 40) (P ++ Q) := by
  unfold valOf
  rw [h.cut]
  dsimp only
  by_cases hq : Q = []
  · simp [hq]
  · simp [hq]

def s1 : Nat → Int
  | 0 => 0
  | i + 1 => s1 i + ((GM.pt i).1.natAbs : Int)
def s2 : Nat → Int
  | 0 => 0
  | i + 1 => s2 i + ((GM.pt i).2.natAbs : Int)
theorem s_mono (i : Nat) : ∀ k, s1 i ≤ s1 (i + k) ∧ s2 i ≤ s2 (i + k) := by
  intro k
  induction k with
  | zero => simp
  | succ k ih =>
    have e1 : s1 (i + (k + 1)) = s1 (i + k) + ((GM.pt (i + k)).1.natAbs : Int) := rfl
    have e2 : s2 (i + (k + 1)) = s2 (i + k) + ((GM.pt (i + k)).2.natAbs : Int) := rfl
    rw [e1, e2]; omega
theorem dig_mul (d p : Int) (h0 : 0 ≤ d) (h3 : d ≤ 3) : -(3 * (p.natAbs : Int)) ≤ d * p ∧ d * p ≤ 3 * (p.natAbs : Int) := by
  have : d = 0 ∨ d = 1 ∨ d = 2 ∨ d = 3 := by omega
  rcases this with rfl | rfl | rfl | rfl <;> omega
theorem vl_s (l : List UInt8) : ∀ i, l.length ≤ i → (∀ c ∈ l, 48 ≤ c.toNat ∧ c.toNat ≤ 51) →
    (-(3 * (s1 i - s1 (i - l.length))) ≤ (GM.vl i l).1 ∧ (GM.vl i l).1 ≤ 3 * (s1 i - s1 (i - l.length))) ∧ -(3 * (s2 i - s2 (i - l.length))) ≤ (GM.vl i l).2 ∧ (GM.vl i l).2 ≤ 3 * (s2 i - s2 (i - l.length)) := by
  induction l with
  | nil => intro i _ _; simp [GM.vl]
  | cons c l ih =>
    intro i hi hd
    obtain ⟨j, rfl⟩ : ∃ j, i = j + 1 := ⟨i - 1, by simp at hi; omega⟩
    obtain ⟨⟨i1, i2⟩, i3, i4⟩ := ih j (by simpa using hi) (fun d h => hd d (List.mem_cons_of_mem _ h))
    obtain ⟨c1, c2⟩ := hd c List.mem_cons_self
    obtain ⟨m1, m2⟩ := dig_mul ((c.toNat : Int) - 48) (GM.pt j).1 (by omega) (by omega)
    obtain ⟨m3, m4⟩ := dig_mul ((c.toNat : Int) - 48) (GM.pt j).2 (by omega) (by omega)
    have e1 : s1 (j + 1) = s1 j + ((GM.pt j).1.natAbs : Int) := rfl
    have e2 : s2 (j + 1) = s2 j + ((GM.pt j).2.natAbs : Int) := rfl
    have ev : GM.vl (j + 1) (c :: l) = GM.add (((c.toNat : Int) - 48) * (GM.pt j).1, ((c.toNat : Int) - 48) * (GM.pt j).2) (GM.vl j l) := rfl
    rw [ev, e1, e2, List.length_cons, Nat.add_sub_add_right]
    unfold GM.add
    dsimp only
    omega
theorem s_top : 3 * (s1 52 - s1 17) ≤ 400000 ∧ 3 * (s2 52 - s2 17) ≤ 400000 := by decide +kernel
theorem Form.bd {P Q t : List UInt8} (h : Form P Q t) : -400000 ≤ (valOf t).1 ∧ (valOf t).1 ≤ 400000 ∧ -400000 ≤ (valOf t).2 ∧ (valOf t).2 ≤ 400000 := by
  rw [h.val]
  obtain ⟨⟨a1, a2⟩, h2, h3, -⟩ := h
  have hb := vl_s (P ++ Q) (P.length + 40) (by simp; omega) h3
  rw [List.length_append, show P.length + 40 - (P.length + Q.length) = 40 - Q.length by omega] at hb
  have m1 := s_mono (P.length + 40) (12 - P.length)
  rw [show P.length + 40 + (12 - P.length) = 52 by omega] at m1
  have m2 := s_mono 17 (23 - Q.length)
  rw [show 17 + (23 - Q.length) = 40 - Q.length by omega] at m2
  have := s_top
  omega
theorem Form.isN {P Q t : List UInt8} (h : Form P Q t) : isN (valOf t).1 (valOf t).2 = true := by
  have := h.bd
  exact (isN_iff _ _).2 ⟨by omega, by omega, by omega, by omega⟩
theorem Form.len {P Q t : List UInt8} (h : Form P Q t) : 1 ≤ t.length ∧ t.length ≤ 36 := by
  obtain ⟨⟨a1, a2⟩, h2, h3, rfl⟩ := h
  by_cases hq : Q = []
  · rw [if_pos hq]; simp; omega
  · rw [if_neg hq]; simp; omega

/-- the laws' texts have the form -/
theorem pieces_past (A m : Nat) (l : List UInt8) : ∀ j, A < j → pieces A m j l = l.map (dch m) := by
  induction l with
  | nil => intro j _; rfl
  | cons c l ih =>
    intro j hj
    rw [pieces, ih (j + 1) (by omega), piece, if_neg (by omega)]; rfl
theorem pieces_form (A m : Nat) (l : List UInt8) : ∀ j, j ≤ A → pieces A m j l = (l.map (dch m)).take (A - j) ++ (if l.length ≤ A - j then [] else 46 :: (l.map (dch m)).drop (A - j)) := by
  induction l with
  | nil => intro j _; simp [pieces]
  | cons c l ih =>
    intro j hj
    rw [pieces]
    by_cases h : j = A
    · rw [piece, if_pos h, pieces_past A m l (j + 1) (by omega), h]
      simp [dch]
    · rw [piece, if_neg h, ih (j + 1) (by omega), show A - j = (A - (j + 1)) + 1 by omega]
      simp [dch]
theorem dch_bd (m : Nat) (hm : m = 2 ∨ m = 4) (c : UInt8) : 48 ≤ (dch m c).toNat ∧ (dch m c).toNat ≤ 51 := by
  unfold dch
  have h : c.toNat % m < m := Nat.mod_lt _ (by omega)
  rw [UInt8.toNat_ofNat']
  rw [Nat.mod_eq_of_lt (by omega)]
  omega
theorem txt_form (A m : Nat) (hm : m = 2 ∨ m = 4) (h1 : 1 ≤ A) (h2 : A ≤ 12) (l : List UInt8) : ∃ P Q, Form P Q (txt A m l) ∧ P.length ≤ A ∧ (Q = [] ∨ Q.length + A ≤ 24) := by
  unfold txt
  by_cases hl : l = []
  · rw [if_pos hl]
    refine ⟨[48], [], ⟨by simp, by simp, ?_, rfl⟩, by simpa using h1, .inl rfl⟩
    intro c hc
    have : c = 48 := by simpa using hc
    subst this; decide
  · rw [if_neg hl, pieces_form A m _ 0 (by omega), Nat.sub_zero]
    have hlen : 1 ≤ (l.take 24).length := by
      rw [List.length_take]
      have := List.length_pos_iff.2 hl
      omega
    have hle : (l.take 24).length ≤ 24 := by rw [List.length_take]; omega
    generalize l.take 24 = k at *
    have hd : ∀ c ∈ k.map (dch m), 48 ≤ c.toNat ∧ c.toNat ≤ 51 := by
      intro c hc
      obtain ⟨d, -, rfl⟩ := List.mem_map.1 hc
      exact dch_bd m hm d
    refine ⟨(k.map (dch m)).take A, (k.map (dch m)).drop A, ⟨?_, ?_, ?_, ?_⟩, ?_, ?_⟩
    · simp only [List.length_take, List.length_map]; omega
    · simp only [List.length_drop, List.length_map]; omega
    · rw [List.take_append_drop]; exact hd
    · congr 1
      by_cases h : k.length ≤ A
      · rw [if_pos h, if_pos (List.drop_eq_nil_of_le (by simpa using h))]
      · rw [if_neg h, if_neg (by
          intro e
          have := congrArg List.length e
          simp at this
          omega)]
    · simp only [List.length_take, List.length_map]; omega
    · by_cases h : k.length ≤ A
      · left; exact List.drop_eq_nil_of_le (by simpa using h)
      · right; simp only [List.length_drop, List.length_map]; omega

/-- noughts in front and behind change no value -/
theorem count_append (l : List UInt8) (c : UInt8) : (l ++ [c]).count 46 = l.count 46 + (if c = 46 then 1 else 0) := by
  rw [List.count_append, List.count_singleton]
  by_cases h : c = 46 <;> simp [h]
theorem Form.count {P Q t : List UInt8} (h : Form P Q t) : t.count 46 = if Q = [] then 0 else 1 := by
  have h1 := List.count_eq_zero.2 h.nop
  have h2 := List.count_eq_zero.2 h.nop2
  obtain ⟨-, -, -, rfl⟩ := h
  by_cases hq : Q = []
  · rw [if_pos hq, if_pos hq, List.append_nil, h1]
  · rw [if_neg hq, if_neg hq, List.count_append, h1, List.count_cons, h2]; simp
theorem Form.wide {P Q t : List UInt8} (h : Form P Q t) (hw : P.length ≤ 12) : textOK (48 :: t ++ List.replicate (t.count 46) 48) = true ∧ valOf (48 :: t ++ List.replicate (t.count 46) 48) = valOf t := by
  have hc := h.count
  have hv := h.val
  have hn1 := h.nop
  have hn2 := h.nop2
  obtain ⟨⟨a1, a2⟩, h2, h3, ht⟩ := h
  have hd48 : ∀ c, c = (48 : UInt8) → isDig c = true := fun c h => by rw [h]; rfl
  have hP : partOK (48 :: P) = true := partOK_of _ (by simp) (by simp; omega) (fun c hc => by
    rcases List.mem_cons.1 hc with h | h
    · exact hd48 c h
    · exact isDig_of (h3 c (List.mem_append_left _ h)))
  have hn48 : (46 : UInt8) ∉ 48 :: P := fun hm => by
    rcases List.mem_cons.1 hm with h | h
    · cases h
    · exact hn1 h
  by_cases hq : Q = []
  · subst hq
    rw [if_pos rfl] at hc ht
    rw [hc, List.replicate_zero, List.append_nil]
    rw [List.append_nil] at ht
    subst ht
    have hcut : cutL (48 :: t) = (48 :: t, [], false) := cut_plain _ hn48
    constructor
    · unfold textOK; rw [hcut]; dsimp only; rw [hP]; rfl
    · rw [hv]
      unfold valOf
      rw [hcut]
      dsimp only
      rw [if_neg (by simp), List.append_nil, List.append_nil, GM.vl_zero_cons]
      rfl
  · rw [if_neg hq] at hc ht
    rw [hc, List.replicate_one, ht]
    have e : 48 :: (P ++ 46 :: Q) ++ [48] = (48 :: P) ++ 46 :: (Q ++ [48]) := by simp
    rw [e]
    have hcut : cutL ((48 :: P) ++ 46 :: (Q ++ [48])) = (48 :: P, Q ++ [48], true) := cut_point _ _ hn48
    rw [← ht]
    constructor
    · unfold textOK; rw [hcut]; dsimp only
      rw [hP, partOK_of (Q ++ [48]) (by simp) (by simp; omega) (fun c hc => by
        rcases List.mem_append.1 hc with h | h
        · exact isDig_of (h3 c (List.mem_append_right _ h))
        · exact hd48 c (by simpa using h))]
      rfl
    · rw [hv]
      unfold valOf
      rw [hcut]
      dsimp only
      rw [if_pos rfl, List.cons_append, GM.vl_zero_cons, ← List.append_assoc, GM.vl_append (P ++ Q) [48], GM.vl_zero_cons]
      have : (GM.vl ((48 :: P).length + 40 - 1 - (P ++ Q).length - 1) [] : GM.G) = (0, 0) := rfl
      rw [this, GM.add_zero]
      rfl

/-- carried digits change no value -/
theorem vl_mid (i : Nat) (X I J Y : List UInt8) (hIJ : I.length = J.length) (h : GM.vl (i - X.length) I = GM.vl (i - X.length) J) : GM.vl i (X ++ (I ++ Y)) = GM.vl i (X ++ (J ++ Y)) := by
  rw [GM.vl_append X, GM.vl_append X, GM.vl_append I, GM.vl_append J, h, hIJ]
theorem carry1 (j : Nat) : GM.vl (j + 3) [48, 49, 49] = GM.vl (j + 3) [49, 48, 48] := by
  have h := GM.pt_add j
  unfold GM.add at h
  have e1 : GM.vl (j + 3) [48, 49, 49] = GM.add (GM.pt (j + 1)) (GM.pt j) := by
    simp [GM.vl, GM.add]
  have e2 : GM.vl (j + 3) [49, 48, 48] = GM.pt (j + 2) := by
    simp [GM.vl, GM.add]
  rw [e1, e2, h]
  unfold GM.add
  ext <;> dsimp only <;> omega
theorem carry2 (j : Nat) : GM.vl (j + 4) [48, 50, 48, 48] = GM.vl (j + 4) [49, 48, 48, 49] := by
  have h := GM.pt_add j
  have h' := GM.pt_add (j + 1)
  unfold GM.add at h h'
  have e1 : GM.vl (j + 4) [48, 50, 48, 48] = (2 * (GM.pt (j + 2)).1, 2 * (GM.pt (j + 2)).2) := by
    simp [GM.vl, GM.add]
  have e2 : GM.vl (j + 4) [49, 48, 48, 49] = GM.add (GM.pt (j + 3)) (GM.pt j) := by
    simp [GM.vl, GM.add]
  rw [e1, e2, show j + 3 = j + 1 + 2 by omega, h']
  have h1 := congrArg Prod.fst h
  have h2 := congrArg Prod.snd h
  dsimp only at h1 h2
  rw [show j + 1 + 1 = j + 2 by omega]
  unfold GM.add
  ext <;> dsimp only <;> omega
/-- digits put in at a place of a text -/
theorem Form.put {P Q t : List UInt8} (h : Form P Q t) (hP : P.length ≤ 8) (hQ : Q.length ≤ 19) (k : Nat) (hk : k ≤ t.length) (I J : List UInt8) (hI : I.length ≤ 4) (hIJ : I.length = J.length)
    (dI : ∀ c ∈ I, 48 ≤ c.toNat ∧ c.toNat ≤ 51) (dJ : ∀ c ∈ J, 48 ≤ c.toNat ∧ c.toNat ≤ 51) (hv : ∀ j, GM.vl (j + I.length) I = GM.vl (j + I.length) J) :
    ∃ P1 Q1 P2 Q2, Form P1 Q1 (t.take k ++ I ++ t.drop k) ∧ Form P2 Q2 (t.take k ++ J ++ t.drop k) ∧ valOf (t.take k ++ I ++ t.drop k) = valOf (t.take k ++ J ++ t.drop k) := by
  obtain ⟨⟨a1, a2⟩, h2, h3, ht⟩ := h
  have mem : ∀ (X Y Z : List UInt8), (∀ c ∈ X ++ Z, 48 ≤ c.toNat ∧ c.toNat ≤ 51) → (∀ c ∈ Y, 48 ≤ c.toNat ∧ c.toNat ≤ 51) → ∀ c ∈ X ++ (Y ++ Z), 48 ≤ c.toNat ∧ c.toNat ≤ 51 := by
    intro X Y Z hXZ hY c hc
    rcases List.mem_append.1 hc with h | h
    · exact hXZ c (List.mem_append_left _ h)
    · rcases List.mem_append.1 h with h | h
      · exact hY c h
      · exact hXZ c (List.mem_append_right _ h)
  by_cases hkP : k ≤ P.length
  · have e : ∀ Z : List UInt8, t.take k ++ Z ++ t.drop k = (P.take k ++ Z ++ P.drop k) ++ (if Q = [] then [] else 46 :: Q) := by
      intro Z
      rw [ht, List.take_append_of_le_length hkP, List.drop_append_of_le_length hkP]
      simp
    have f : ∀ Z : List UInt8, Z.length ≤ 4 → (∀ c ∈ Z, 48 ≤ c.toNat ∧ c.toNat ≤ 51) → Form (P.take k ++ Z ++ P.drop k) Q (t.take k ++ Z ++ t.drop k) := by
      intro Z hZ dZ
      refine ⟨?_, h2, ?_, e Z⟩
      · simp only [List.length_append, List.length_take, List.length_drop]; omega
      · rw [List.append_assoc, List.append_assoc]
        refine mem _ Z _ ?_ dZ
        rw [← List.append_assoc, List.take_append_drop]
        exact h3
    have fI := f I hI dI
    have fJ := f J (by omega) dJ
    refine ⟨_, _, _, _, fI, fJ, ?_⟩
    rw [fI.val, fJ.val]
    have el : (P.take k ++ I ++ P.drop k).length = (P.take k ++ J ++ P.drop k).length := by simp [hIJ]
    rw [el]
    have g := hv ((P.take k ++ J ++ P.drop k).length + 40 - (P.take k).length - I.length)
    rw [Nat.sub_add_cancel (by simp only [List.length_append]; omega)] at g
    have := vl_mid ((P.take k ++ J ++ P.drop k).length + 40) (P.take k) I J (P.drop k ++ Q) hIJ g
    simpa using this
  · have hq : Q ≠ [] := by
      intro hq
      rw [hq, if_pos rfl, List.append_nil] at ht
      rw [ht] at hk
      omega
    rw [if_neg hq] at ht
    obtain ⟨d, hd⟩ : ∃ d, k = P.length + (d + 1) := ⟨k - P.length - 1, by omega⟩
    have hdQ : d ≤ Q.length := by
      rw [ht] at hk
      simp at hk
      omega
    have e : ∀ Z : List UInt8, t.take k ++ Z ++ t.drop k = P ++ 46 :: (Q.take d ++ Z ++ Q.drop d) := by
      intro Z
      rw [ht, hd, List.take_length_add_append, List.drop_length_add_append]
      simp
    have f : ∀ Z : List UInt8, 1 ≤ Q.length → Z.length ≤ 4 → (∀ c ∈ Z, 48 ≤ c.toNat ∧ c.toNat ≤ 51) → Form P (Q.take d ++ Z ++ Q.drop d) (t.take k ++ Z ++ t.drop k) := by
      intro Z hq1 hZ dZ
      have hl : (Q.take d ++ Z ++ Q.drop d).length = Q.length + Z.length := by
        simp only [List.length_append, List.length_take, List.length_drop]; omega
      refine ⟨⟨a1, a2⟩, ?_, ?_, ?_⟩
      · omega
      · rw [List.append_assoc, ← List.append_assoc]
        refine mem _ Z _ ?_ dZ
        rw [List.append_assoc, List.take_append_drop]
        exact h3
      · rw [if_neg (by intro e; rw [e] at hl; simp at hl; omega)]
        exact e Z
    have hq1 : 1 ≤ Q.length := List.length_pos_iff.2 hq
    have fI := f I hq1 hI dI
    have fJ := f J hq1 (by omega) dJ
    refine ⟨_, _, _, _, fI, fJ, ?_⟩
    rw [fI.val, fJ.val]
    have g := hv (P.length + 40 - (P ++ Q.take d).length - I.length)
    rw [Nat.sub_add_cancel (by simp only [List.length_append, List.length_take]; omega)] at g
    have := vl_mid (P.length + 40) (P ++ Q.take d) I J (Q.drop d) hIJ g
    simpa using this
end Go.Proofs.YtgocloilagcfoaaDoor
