/- Shapes of different orders that are alike are of the same set. -/
import Derived.Test.YtpnfmbeccjehiaaDoorZ1
namespace Go.Proofs.YtpnfmbeccjehiaaDoor
namespace RK
/-- what may follow a shape -/
def Fol (l : List UInt8) : Prop := ∀ c r, l = c :: r → c = 124 ∨ c = 41
theorem Fol.noD {l : List UInt8} (h : Fol l) : NoD l := fun c r e => by
 rcases h c r e with rfl | rfl <;> rfl
theorem fol_nil : Fol [] := fun c r e => by cases e
theorem fol_cons {c : UInt8} (h : c = 124 ∨ c = 41) (l : List UInt8) : Fol (c :: l) := fun d r e => by
 obtain ⟨rfl, -⟩ := List.cons.inj e
 exact h
/-- the smallest and the greatest place at the beginning of a shape -/
theorem head_eq {a b a' b' : Nat} {X X' : List UInt8} (ha : a < 256) (hb : b < 256) (ha' : a' < 256) (hb' : b' < 256) (hX : NoD X) (hX' : NoD X') (h : dec a' ++ 58 :: (dec b' ++ X') = dec a ++ 58 :: (dec b ++ X)) : a' = a ∧ b' = b ∧ X' = X := by
 have h1 := two_dec ha hb hX
 have h2 := two_dec ha' hb' hX'
 rw [h, h1] at h2
 simp only [Option.some.injEq, Prod.mk.injEq] at h2
 exact ⟨h2.1.symm, h2.2.1.symm, h2.2.2.symm⟩
theorem num_eq {a a' : Nat} {X X' : List UInt8} (ha : a < 256) (ha' : a' < 256) (hX : NoD X) (hX' : NoD X') (h : dec a' ++ X' = dec a ++ X) : a' = a ∧ X' = X := by
 have h1 := numL_dec ha hX
 have h2 := numL_dec ha' hX'
 rw [h, h1] at h2
 simp only [Option.some.injEq, Prod.mk.injEq] at h2
 exact ⟨h2.1.symm, h2.2.symm⟩
theorem emp_ext {m n : S} (h : Emp m) (h' : Emp n) : m = n := by funext x; rw [h x, h' x]
/-- the spots, one behind the other -/
theorem spots_cross {o k : Nat} {m' m : S} {a : Nat} (ho : o + 1 ≤ 3) (hk : k + 1 ≤ 3)
  (ih : ∀ {n' n : S}, Supp o n' → Supp k n → ∀ r' r, Fol r' → Fol r → shT o n' ++ r' = shT k n ++ r → n' = n ∧ r' = r) (r' r : List UInt8) :
  ∀ (L : List Nat), (∀ s ∈ L, s < 256) → L.flatMap (fun s => 124 :: (dec s ++ 58 :: shT o (spot o m' a s))) ++ 41 :: r' = L.flatMap (fun s => 124 :: (dec s ++ 58 :: shT k (spot k m a s))) ++ 41 :: r → (∀ s ∈ L, spot o m' a s = spot k m a s) ∧ r' = r
 | [], _, h => by
  simp only [List.flatMap_nil, List.nil_append, List.cons.injEq, true_and] at h
  exact ⟨fun s hs => (by cases hs), h⟩
 | s :: L, hL, h => by
  have hfol : ∀ (f : Nat → List UInt8) (t : List UInt8), Fol (L.flatMap (fun s => 124 :: f s) ++ 41 :: t) := fun f t => by
   cases L with
   | nil => exact fol_cons (.inr rfl) _
   | cons u L => exact fol_cons (.inl rfl) _
  have hs := hL s (by simp)
  simp only [List.flatMap_cons, List.cons_append, List.append_assoc, List.cons.injEq, true_and] at h
  obtain ⟨-, h1⟩ := num_eq hs hs (noD_cons (by decide) _) (noD_cons (by decide) _) h
  simp only [List.cons.injEq, true_and] at h1
  obtain ⟨h2, h3⟩ := ih (spot_supp o m' a s) (spot_supp k m a s) _ _ (hfol _ _) (hfol _ _) h1
  obtain ⟨h4, h5⟩ := spots_cross ho hk ih r' r L (fun u hu => hL u (by simp [hu])) h3
  refine ⟨fun u hu => ?_, h5⟩
  rcases List.mem_cons.1 hu with rfl | hu
  ·
   exact h2
  ·
   exact h4 u hu
theorem shT_cross : ∀ (o k : Nat), o ≤ 3 → k ≤ 3 → ∀ {m' m : S}, Supp o m' → Supp k m → ∀ r' r, Fol r' → Fol r → shT o m' ++ r' = shT k m ++ r → m' = m ∧ r' = r := by
 intro o
 induction o with
 | zero =>
  intro k ho hk m' m hs' hs r' r hr' hr h
  rcases ends_or hs' with ⟨he', -, -⟩ | ⟨a', b', ha', hb', -, -⟩ <;> rcases ends_or hs with ⟨he, -, -⟩ | ⟨a, b, ha, hb, -, -⟩
  ·
   rw [shT_emp hs' he', shT_emp hs he] at h
   exact ⟨emp_ext he' he, by simpa using h⟩
  ·
   exfalso
   obtain ⟨u, l, hu, e⟩ := shT_dec hs (fun hx => by have := ha.1; rw [hx a] at this; cases this)
   have hu2 := R_le hk
   obtain ⟨c, t, e2, hd⟩ := dec_first (a := u) (by omega) (58 :: l ++ r)
   rw [shT_emp hs' he', e, List.append_assoc, e2] at h
   simp only [List.cons_append, List.cons.injEq] at h
   rw [← h.1] at hd; exact absurd hd (by decide)
  ·
   exfalso
   obtain ⟨u, l, hu, e⟩ := shT_dec hs' (fun hx => by have := ha'.1; rw [hx a'] at this; cases this)
   have hu2 := R_le ho
   obtain ⟨c, t, e2, hd⟩ := dec_first (a := u) (by omega) (58 :: l ++ r')
   rw [shT_emp hs he, e, List.append_assoc, e2] at h
   simp only [List.cons_append, List.cons.injEq] at h
   rw [h.1] at hd; exact absurd hd (by decide)
  ·
   have la' := hs' a' ha'.1
   have lb' := hs' b' hb'.1
   have la := hs a ha.1
   have lb := hs b hb.1
   have R0 := R_le ho
   have Rk := R_le hk
   rw [shT_zero hs' ha' hb'] at h
   cases k with
   | zero =>
    rw [shT_zero hs ha hb] at h
    simp only [List.append_assoc, List.cons_append] at h
    obtain ⟨rfl, rfl, rfl⟩ := head_eq (by omega) (by omega) (by omega) (by omega) hr.noD hr'.noD h
    refine ⟨ext_iff fun x => ?_, rfl⟩
    have h2 : R 0 = 2 := rfl
    constructor
    ·
     intro hx
     have := hs' x hx
     have h3 := ha'.2 x hx
     have h4 := hb'.2 x hx
     rcases (by omega : x = a' ∨ x = b') with rfl | rfl
     ·
      exact ha.1
     ·
      exact hb.1
    ·
     intro hx
     have := hs x hx
     have h3 := ha.2 x hx
     have h4 := hb.2 x hx
     rcases (by omega : x = a' ∨ x = b') with rfl | rfl
     ·
      exact ha'.1
     ·
      exact hb'.1
   | succ k =>
    exfalso
    rw [shT_succ hs ha hb] at h
    simp only [List.append_assoc, List.cons_append] at h
    obtain ⟨-, -, h3⟩ := head_eq (by omega) (by omega) (by omega) (by omega) (noD_cons (by decide) _) hr'.noD h
    rcases hr' _ _ h3 with h4 | h4 <;> exact absurd h4 (by decide)
 | succ o ih =>
  intro k ho hk m' m hs' hs r' r hr' hr h
  rcases ends_or hs' with ⟨he', -, -⟩ | ⟨a', b', ha', hb', -, -⟩ <;> rcases ends_or hs with ⟨he, -, -⟩ | ⟨a, b, ha, hb, -, -⟩
  ·
   rw [shT_emp hs' he', shT_emp hs he] at h
   exact ⟨emp_ext he' he, by simpa using h⟩
  ·
   exfalso
   obtain ⟨u, l, hu, e⟩ := shT_dec hs (fun hx => by have := ha.1; rw [hx a] at this; cases this)
   have hu2 := R_le hk
   obtain ⟨c, t, e2, hd⟩ := dec_first (a := u) (by omega) (58 :: l ++ r)
   rw [shT_emp hs' he', e, List.append_assoc, e2] at h
   simp only [List.cons_append, List.cons.injEq] at h
   rw [← h.1] at hd; exact absurd hd (by decide)
  ·
   exfalso
   obtain ⟨u, l, hu, e⟩ := shT_dec hs' (fun hx => by have := ha'.1; rw [hx a'] at this; cases this)
   have hu2 := R_le ho
   obtain ⟨c, t, e2, hd⟩ := dec_first (a := u) (by omega) (58 :: l ++ r')
   rw [shT_emp hs he, e, List.append_assoc, e2] at h
   simp only [List.cons_append, List.cons.injEq] at h
   rw [h.1] at hd; exact absurd hd (by decide)
  ·
   have la' := hs' a' ha'.1
   have lb' := hs' b' hb'.1
   have la := hs a ha.1
   have lb := hs b hb.1
   have R0 := R_le ho
   have Rk := R_le hk
   rw [shT_succ hs' ha' hb'] at h
   cases k with
   | zero =>
    exfalso
    rw [shT_zero hs ha hb] at h
    simp only [List.append_assoc, List.cons_append] at h
    obtain ⟨-, -, h3⟩ := head_eq (by omega) (by omega) (by omega) (by omega) hr.noD (noD_cons (by decide) _) h
    rcases hr _ _ h3.symm with h4 | h4 <;> exact absurd h4 (by decide)
   | succ k =>
    rw [shT_succ hs ha hb] at h
    simp only [List.append_assoc, List.cons_append, List.nil_append] at h
    obtain ⟨rfl, rfl, h3⟩ := head_eq (by omega) (by omega) (by omega) (by omega) (noD_cons (by decide) _) (noD_cons (by decide) _) h
    simp only [List.cons.injEq, true_and] at h3
    have e' := lst_emp (shelves_supp o m' a')
    have e := lst_emp (shelves_supp k m a')
    by_cases hab : a' = b'
    ·
     subst hab
     have h4 : Emp (shelves o m' a') := fun s => by
      cases hx : shelves o m' a' s with
      | false => rfl
      | true =>
       obtain ⟨-, y, hy⟩ := (shelves_iff _ _ _ _).1 hx
       obtain ⟨-, h1, h2⟩ := (spot_iff _ _ _ _ _).1 hy
       exact absurd (single ha' hb' h1).1 h2
     have h5 : Emp (shelves k m a') := fun s => by
      cases hx : shelves k m a' s with
      | false => rfl
      | true =>
       obtain ⟨-, y, hy⟩ := (shelves_iff _ _ _ _).1 hx
       obtain ⟨-, h1, h2⟩ := (spot_iff _ _ _ _ _).1 hy
       exact absurd (single ha hb h1).1 h2
     rw [e'.2 h4, e.2 h5] at h3
     simp only [if_true, List.flatMap_nil, List.nil_append, List.cons.injEq, true_and] at h3
     refine ⟨ext_iff fun x => ?_, h3⟩
     constructor
     ·
      intro hx; rw [(single ha' hb' hx).1]; exact ha.1
     ·
      intro hx; rw [(single ha hb hx).1]; exact ha'.1
    ·
     have n' := shelves_ne hs' hb' hab
     have n := shelves_ne hs hb hab
     rw [if_neg (fun hx => n' (e'.1 hx)), if_neg (fun hx => n (e.1 hx))] at h3
     have hfol : ∀ (L : List Nat) (f : Nat → List UInt8) (t : List UInt8), Fol (L.flatMap (fun s => 124 :: f s) ++ 41 :: t) := fun L f t => by
      cases L with
      | nil => exact fol_cons (.inr rfl) _
      | cons u L => exact fol_cons (.inl rfl) _
     obtain ⟨q1, q2⟩ := ih k (by omega) (by omega) (shelves_supp o m' a') (shelves_supp k m a') _ _ (hfol _ _ _) (hfol _ _ _) h3
     have hlst : lst o (shelves o m' a') = lst k (shelves k m a') := asc_ext (lst_asc _ _) (lst_asc _ _) fun x => by
      rw [mem_lst (shelves_supp o m' a'), mem_lst (shelves_supp k m a'), q1]
     rw [hlst] at q2
     have Rk' := R_le (show k ≤ 3 by omega)
     obtain ⟨q3, q4⟩ := spots_cross ho hk (fun {n'} {n} => ih k (by omega) (by omega)) r' r _ (fun s hs2 => by
      have := shelves_supp k m a' s ((mem_lst (shelves_supp k m a') s).1 hs2); omega) q2
     refine ⟨?_, q4⟩
     have hsp : ∀ s, shelves k m a' s = true → spot o m' a' s = spot k m a' s := fun s h => q3 s ((mem_lst (shelves_supp k m a') s).2 h)
     obtain ⟨s1, hs1⟩ := exists_max (shelves_supp k m a') n
     obtain ⟨y1, hy1⟩ := exists_max (spot_supp k m a' s1) (shelf_some hs1.1)
     have hm1 := max_some hs ha hs1 hy1
     have hs1' : IsMax (shelves o m' a') s1 := by rw [q1]; exact hs1
     have hy1' : IsMax (spot o m' a' s1) y1 := by rw [hsp s1 hs1.1]; exact hy1
     have hm1' := max_some hs' ha' hs1' hy1'
     have eb := hb.unique hm1
     have eb' := hb'.unique hm1'
     have hmul : s1 * R k = s1 * R o := by omega
     have hor : R k = R o ∨ s1 = 0 := by
      rcases Nat.eq_zero_or_pos s1 with h0 | h0
      ·
       exact .inr h0
      ·
       exact .inl (Nat.eq_of_mul_eq_mul_left h0 hmul)
     have hz : ∀ x, s1 = 0 → shelves k m a' x = true → x = 0 := fun x h0 hx => by have := hs1.2 x hx; omega
     refine ext_iff fun x => ?_
     by_cases hxa : x = a'
     ·
      rw [hxa, ha.1, ha'.1]
     ·
      rw [mem_iff hs' hxa, mem_iff hs hxa, q1]
      rcases hor with hR | h0
      ·
       rw [← hR]
       constructor
       ·
        rintro ⟨p1, p2⟩; rw [hsp _ p1] at p2; exact ⟨p1, p2⟩
       ·
        rintro ⟨p1, p2⟩; exact ⟨p1, by rw [hsp _ p1]; exact p2⟩
      ·
       constructor
       ·
        rintro ⟨p1, p2⟩
        have z1 := hz _ h0 p1
        rw [z1] at p1 p2
        rw [hsp _ p1] at p2
        have hlt := (spot_supp k m a' 0) _ p2
        have e1 : x % R o = x := by
         have := Nat.div_add_mod x (R o); rw [z1] at this; omega
        rw [e1] at p2 hlt
        have e2 : x / R k = 0 := Nat.div_eq_of_lt hlt
        have e3 : x % R k = x := Nat.mod_eq_of_lt hlt
        rw [e2, e3]
        exact ⟨p1, p2⟩
       ·
        rintro ⟨p1, p2⟩
        have z1 := hz _ h0 p1
        rw [z1] at p1 p2
        rw [← hsp _ p1] at p2
        have hlt := (spot_supp o m' a' 0) _ p2
        have e1 : x % R k = x := by
         have := Nat.div_add_mod x (R k); rw [z1] at this; omega
        rw [e1] at p2 hlt
        have e2 : x / R o = 0 := Nat.div_eq_of_lt hlt
        have e3 : x % R o = x := Nat.mod_eq_of_lt hlt
        rw [e2, e3]
        exact ⟨p1, p2⟩
end RK
end Go.Proofs.YtpnfmbeccjehiaaDoor
