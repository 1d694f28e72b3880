/- What the reference's Size comes to. -/
import Derived.Test.YtpnfmbeccjehiaaDoorQ8
import Derived.Test.YtpnfmbeccjehiaaDoorK47
import Derived.Test.YtpnfmbeccjehiaaDoorZC
namespace Go.Proofs.YtpnfmbeccjehiaaDoor
open Go.RowKit Go.Proofs.YtpnfmbeccjehiaaDoorW.PrintWords Go.Proofs.YtpnfmbeccjehiaaDoorW.PrintLast Go.Proofs.YtpnfmbeccjehiaaDoorW.PrintMore
def sumL (f : Nat → Nat) : List Nat → Nat
 | [] => 0
 | u :: l => f u + sumL f l
set_option maxHeartbeats 2000000 in
theorem size_from {k : Nat} (hk : k ≤ 3) (sp : Nat → RK.S) (K0 T : Nat) (hT : T ≤ 4000000) (L : List Nat) (hL : L.length ≤ 1000)
  (ih : ∀ u ∈ L, ∀ K, K0 ≤ K → PR.remouldref07_Size.f K (zs (RK.lst k (sp u))) (k : Int) = some ((RK.sz k (sp u) : Nat) : Int)) :
  ∀ (d i K x : Nat), i + d = L.length → K0 + d < K → x + sumL (fun u => RK.sz k (sp u)) (L.drop i) ≤ T →
  PR.remouldref07_Size.l0 K ((k + 1 : Nat) : Int) (zs L) (L.map fun u => zs (RK.lst k (sp u))) (x : Int) (i : Int) = some ((x + sumL (fun u => RK.sz k (sp u)) (L.drop i) : Nat) : Int) := by
 intro d
 have hzL := zs_len L
 induction d with
 | zero =>
  intro i K x hi hK hx
  obtain ⟨K, rfl⟩ : ∃ m, K = m + 1 := ⟨K - 1, by omega⟩
  rw [List.drop_of_length_le (by omega)]
  have c1 : ¬ (i : Int) < ((zs L).length : Int) := by omega
  rw [PR.remouldref07_Size.l0, if_neg c1]
  rfl
 | succ d ihd =>
  intro i K x hi hK hx
  obtain ⟨K, rfl⟩ : ∃ m, K = m + 1 := ⟨K - 1, by omega⟩
  obtain ⟨u, hu⟩ : ∃ u, L[i]? = some u := ⟨L[i]'(by omega), by simp [show i < L.length by omega]⟩
  have hu2 := ih u (List.mem_of_getElem? hu)
  have hul := (List.getElem?_eq_some_iff.1 hu).1
  have hr1 : PR.rd_L1 (L.map fun u => zs (RK.lst k (sp u))) (i : Int) = zs (RK.lst k (sp u)) := by simp [PR.rd_L1, List.getD, hu]
  have hw : wrap64 (((k + 1 : Nat) : Int) - 1) = (k : Int) := wrap_p (by omega)
  have hst := wrap_s (i := i) (by omega)
  rw [List.drop_eq_getElem_cons hul, (List.getElem?_eq_some_iff.1 hu).2, sumL, ← Nat.add_assoc] at hx ⊢
  have hs : x + RK.sz k (sp u) ≤ 4000000 := Nat.le_trans (Nat.le_trans (Nat.le_add_right _ _) hx) hT
  have hadd : wrap64 ((x : Int) + ((RK.sz k (sp u) : Nat) : Int)) = ((x + RK.sz k (sp u) : Nat) : Int) := by
   unfold wrap64
   omega
  have c1 : (i : Int) < ((zs L).length : Int) := by omega
  have c6 : (i : Int) < ((L.map fun u => zs (RK.lst k (sp u))).length : Int) := by rw [List.length_map]; omega
  have h3 : K0 ≤ K := by omega
  have HR := Lib.hid (ihd (i + 1) K (x + RK.sz k (sp u)) (by omega) (by omega) hx)
  rw [PR.remouldref07_Size.l0, if_pos c1, if_pos (Int.natCast_nonneg i), if_pos c6, hr1, hw, hu2 K h3]
  simp only [Option.bind_some]
  rw [hadd, hst]
  exact HR.out
theorem sumL_filter (p : Nat → Bool) (f : Nat → Nat) (h : ∀ s, p s = false → f s = 0) : ∀ (l : List Nat), sumL f (l.filter p) = sumL f l
 | [] => rfl
 | u :: l => by
  cases e : p u with
  | true => rw [List.filter_cons_of_pos e, sumL, sumL, sumL_filter p f h l]
  | false => rw [List.filter_cons_of_neg (by rw [e]; decide), sumL, sumL_filter p f h l, h u e, Nat.zero_add]
theorem sumL_app (f : Nat → Nat) : ∀ (l l' : List Nat), sumL f (l ++ l') = sumL f l + sumL f l'
 | [], l' => by simp [sumL]
 | u :: l, l' => by rw [List.cons_append, sumL, sumL, sumL_app f l l', Nat.add_assoc]
theorem sumL_range (f : Nat → Nat) : ∀ n, sumL f (List.range n) = RK.sumN f n
 | 0 => rfl
 | n + 1 => by rw [List.range_succ, sumL_app, sumL_range f n, RK.sumN]; simp [sumL]
theorem sumL_lst {k : Nat} {m : RK.S} {a : Nat} : sumL (fun u => RK.sz k (RK.spot k m a u)) (RK.lst k (RK.shelves k m a)) = RK.sumN (fun s => RK.sz k (RK.spot k m a s)) (RK.R k) := by
 have h : ∀ s, s ∈ List.range (RK.R k) → RK.shelves k m a s = false → RK.sz k (RK.spot k m a s) = 0 := fun s hs he =>
  RK.sz_emp (RK.spot_supp k m a s) (RK.shelf_none he (List.mem_range.1 hs))
 rw [← sumL_range]
 unfold RK.lst
 generalize List.range (RK.R k) = l at h
 induction l with
 | nil => rfl
 | cons u l ih =>
  have ih2 := ih fun s hs he => h s (List.mem_cons_of_mem _ hs) he
  cases e : RK.shelves k m a u with
  | true => rw [List.filter_cons_of_pos e, sumL, sumL, ih2]
  | false => rw [List.filter_cons_of_neg (by rw [e]; decide), sumL, ih2, h u List.mem_cons_self e, Nat.zero_add]
set_option maxHeartbeats 2000000 in
theorem size_f : ∀ (k : Nat), k ≤ 3 → ∃ K0, ∀ (m : RK.S), RK.Supp k m → ∀ K, K0 ≤ K → PR.remouldref07_Size.f K (zs (RK.lst k m)) (k : Int) = some ((RK.sz k m : Nat) : Int)
 | 0, hk => by
  refine ⟨4, fun m hs K hK => ?_⟩
  obtain ⟨K, rfl⟩ : ∃ m, K = m + 2 := ⟨K - 2, by omega⟩
  rcases RK.ends_or hs with ⟨he, -⟩ | ⟨a, b, ha, hb, -⟩
  ·
   rw [(RK.lst_emp hs).2 he, RK.sz_emp hs he, PR.remouldref07_Size.f, if_pos (by simp [zs])]
   rfl
  ·
   have hl0 := (List.getElem?_eq_some_iff.1 (RK.lst_first hs ha)).1
   have hz := zs_len (RK.lst 0 m)
   rw [PR.remouldref07_Size.f, if_neg (by omega), if_pos (show ((0 : Nat) : Int) = 0 from rfl), PR.remouldref07_Size.j0, if_pos rfl, RK.sz_zero hs ha]
   rfl
 | k + 1, hk => by
  obtain ⟨K0, ih⟩ := size_f k (by omega)
  obtain ⟨K1, hK1⟩ : ∃ K1, K1 = K0 + 2000 := ⟨_, rfl⟩
  refine ⟨K1, fun m hs K hK => ?_⟩
  obtain ⟨K, rfl⟩ : ∃ m, K = m + 2 := ⟨K - 2, by omega⟩
  rcases RK.ends_or hs with ⟨he, -⟩ | ⟨a, b, ha, hb, -⟩
  ·
   rw [(RK.lst_emp hs).2 he, RK.sz_emp hs he, PR.remouldref07_Size.f, if_pos (by simp [zs])]
   rfl
  ·
   have hR := RK.R_le hk
   have hlen := RK.lst_len (k + 1) m
   have hlk := RK.lst_len k (RK.shelves k m a)
   have hRk := RK.R_le (k := k) (by omega)
   have hl0 := (List.getElem?_eq_some_iff.1 (RK.lst_first hs ha)).1
   have hone := RK.lst_one hs ha
   have hz := zs_len (RK.lst (k + 1) m)
   have hsz := RK.sz_succ hs ha
   have hsl := Nat.le_trans (RK.sz_le k (RK.shelves k m a)) (RK.bz_le (k := k) (by omega))
   rw [PR.remouldref07_Size.f, if_neg (by omega), if_neg (by omega), PR.remouldref07_Size.j0]
   by_cases h1 : (RK.lst (k + 1) m).length = 1
   ·
    rw [if_pos (by simp; omega), hsz, ← sumL_lst, hone.1 h1, RK.sz_emp (RK.shelves_supp k m a) ((RK.lst_emp (RK.shelves_supp k m a)).1 (hone.1 h1))]
    rfl
   ·
    have hne : ¬ (((zs (RK.lst (k + 1) m)).length : Int) == 1) = true := by simp; omega
    have hw : wrap64 (((k + 1 : Nat) : Int) - 1) = (k : Int) := wrap_p (by omega)
    rw [if_neg hne, shelves_f hk hs ha (by omega)]
    simp only [Option.bind_some]
    rw [hw, ih _ (RK.shelves_supp k m a) K (by omega)]
    simp only [Option.bind_some]
    have hadd : wrap64 (1 + ((RK.sz k (RK.shelves k m a) : Nat) : Int)) = ((1 + RK.sz k (RK.shelves k m a) : Nat) : Int) := by
     unfold wrap64
     omega
    have h3 : K0 + (RK.lst k (RK.shelves k m a)).length < K := by omega
    have h4 : 1 + RK.sz k (RK.shelves k m a) + sumL (fun u => RK.sz k (RK.spot k m a u)) ((RK.lst k (RK.shelves k m a)).drop 0) ≤ RK.sz (k + 1) m := by
     rw [List.drop_zero, sumL_lst, hsz]; exact Nat.le_refl _
    have h6 : RK.sz (k + 1) m ≤ 4000000 := Nat.le_trans (Nat.le_trans (RK.sz_le (k + 1) m) (RK.bz_le hk)) (by decide)
    have h5 : (RK.lst k (RK.shelves k m a)).length ≤ 1000 := by omega
    have h2 := size_from (by omega) (RK.spot k m a) K0 _ h6 (RK.lst k (RK.shelves k m a)) h5 (fun u _ K hK => ih _ (RK.spot_supp k m a u) K hK) _ 0 K (1 + RK.sz k (RK.shelves k m a)) (Nat.zero_add _) h3 h4
    rw [hadd, hsz]
    rw [List.drop_zero, sumL_lst] at h2
    exact h2
theorem refSize (k : Nat) (m : RK.S) (v : Value) (w : World) (hk : k ≤ 3) (hs : RK.Supp k m) (hv : LI w v (zs (RK.lst k m))) :
  Calls Tryd.prog 34 #[v, .int .i64 (k : Int)] w fun e w' => e = .returned (.int .i64 ((RK.sz k m : Nat) : Int)) ∧ Below w.heap.size w w' := by
 obtain ⟨A, c, rfl, h1, h2⟩ := hv
 obtain ⟨K0, h⟩ := size_f k hk
 exact PR.remouldref07_Size.calls K0 A c (zs (RK.lst k m)) k _ w h2 h1 (h m hs K0 (Nat.le_refl _))
end Go.Proofs.YtpnfmbeccjehiaaDoor
