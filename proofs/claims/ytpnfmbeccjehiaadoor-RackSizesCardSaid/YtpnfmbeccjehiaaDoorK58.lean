/- The reference's Read: the set that a text is the shape of. -/
import Derived.Test.YtpnfmbeccjehiaaDoorK57
import Derived.Test.YtpnfmbeccjehiaaDoorN12
namespace Go.Proofs.YtpnfmbeccjehiaaDoor
open Go.RowKit Go.Proofs.YtpnfmbeccjehiaaDoorW.PrintWords Go.Proofs.YtpnfmbeccjehiaaDoorW.PrintLast Go.Proofs.YtpnfmbeccjehiaaDoorW.PrintMore
def Vr : Nat → Nat
 | 0 => 9999
 | k + 1 => 9999 * RK.R k + Vr k + 9999
theorem Vr_le {k : Nat} (h : k ≤ 3) : Vr k ≤ 300000 := by
 rcases (by omega : k = 0 ∨ k = 1 ∨ k = 2 ∨ k = 3) with rfl | rfl | rfl | rfl <;> decide
theorem Vr_nine (k : Nat) : 9999 ≤ Vr k := by cases k <;> simp [Vr]
/-- what the reference's reader hands back -/
def Good (n k : Nat) (p : List Int × ByteArray × Bool) : Prop := ∃ (L : List Nat) (r : List UInt8) (o : Bool), p = (zs L, ⟨r.toArray⟩, o) ∧ L.length + r.length ≤ n ∧ RK.Asc L ∧ (∀ x ∈ L, x ≤ Vr k) ∧ (o = true → L ≠ [])
theorem good_bad {n k : Nat} {r : List UInt8} (h : r.length ≤ n) : Good n k ([], ⟨r.toArray⟩, false) := ⟨[], r, false, rfl, (by simpa using h), List.Pairwise.nil, (fun x h => by cases h), (fun h => by cases h)⟩
theorem loop_any {k : Nat} (hk : k ≤ 3) (T : ∀ l : List UInt8, l.length ≤ 5000 → ∃ p, Ev (fun K => PR.remouldref07_read.f K ⟨l.toArray⟩ (k : Int)) p ∧ Good l.length k p) (N : Nat) (hN : N ≤ 5000) :
  ∀ (n : Nat) (l : List UInt8), l.length ≤ n → ∀ (out : List Nat) (ok : Bool), RK.Asc out → out ≠ [] → out.length + l.length ≤ N → (∀ x ∈ out, x ≤ Vr (k + 1)) →
  ∃ p, Ev (fun K => PR.remouldref07_read.l0 K ⟨l.toArray⟩ ((k + 1 : Nat) : Int) ok (zs out)) p ∧ Good N (k + 1) p := by
 intro n
 induction n with
 | zero =>
  intro l hl out ok ha hne hb hv
  have e : l = [] := List.eq_nil_of_length_eq_zero (by omega)
  subst e
  cases ok with
  | false => exact ⟨_, l0_bad _ _ _, good_bad (by simp)⟩
  | true => exact ⟨_, l0_bar [] (by simp) _ _ _ (by decide) (j2_bad _ _ _ _ _), good_bad (by simp [SR, RK.skipL])⟩
 | succ n ih =>
  intro l hl out ok ha hne hb hv
  cases ok with
  | false => exact ⟨_, l0_bad _ _ _, good_bad (by omega)⟩
  | true =>
   have hs41 := SR_len 41 l
   by_cases h41 : (SR 41 l).2 = true
   ·
    exact ⟨_, l0_end l _ _ h41, out, (SR 41 l).1, true, rfl, by omega, ha, hv, fun _ => hne⟩
   ·
    have hs124 := SR_len 124 l
    cases hf : ((SR 124 l).2 && (okN (SR 124 l).1 && (SR 58 (aft (SR 124 l).1)).2)) with
    | false =>
     refine ⟨_, l0_bar l (by omega) _ _ _ h41 ?_, good_bad (r := (SR 124 l).1) (by omega)⟩
     rw [hf]
     exact j2_bad _ _ _ _ _
    | true =>
     have hf2 := hf
     simp only [Bool.and_eq_true] at hf2
     have h1 := hs124.2 hf2.1
     have h2 := (aft_len (SR 124 l).1).1
     have h3 := (SR_len 58 (aft (SR 124 l).1)).1
     obtain ⟨q, hq, L, r, o, rfl, g1, g2, g3, g4⟩ := T (SR 58 (aft (SR 124 l).1)).1 (by omega)
     have hV := Vr_le hk
     obtain ⟨out', f1, f2, f3, f4, f5⟩ := l1_step k hk ⟨r.toArray⟩ o (vd (dg (SR 124 l).1)) (vd_dg _) L (fun y hy => Nat.le_trans (g3 y hy) (by omega)) (by omega) L.length 0 out (Nat.zero_add _) ha hne (by omega)
     have hv' : ∀ x ∈ out', x ≤ Vr (k + 1) := fun x hx => by
      rcases (f4 x).1 hx with h | ⟨z, hz, rfl⟩
      ·
       exact hv x h
      ·
       have h5 := g3 z (List.mem_of_mem_drop hz)
       have h6 : vd (dg (SR 124 l).1) * RK.R k ≤ 9999 * RK.R k := Nat.mul_le_mul_right _ (vd_dg _)
       rw [Vr]
       omega
     obtain ⟨p, hp, hg⟩ := ih r (by omega) out' o f1 f2 (by omega) hv'
     refine ⟨p, l0_bar l (by omega) _ _ _ h41 ?_, hg⟩
     rw [hf]
     exact j2_read _ _ k hk _ _ p _ hq (f5 p hp)
theorem read_any_ref : ∀ (k : Nat), k ≤ 3 → ∀ l : List UInt8, l.length ≤ 5000 → ∃ p, Ev (fun K => PR.remouldref07_read.f K ⟨l.toArray⟩ (k : Int)) p ∧ Good l.length k p := by
 intro k
 induction k with
 | zero =>
  intro hk l hl
  have a1 := aft_len l
  have a2 := SR_len 58 (aft l)
  have a3 := aft_len (SR 58 (aft l)).1
  cases hf : (okN l && ((SR 58 (aft l)).2 && okN (SR 58 (aft l)).1)) with
  | false => exact ⟨_, read_step l hl _ _ (by rw [hf]; exact j0_bad _ _ _ _), good_bad (by omega)⟩
  | true =>
   have hf2 := hf
   simp only [Bool.and_eq_true] at hf2
   have b1 := a1.2 hf2.1
   have b2 := a2.2 hf2.2.1
   have b3 := a3.2 hf2.2.2
   obtain ⟨L', e1, e2, e3, e4, e5⟩ := ins_ev [vd (dg l)] (List.pairwise_singleton _ _) (by simp) (vd (dg (SR 58 (aft l)).1))
   have e3' : L'.length ≤ 2 := e3
   refine ⟨_, read_step l hl _ _ (by rw [hf]; exact j0_zero _ _ _ _ e5), L', _, true, rfl, by omega, e1, fun x hx => ?_, fun _ => e2⟩
   rcases (e4 x).1 hx with rfl | h
   ·
    exact vd_dg _
   ·
    rw [List.mem_singleton.1 h]; exact vd_dg _
 | succ k ih =>
  intro hk l hl
  have a1 := aft_len l
  have a2 := SR_len 58 (aft l)
  have a3 := aft_len (SR 58 (aft l)).1
  cases hf : (okN l && ((SR 58 (aft l)).2 && okN (SR 58 (aft l)).1)) with
  | false => exact ⟨_, read_step l hl _ _ (by rw [hf]; exact j0_bad _ _ _ _), good_bad (by omega)⟩
  | true =>
   have hf2 := hf
   simp only [Bool.and_eq_true] at hf2
   have b1 := a1.2 hf2.1
   have b2 := a2.2 hf2.2.1
   have b3 := a3.2 hf2.2.2
   obtain ⟨l3, hl3⟩ : ∃ l3, aft (SR 58 (aft l)).1 = l3 := ⟨_, rfl⟩
   rw [hl3] at b3
   have c1 := SR_len 40 l3
   have c2 := SR_len 41 (SR 40 l3).1
   have hva : ∀ x ∈ [vd (dg l)], x ≤ Vr (k + 1) := fun x hx => by rw [List.mem_singleton.1 hx]; exact Nat.le_trans (vd_dg _) (Vr_nine _)
   by_cases h40 : (SR 40 l3).2 = true
   ·
    by_cases h41 : (SR 41 (SR 40 l3).1).2 = true
    ·
     exact ⟨([((vd (dg l) : Nat) : Int)], ⟨(SR 41 (SR 40 l3).1).1.toArray⟩, true), read_step l hl _ _ (by rw [hf, hl3]; exact j0_succ l3 k (by omega) _ _ _ ([], ⟨#[]⟩, false) (by rw [if_pos h40, if_pos h41])), [vd (dg l)], (SR 41 (SR 40 l3).1).1, true, rfl, by simp; omega, List.pairwise_singleton _ _, hva, fun _ => by simp⟩
    ·
     obtain ⟨q, hq, L, r, o, rfl, g1, -⟩ := ih (by omega) (SR 40 l3).1 (by omega)
     obtain ⟨p, hp, hg⟩ := loop_any (by omega) (ih (by omega)) l.length hl r.length r (Nat.le_refl _) [vd (dg l)] o (List.pairwise_singleton _ _) (by simp) (by simp; omega) hva
     exact ⟨p, read_step l hl _ _ (by rw [hf, hl3]; exact j0_succ l3 k (by omega) _ _ p _ (by rw [if_pos h40, if_neg h41]; exact ⟨hq, hp⟩)), hg⟩
   ·
    exact ⟨([], ⟨(SR 40 l3).1.toArray⟩, false), read_step l hl _ _ (by rw [hf, hl3]; exact j0_succ l3 k (by omega) _ _ _ ([], ⟨#[]⟩, false) (by rw [if_neg h40])), good_bad (by omega)⟩
end Go.Proofs.YtpnfmbeccjehiaaDoor
