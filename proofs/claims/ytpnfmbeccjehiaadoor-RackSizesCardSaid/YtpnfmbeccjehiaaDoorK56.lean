/- What the reference's number and skip come to. -/
import Derived.Test.YtpnfmbeccjehiaaDoorQ5
import Derived.Test.YtpnfmbeccjehiaaDoorK47
namespace Go.Proofs.YtpnfmbeccjehiaaDoor
open Go.RowKit Go.Proofs.YtpnfmbeccjehiaaDoorW.PrintWords Go.Proofs.YtpnfmbeccjehiaaDoorW.PrintLast Go.Proofs.YtpnfmbeccjehiaaDoorW.PrintMore
/-- a value that is reached with enough fuel -/
def Ev {α : Type} (f : Nat → Option α) (r : α) : Prop := ∃ k0, ∀ k, k0 ≤ k → f k = some r
theorem Ev.up {α : Type} {f : Nat → Option α} (h : ∀ k, LeO (f k) (f (k + 1))) {k0 : Nat} {r : α} (h0 : f k0 = some r) : Ev f r := ⟨k0, leO_up h h0⟩
theorem Ev.uniq {α : Type} {f : Nat → Option α} {r r' : α} (h : Ev f r) (h' : Ev f r') : r = r' := by
 obtain ⟨k, hk⟩ := h
 obtain ⟨k', hk'⟩ := h'
 have h1 := hk (max k k') (Nat.le_max_left _ _)
 have h2 := hk' (max k k') (Nat.le_max_right _ _)
 rw [h1] at h2
 exact Option.some.inj h2
theorem bt_l {l : List UInt8} {i : Nat} {c : UInt8} (h : l[i]? = some c) : bt ⟨l.toArray⟩ (i : Int) = (c.toNat : Int) := by
 obtain ⟨hi, hc⟩ := List.getElem?_eq_some_iff.1 h
 have hs : (i : Int).toNat < (⟨l.toArray⟩ : ByteArray).size := by rw [str_size]; exact hi
 rw [← bt_at _ _ hs, ← hc]
 rfl
theorem ext_drop (l : List UInt8) (i : Nat) : (⟨l.toArray⟩ : ByteArray).extract i (⟨l.toArray⟩ : ByteArray).size = ⟨(l.drop i).toArray⟩ := by
 rw [str_size]
 apply ByteArray.ext
 simp
 exact List.take_of_length_le (by rw [List.length_drop]; exact Nat.le_refl _)
theorem wrap_id {x : Int} (h0 : 0 ≤ x) (h1 : x ≤ 4000000) : wrap64 x = x := by
 unfold wrap64
 omega
def dg (l : List UInt8) : List UInt8 := (l.takeWhile RK.isD).take 4
def vd (l : List UInt8) : Nat := l.foldl (fun n c => 10 * n + (c.toNat - 48)) 0
theorem vd_snoc (l : List UInt8) (c : UInt8) : vd (l ++ [c]) = 10 * vd l + (c.toNat - 48) := by simp [vd]
theorem dg_le (l : List UInt8) : (dg l).length ≤ 4 ∧ (dg l).length ≤ l.length := by
 unfold dg
 rw [List.length_take]
 have := (List.takeWhile_sublist (l := l) RK.isD).length_le
 omega
theorem dg_take (l : List UInt8) : dg l = l.take (dg l).length := by
 have h : (l.takeWhile RK.isD) <+: l := List.takeWhile_prefix _
 have h2 : dg l <+: l := (List.take_prefix _ _).trans h
 exact List.prefix_iff_eq_take.1 h2
theorem dg_digit (l : List UInt8) : ∀ c ∈ dg l, RK.isD c = true := fun c hc => by
 have h := List.mem_of_mem_take hc
 exact List.all_eq_true.1 (List.all_takeWhile (p := RK.isD) (l := l)) c h
theorem dg_stop (l : List UInt8) (c : UInt8) (h : l[(dg l).length]? = some c) (h4 : (dg l).length < 4) : RK.isD c = false := by
 unfold dg at h h4
 rw [List.length_take] at h h4
 have e : min 4 (l.takeWhile RK.isD).length = (l.takeWhile RK.isD).length := by omega
 rw [e] at h
 have hs := List.takeWhile_append_dropWhile (p := RK.isD) (l := l)
 cases hd : l.dropWhile RK.isD with
 | nil =>
  rw [hd, List.append_nil] at hs
  rw [hs, List.getElem?_eq_none (Nat.le_refl _)] at h
  cases h
 | cons x r =>
  rw [hd] at hs
  have hx : RK.isD x = false := by
   have := List.head_dropWhile_not (p := RK.isD) (l := l) (by rw [hd]; simp)
   simpa [hd] using this
  have h' : (l.takeWhile RK.isD ++ x :: r)[(l.takeWhile RK.isD).length]? = some c := by rw [hs]; exact h
  rw [List.getElem?_append_right (Nat.le_refl _), Nat.sub_self] at h'
  have e2 : x = c := Option.some.inj h'
  rw [← e2]; exact hx
theorem vd_lt : ∀ (l : List UInt8), (∀ c ∈ l, RK.isD c = true) → vd l < 10 ^ l.length := by
 refine fun l => ?_
 have key : ∀ r : List UInt8, (∀ c ∈ r.reverse, RK.isD c = true) → vd r.reverse < 10 ^ r.length := by
  intro r
  induction r with
  | nil => intro _; simp [vd]
  | cons c r ih =>
   intro h
   rw [List.reverse_cons] at h ⊢
   have h1 := ih fun x hx => h x (List.mem_append_left _ hx)
   have h2 := h c (List.mem_append_right _ (List.mem_singleton.2 rfl))
   unfold RK.isD at h2
   simp only [Bool.and_eq_true, decide_eq_true_eq] at h2
   rw [vd_snoc, List.length_cons, Nat.pow_succ]
   omega
 intro h
 have := key l.reverse (by rw [List.reverse_reverse]; exact h)
 rwa [List.reverse_reverse, List.length_reverse] at this
/-- a number of the reference -/
def NR (l : List UInt8) : Int × ByteArray × Bool := ((vd (dg l) : Nat), ⟨(l.drop (dg l).length).toArray⟩, decide (0 < (dg l).length) && decide ((dg l).length < 4))
theorem vd_dg (l : List UInt8) : vd (dg l) ≤ 9999 := by
 have h1 := vd_lt (dg l) (dg_digit l)
 have h2 := (dg_le l).1
 have h3 : 10 ^ (dg l).length ≤ 10 ^ 4 := Nat.pow_le_pow_right (by omega) h2
 omega
set_option maxHeartbeats 2000000 in
theorem number_from (l : List UInt8) (hl : l.length ≤ 1000000) : ∀ (d i K : Nat), i + d = (dg l).length → d < K →
  PR.remouldref07_number.l0 K ⟨l.toArray⟩ ((vd (l.take i) : Nat) : Int) (i : Int) = some (NR l) := by
 intro d
 obtain ⟨h4, hle⟩ := dg_le l
 have hsz := str_size l
 induction d with
 | zero =>
  intro i K hi hK
  obtain ⟨K, rfl⟩ : ∃ m, K = m + 1 := ⟨K - 1, by omega⟩
  obtain rfl : i = (dg l).length := by omega
  have c0 : (0 : Int) ≤ ((dg l).length : Int) := Int.natCast_nonneg _
  have c1 : ((dg l).length : Int) ≤ ((⟨l.toArray⟩ : ByteArray).size : Int) := by omega
  have hE : (if ((dg l).length : Int) > 0 then some (((vd (l.take (dg l).length) : Nat) : Int), (⟨l.toArray⟩ : ByteArray).extract ((dg l).length : Int).toNat (⟨l.toArray⟩ : ByteArray).size, decide (((dg l).length : Int) < 4)) else some (((vd (l.take (dg l).length) : Nat) : Int), (⟨l.toArray⟩ : ByteArray).extract ((dg l).length : Int).toNat (⟨l.toArray⟩ : ByteArray).size, false)) = some (NR l) := by
   unfold NR
   rw [← dg_take l, Int.toNat_natCast, ext_drop]
   by_cases hp : 0 < (dg l).length
   ·
    rw [if_pos (by omega), decide_eq_true hp, Bool.true_and]
    congr 3
    by_cases h5 : (dg l).length < 4
    ·
     rw [decide_eq_true h5, decide_eq_true (by omega)]
    ·
     rw [decide_eq_false h5, decide_eq_false (by omega)]
   ·
    rw [if_neg (by omega), decide_eq_false hp, Bool.false_and]
  rw [PR.remouldref07_number.l0]
  by_cases q1 : ((dg l).length : Int) < ((⟨l.toArray⟩ : ByteArray).size : Int)
  ·
   rw [if_pos q1]
   by_cases q2 : ((dg l).length : Int) < 4
   ·
    obtain ⟨c, hc⟩ : ∃ c, l[(dg l).length]? = some c := ⟨l[(dg l).length]'(by omega), by simp [show (dg l).length < l.length by omega]⟩
    have hn := dg_stop l c hc (by omega)
    unfold RK.isD at hn
    rw [if_pos q2, if_pos c0, bt_l hc]
    by_cases q3 : (c.toNat : Int) ≥ 48
    ·
     have q4 : ¬ (c.toNat : Int) ≤ 57 := fun h => by
      rw [decide_eq_true (show 48 ≤ c.toNat by omega), decide_eq_true (show c.toNat ≤ 57 by omega)] at hn
      cases hn
     rw [if_pos q3, if_neg q4, if_pos c1]
     exact hE
    ·
     rw [if_neg q3, if_pos c1]
     exact hE
   ·
    rw [if_neg q2, if_pos c0, if_pos c1]
    exact hE
  ·
   rw [if_neg q1, if_pos c0, if_pos c1]
   exact hE
 | succ d ih =>
  intro i K hi hK
  obtain ⟨K, rfl⟩ : ∃ m, K = m + 1 := ⟨K - 1, by omega⟩
  obtain ⟨c, hc⟩ : ∃ c, l[i]? = some c := ⟨l[i]'(by omega), by simp [show i < l.length by omega]⟩
  have hcd : RK.isD c = true := dg_digit l c (by
   rw [dg_take l]
   have : (l.take (dg l).length)[i]? = some c := by rw [List.getElem?_take, if_pos (by omega), hc]
   exact List.mem_of_getElem? this)
  unfold RK.isD at hcd
  simp only [Bool.and_eq_true, decide_eq_true_eq] at hcd
  have hv : vd (l.take i) < 10 ^ (l.take i).length := vd_lt _ fun x hx => dg_digit l x (by
   rw [dg_take l]
   exact (List.take_prefix_take_left (l := l) (show i ≤ (dg l).length by omega)).subset hx)
  have h3 : 10 ^ (l.take i).length ≤ 10 ^ 4 := Nat.pow_le_pow_right (by omega) (by rw [List.length_take]; omega)
  have hi2 := ih (i + 1) K (by omega) (by omega)
  rw [List.take_add_one, hc, Option.toList_some, vd_snoc] at hi2
  have e1 : wrap64 ((wrap64 (10 * ((vd (l.take i) : Nat) : Int))) + (((c.toNat : Int) - 48) % 256)) = ((10 * vd (l.take i) + (c.toNat - 48) : Nat) : Int) := by
   have hv2 : vd (l.take i) < 10000 := Nat.lt_of_lt_of_le hv h3
   clear hi2 hv h3 ih
   rw [wrap_id (x := 10 * ((vd (l.take i) : Nat) : Int)) (by omega) (by omega), Int.emod_eq_of_lt (by omega) (by omega), wrap_id (by omega) (by omega)]
   omega
  have q1 : (i : Int) < ((⟨l.toArray⟩ : ByteArray).size : Int) := by omega
  have q2 : (i : Int) < 4 := by omega
  have q3 : (c.toNat : Int) ≥ 48 := by omega
  have q4 : (c.toNat : Int) ≤ 57 := by omega
  rw [PR.remouldref07_number.l0, if_pos q1, if_pos q2, if_pos (Int.natCast_nonneg i), bt_l hc, if_pos q3, if_pos q4, e1, wrap_s (by omega)]
  exact hi2
theorem number_ev (l : List UInt8) (hl : l.length ≤ 1000000) : Ev (fun K => PR.remouldref07_number.f K ⟨l.toArray⟩) (NR l) := by
 refine ⟨(dg l).length + 1, fun K hK => ?_⟩
 exact number_from l hl (dg l).length 0 K (by omega) (by omega)
/-- a character skipped by the reference -/
def SR (c : UInt8) (l : List UInt8) : List UInt8 × Bool := match RK.skipL c l with
 | some r => (r, true)
 | none => (l, false)
theorem skip_f (c : UInt8) (l : List UInt8) : PR.remouldref07_skip.f ⟨l.toArray⟩ (c.toNat : Int) = some (⟨(SR c l).1.toArray⟩, (SR c l).2) := by
 unfold PR.remouldref07_skip.f SR
 cases l with
 | nil => rfl
 | cons d r =>
  have h1 : (((⟨(d :: r).toArray⟩ : ByteArray).size : Nat) : Int) > 0 := by rw [str_size]; simp
  have h2 : (1 : Int) ≤ (((⟨(d :: r).toArray⟩ : ByteArray).size : Nat) : Int) := by omega
  have hb : bt ⟨(d :: r).toArray⟩ ((0 : Nat) : Int) = (d.toNat : Int) := bt_l rfl
  rw [if_pos h1, if_pos h1, show (0 : Int) = ((0 : Nat) : Int) from rfl, hb, RK.skipL]
  by_cases e : d = c
  ·
   rw [if_pos (by rw [e]), if_pos h2, if_pos e]
   have := ext_drop (d :: r) 1
   rw [this]; rfl
  ·
   rw [if_neg (fun h => e (UInt8.toNat_inj.1 (by omega))), if_neg e]
end Go.Proofs.YtpnfmbeccjehiaaDoor
