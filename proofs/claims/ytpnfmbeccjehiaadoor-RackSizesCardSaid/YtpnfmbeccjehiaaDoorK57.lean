/- The reference's reader on any text. -/
import Derived.Test.YtpnfmbeccjehiaaDoorQ6
import Derived.Test.YtpnfmbeccjehiaaDoorK56
namespace Go.Proofs.YtpnfmbeccjehiaaDoor
open Go.RowKit Go.Proofs.YtpnfmbeccjehiaaDoorW.PrintWords Go.Proofs.YtpnfmbeccjehiaaDoorW.PrintLast Go.Proofs.YtpnfmbeccjehiaaDoorW.PrintMore
theorem ins_ev (L : List Nat) (hL : RK.Asc L) (hn : L.length ≤ 1000000) (x : Nat) :
  ∃ L', RK.Asc L' ∧ L' ≠ [] ∧ L'.length ≤ L.length + 1 ∧ (∀ y, y ∈ L' ↔ y = x ∨ y ∈ L) ∧ Ev (fun K => PR.remouldref07_Insert.f K (zs L) (x : Int)) (zs L') := by
 have hh := has_f (zs L) (x : Int) (by rw [zs_len]; exact hn)
 rw [zs_len] at hh
 by_cases hx : x ∈ L
 ·
  refine ⟨L, hL, fun h => (by rw [h] at hx; cases hx), by omega, fun y => ⟨.inr, fun h => h.elim (fun e => e ▸ hx) id⟩, Ev.up (fun K => PR.remouldref07_Insert.mono _ _ K) (k0 := L.length + 1) ?_⟩
  unfold PR.remouldref07_Insert.f
  rw [hh, decide_eq_true (mem_zs.2 hx)]
  rfl
 ·
  obtain ⟨i, h1, h2, h3⟩ := insert_from L x hn hx hL _ 0 (L.length + 1) (Nat.zero_add _) (Nat.lt_succ_self _) (by simp)
  refine ⟨L.take i ++ x :: L.drop i, RK.asc_insert hL x hx i h1 h2, by simp, ?_, fun y => ?_, Ev.up (fun K => PR.remouldref07_Insert.mono _ _ K) (k0 := L.length + 1) ?_⟩
  ·
   rw [List.length_append, List.length_cons, List.length_take, List.length_drop]; omega
  ·
   have h4 : y ∈ L ↔ y ∈ L.take i ∨ y ∈ L.drop i := by rw [← List.mem_append, List.take_append_drop]
   rw [List.mem_append, List.mem_cons, h4]
   constructor
   ·
    rintro (h | h | h)
    ·
     exact .inr (.inl h)
    ·
     exact .inl h
    ·
     exact .inr (.inr h)
   ·
    rintro (h | h | h)
    ·
     exact .inr (.inl h)
    ·
     exact .inl h
    ·
     exact .inr (.inr h)
  ·
   unfold PR.remouldref07_Insert.f
   rw [hh, decide_eq_false (fun h => hx (mem_zs.1 h))]
   exact h3
theorem skip58 (l : List UInt8) : PR.remouldref07_skip.f ⟨l.toArray⟩ 58 = some (⟨(SR 58 l).1.toArray⟩, (SR 58 l).2) := skip_f 58 l
theorem skip40 (l : List UInt8) : PR.remouldref07_skip.f ⟨l.toArray⟩ 40 = some (⟨(SR 40 l).1.toArray⟩, (SR 40 l).2) := skip_f 40 l
theorem skip41 (l : List UInt8) : PR.remouldref07_skip.f ⟨l.toArray⟩ 41 = some (⟨(SR 41 l).1.toArray⟩, (SR 41 l).2) := skip_f 41 l
theorem skip124 (l : List UInt8) : PR.remouldref07_skip.f ⟨l.toArray⟩ 124 = some (⟨(SR 124 l).1.toArray⟩, (SR 124 l).2) := skip_f 124 l
theorem SR_len (c : UInt8) (l : List UInt8) : (SR c l).1.length ≤ l.length ∧ ((SR c l).2 = true → (SR c l).1.length + 1 = l.length) := by
 unfold SR
 cases h : RK.skipL c l with
 | none => exact ⟨Nat.le_refl _, fun h => by cases h⟩
 | some r =>
  have := RK.skipL_len h
  exact ⟨by dsimp only; omega, fun _ => this⟩
/-- what follows a number -/
def aft (l : List UInt8) : List UInt8 := l.drop (dg l).length
def okN (l : List UInt8) : Bool := decide (0 < (dg l).length) && decide ((dg l).length < 4)
theorem aft_len (l : List UInt8) : (aft l).length ≤ l.length ∧ (okN l = true → (aft l).length < l.length) := by
 unfold aft okN
 rw [List.length_drop]
 refine ⟨by omega, fun h => ?_⟩
 simp only [Bool.and_eq_true, decide_eq_true_eq] at h
 have := (dg_le l).2
 omega
theorem NR_eq (l : List UInt8) : NR l = (((vd (dg l) : Nat) : Int), ⟨(aft l).toArray⟩, okN l) := rfl
theorem read_step (l : List UInt8) (hl : l.length ≤ 5000) (k : Int) (p : List Int × ByteArray × Bool)
  (h : Ev (fun K => PR.remouldref07_read.j0 K ⟨(aft (SR 58 (aft l)).1).toArray⟩ k ((vd (dg l) : Nat) : Int) ((vd (dg (SR 58 (aft l)).1) : Nat) : Int) (!(okN l && ((SR 58 (aft l)).2 && okN (SR 58 (aft l)).1)))) p) :
  Ev (fun K => PR.remouldref07_read.f K ⟨l.toArray⟩ k) p := by
 have h1 := (aft_len l).1
 have h2 := (SR_len 58 (aft l)).1
 obtain ⟨a, ha⟩ := number_ev l (by omega)
 obtain ⟨b, hb⟩ := number_ev (SR 58 (aft l)).1 (by omega)
 obtain ⟨c, hc⟩ := h
 dsimp only at ha hb hc
 refine ⟨a + b + c + 1, fun K hK => ?_⟩
 obtain ⟨K, rfl⟩ : ∃ m, K = m + 1 := ⟨K - 1, by omega⟩
 have hc2 := hc K (by omega)
 dsimp only
 rw [PR.remouldref07_read.f, ha K (by omega), Option.bind_some, NR_eq]
 dsimp only
 rw [skip58, Option.bind_some]
 dsimp only
 rw [hb K (by omega), Option.bind_some, NR_eq]
 dsimp only
 rw [← hc2]
 cases okN l <;> cases (SR 58 (aft l)).2 <;> cases okN (SR 58 (aft l)).1 <;> rfl
theorem j0_bad (x0 : ByteArray) (k a b : Int) : Ev (fun K => PR.remouldref07_read.j0 K x0 k a b true) ([], x0, false) := by
 refine ⟨1, fun K hK => ?_⟩
 obtain ⟨K, rfl⟩ : ∃ m, K = m + 1 := ⟨K - 1, by omega⟩
 dsimp only
 rw [PR.remouldref07_read.j0, if_pos rfl]
theorem j0_zero (x0 : ByteArray) (a b : Int) (r : List Int) (h : Ev (fun K => PR.remouldref07_Insert.f K [a] b) r) : Ev (fun K => PR.remouldref07_read.j0 K x0 0 a b false) (r, x0, true) := by
 obtain ⟨c, hc⟩ := h
 dsimp only at hc
 refine ⟨c + 1, fun K hK => ?_⟩
 obtain ⟨K, rfl⟩ : ∃ m, K = m + 1 := ⟨K - 1, by omega⟩
 dsimp only
 rw [PR.remouldref07_read.j0, if_neg (by decide), Option.bind_some, if_pos rfl, hc K (by omega)]
 rfl
theorem j0_succ (l : List UInt8) (k : Nat) (hk : k ≤ 3) (a b : Int) (p q : List Int × ByteArray × Bool)
  (h : if (SR 40 l).2 = true then (if (SR 41 (SR 40 l).1).2 = true then p = ([a], ⟨(SR 41 (SR 40 l).1).1.toArray⟩, true) else
   Ev (fun K => PR.remouldref07_read.f K ⟨(SR 40 l).1.toArray⟩ (k : Int)) q ∧ Ev (fun K => PR.remouldref07_read.l0 K q.2.1 ((k + 1 : Nat) : Int) q.2.2 [a]) p) else p = ([], ⟨(SR 40 l).1.toArray⟩, false)) :
  Ev (fun K => PR.remouldref07_read.j0 K ⟨l.toArray⟩ ((k + 1 : Nat) : Int) a b false) p := by
 have hw : wrap64 (((k + 1 : Nat) : Int) - 1) = (k : Int) := wrap_p (by omega)
 have h0 : ¬ ((k + 1 : Nat) : Int) = 0 := by omega
 by_cases h1 : (SR 40 l).2 = true
 ·
  rw [if_pos h1] at h
  by_cases h2 : (SR 41 (SR 40 l).1).2 = true
  ·
   rw [if_pos h2] at h
   refine ⟨1, fun K hK => ?_⟩
   obtain ⟨K, rfl⟩ : ∃ m, K = m + 1 := ⟨K - 1, by omega⟩
   dsimp only
   rw [PR.remouldref07_read.j0, if_neg (by decide), Option.bind_some, if_neg h0, skip40, Option.bind_some, if_pos h1, skip41, Option.bind_some, if_pos h2, h]
  ·
   rw [if_neg h2] at h
   obtain ⟨⟨c, hc⟩, d, hd⟩ := h
   dsimp only at hc hd
   refine ⟨c + d + 1, fun K hK => ?_⟩
   obtain ⟨K, rfl⟩ : ∃ m, K = m + 1 := ⟨K - 1, by omega⟩
   dsimp only
   rw [PR.remouldref07_read.j0, if_neg (by decide), Option.bind_some, if_neg h0, skip40, Option.bind_some, if_pos h1, skip41, Option.bind_some, if_neg h2, hw, hc K (by omega), Option.bind_some]
   exact hd K (by omega)
 ·
  rw [if_neg h1] at h
  refine ⟨1, fun K hK => ?_⟩
  obtain ⟨K, rfl⟩ : ∃ m, K = m + 1 := ⟨K - 1, by omega⟩
  dsimp only
  rw [PR.remouldref07_read.j0, if_neg (by decide), Option.bind_some, if_neg h0, skip40, Option.bind_some, if_neg h1, h]
theorem l0_bad (x0 : ByteArray) (k : Int) (out : List Int) : Ev (fun K => PR.remouldref07_read.l0 K x0 k false out) ([], x0, false) := by
 refine ⟨1, fun K hK => ?_⟩
 obtain ⟨K, rfl⟩ : ∃ m, K = m + 1 := ⟨K - 1, by omega⟩
 dsimp only
 rw [PR.remouldref07_read.l0, if_neg (by decide)]
theorem l0_end (l : List UInt8) (k : Int) (out : List Int) (h : (SR 41 l).2 = true) : Ev (fun K => PR.remouldref07_read.l0 K ⟨l.toArray⟩ k true out) (out, ⟨(SR 41 l).1.toArray⟩, true) := by
 refine ⟨1, fun K hK => ?_⟩
 obtain ⟨K, rfl⟩ : ∃ m, K = m + 1 := ⟨K - 1, by omega⟩
 dsimp only
 rw [PR.remouldref07_read.l0, if_pos rfl, skip41, Option.bind_some, if_pos h]
theorem l0_bar (l : List UInt8) (hl : l.length ≤ 5000) (k : Int) (out : List Int) (p : List Int × ByteArray × Bool) (h : ¬ (SR 41 l).2 = true)
  (hj : Ev (fun K => PR.remouldref07_read.j2 K ⟨(SR 124 l).1.toArray⟩ k out ((vd (dg (SR 124 l).1) : Nat) : Int) ⟨(SR 58 (aft (SR 124 l).1)).1.toArray⟩ (!((SR 124 l).2 && (okN (SR 124 l).1 && (SR 58 (aft (SR 124 l).1)).2)))) p) :
  Ev (fun K => PR.remouldref07_read.l0 K ⟨l.toArray⟩ k true out) p := by
 have h1 := (SR_len 124 l).1
 obtain ⟨a, ha⟩ := number_ev (SR 124 l).1 (by omega)
 obtain ⟨c, hc⟩ := hj
 dsimp only at ha hc
 refine ⟨a + c + 1, fun K hK => ?_⟩
 obtain ⟨K, rfl⟩ : ∃ m, K = m + 1 := ⟨K - 1, by omega⟩
 have hc2 := hc K (by omega)
 dsimp only
 rw [PR.remouldref07_read.l0, if_pos rfl, skip41, Option.bind_some, if_neg h, skip124, Option.bind_some]
 dsimp only
 rw [ha K (by omega), Option.bind_some, NR_eq]
 dsimp only
 rw [skip58, Option.bind_some, ← hc2]
 dsimp only
 cases (SR 124 l).2 <;> cases okN (SR 124 l).1 <;> cases (SR 58 (aft (SR 124 l).1)).2 <;> rfl
theorem j2_bad (x0 x18 : ByteArray) (k s : Int) (out : List Int) : Ev (fun K => PR.remouldref07_read.j2 K x0 k out s x18 true) ([], x0, false) := by
 refine ⟨1, fun K hK => ?_⟩
 obtain ⟨K, rfl⟩ : ∃ m, K = m + 1 := ⟨K - 1, by omega⟩
 dsimp only
 rw [PR.remouldref07_read.j2, if_pos rfl]
theorem j2_read (x0 x18 : ByteArray) (k : Nat) (hk : k ≤ 3) (s : Int) (out : List Int) (p q : List Int × ByteArray × Bool) (h1 : Ev (fun K => PR.remouldref07_read.f K x18 (k : Int)) q)
  (h2 : Ev (fun K => PR.remouldref07_read.l1 K q.2.1 ((k + 1 : Nat) : Int) q.2.2 out s q.1 0) p) : Ev (fun K => PR.remouldref07_read.j2 K x0 ((k + 1 : Nat) : Int) out s x18 false) p := by
 have hw : wrap64 (((k + 1 : Nat) : Int) - 1) = (k : Int) := wrap_p (by omega)
 obtain ⟨c, hc⟩ := h1
 obtain ⟨d, hd⟩ := h2
 dsimp only at hc hd
 refine ⟨c + d + 1, fun K hK => ?_⟩
 obtain ⟨K, rfl⟩ : ∃ m, K = m + 1 := ⟨K - 1, by omega⟩
 dsimp only
 rw [PR.remouldref07_read.j2, if_neg (by decide), hw, hc K (by omega), Option.bind_some]
 exact hd K (by omega)
/-- the spots put in, one after another -/
theorem l1_step (k : Nat) (hk : k ≤ 3) (x0 : ByteArray) (ok : Bool) (s : Nat) (hs : s ≤ 9999) (sp : List Nat) (hsp : ∀ y ∈ sp, y ≤ 400000) (hlen : sp.length ≤ 5000) : ∀ (d i : Nat) (out : List Nat), i + d = sp.length → RK.Asc out → out ≠ [] → out.length + d ≤ 900000 →
  ∃ out', RK.Asc out' ∧ out' ≠ [] ∧ out'.length ≤ out.length + d ∧ (∀ y, y ∈ out' ↔ y ∈ out ∨ ∃ z ∈ sp.drop i, y = s * RK.R k + z) ∧
   ∀ p, Ev (fun K => PR.remouldref07_read.l0 K x0 ((k + 1 : Nat) : Int) ok (zs out')) p → Ev (fun K => PR.remouldref07_read.l1 K x0 ((k + 1 : Nat) : Int) ok (zs out) (s : Int) (zs sp) (i : Int)) p := by
 intro d
 have hzs := zs_len sp
 induction d with
 | zero =>
  intro i out hi ha hne hb
  have c1 : ¬ (i : Int) < ((zs sp).length : Int) := by omega
  refine ⟨out, ha, hne, by omega, fun y => ?_, fun p hp => ?_⟩
  ·
   rw [List.drop_of_length_le (by omega)]; simp
  ·
   obtain ⟨c, hc⟩ := hp
   dsimp only at hc
   refine ⟨c + 1, fun K hK => ?_⟩
   obtain ⟨K, rfl⟩ : ∃ m, K = m + 1 := ⟨K - 1, by omega⟩
   dsimp only
   rw [PR.remouldref07_read.l1, if_neg c1]
   exact hc K (by omega)
 | succ d ih =>
  intro i out hi ha hne hb
  obtain ⟨z, hz⟩ : ∃ z, sp[i]? = some z := ⟨sp[i]'(by omega), by simp [show i < sp.length by omega]⟩
  have hzl := (List.getElem?_eq_some_iff.1 hz).1
  have hzb := hsp z (List.mem_of_getElem? hz)
  obtain ⟨L', e1, e2, e3, e4, e5⟩ := ins_ev out ha (by omega) (s * RK.R k + z)
  obtain ⟨out', f1, f2, f3, f4, f5⟩ := ih (i + 1) L' (by omega) e1 e2 (by omega)
  refine ⟨out', f1, f2, by omega, fun y => ?_, fun p hp => ?_⟩
  ·
   rw [f4 y, e4 y, List.drop_eq_getElem_cons hzl, (List.getElem?_eq_some_iff.1 hz).2]
   simp only [List.mem_cons]
   constructor
   ·
    rintro ((h | h) | ⟨t, h1, h2⟩)
    ·
     exact .inr ⟨z, .inl rfl, h⟩
    ·
     exact .inl h
    ·
     exact .inr ⟨t, .inr h1, h2⟩
   ·
    rintro (h | ⟨t, rfl | h1, h2⟩)
    ·
     exact .inl (.inr h)
    ·
     exact .inl (.inl h2)
    ·
     exact .inr ⟨t, h1, h2⟩
  ·
   obtain ⟨c, hc⟩ := f5 p hp
   obtain ⟨b, hb2⟩ := e5
   dsimp only at hc hb2
   have hR := RK.R_le hk
   have hw : wrap64 (((k + 1 : Nat) : Int) - 1) = (k : Int) := wrap_p (by omega)
   have hpl : ∀ K, 5 ≤ K → PR.remouldref07_Places.f K (k : Int) = some (RK.R k : Int) := leO_up (f := fun K => PR.remouldref07_Places.f K (k : Int)) (fun K => PR.remouldref07_Places.mono _ K) (places_f hk)
   have hprod : s * RK.R k ≤ 2559744 := Nat.le_trans (Nat.mul_le_mul hs hR) (by decide)
   have g1 : wrap64 ((s : Int) * (RK.R k : Int)) = ((s * RK.R k : Nat) : Int) := by rw [wrap_id (by rw [← Int.natCast_mul]; exact Int.natCast_nonneg _) (by rw [← Int.natCast_mul]; omega), Int.natCast_mul]
   have g2 : wrap64 (((s * RK.R k : Nat) : Int) + (z : Int)) = ((s * RK.R k + z : Nat) : Int) := by
    generalize s * RK.R k = q at hprod
    rw [wrap_id (by omega) (by omega), Int.natCast_add]
   have c1 : (i : Int) < ((zs sp).length : Int) := by omega
   refine ⟨b + c + 6, fun K hK => ?_⟩
   obtain ⟨K, rfl⟩ : ∃ m, K = m + 1 := ⟨K - 1, by omega⟩
   dsimp only
   rw [PR.remouldref07_read.l1, if_pos c1, hw, hpl K (by omega), Option.bind_some, if_pos (Int.natCast_nonneg i), rd_zs hz, g1, g2, hb2 K (by omega), Option.bind_some, wrap_s (by omega)]
   exact hc K (by omega)
end Go.Proofs.YtpnfmbeccjehiaaDoor
