/- The number of shapes in the shape of a set. -/
import Derived.Test.YtpnfmbeccjehiaaDoorZ1
import Derived.Test.YtpnfmbeccjehiaaDoorZ6
import Derived.Maps.RangeRun
import Derived.Test.YtpnfmbeccjehiaaDoorN12
namespace Go.Proofs.YtpnfmbeccjehiaaDoor.RK
def sumN (f : Nat → Nat) : Nat → Nat
 | 0 => 0
 | n + 1 => sumN f n + f n
theorem sumN_upd {f g : Nat → Nat} {s c : Nat} (h : ∀ t, t ≠ s → g t = f t) (hs : g s = f s + c) : ∀ n, sumN g n = sumN f n + (if s < n then c else 0)
 | 0 => rfl
 | n + 1 => by
  rw [sumN, sumN, sumN_upd h hs n]
  by_cases e : n = s
  ·
   subst e
   rw [hs, if_neg (by omega), if_pos (by omega)]; omega
  ·
   rw [h n e]
   by_cases h2 : s < n
   ·
    rw [if_pos h2, if_pos (by omega)]; omega
   ·
    rw [if_neg h2, if_neg (by omega)]; omega
theorem sumN_mono {f g : Nat → Nat} (h : ∀ t, f t ≤ g t) : ∀ n, sumN f n ≤ sumN g n
 | 0 => Nat.le_refl _
 | n + 1 => Nat.add_le_add (sumN_mono h n) (h n)
theorem sumN_congr {f g : Nat → Nat} : ∀ n, (∀ t, t < n → f t = g t) → sumN f n = sumN g n
 | 0, _ => rfl
 | n + 1, h => by rw [sumN, sumN, sumN_congr n (fun t ht => h t (by omega)), h n (by omega)]
theorem sumN_zero {f : Nat → Nat} (n : Nat) (h : ∀ t, t < n → f t = 0) : sumN f n = 0 := by
 rw [sumN_congr (g := fun _ => 0) n h]
 induction n with
 | zero => rfl
 | succ n ih => rw [sumN, ih (fun t ht => h t (by omega))]
theorem sumN_le {f : Nat → Nat} {c : Nat} (h : ∀ t, f t ≤ c) : ∀ n, sumN f n ≤ n * c
 | 0 => by rw [sumN]; omega
 | n + 1 => by rw [sumN, Nat.succ_mul]; exact Nat.add_le_add (sumN_le h n) (h n)
/-- the number of shapes -/
def sz : Nat → S → Nat
 | 0, m => match mn 0 m with
  | none => 0
  | some _ => 1
 | k + 1, m => match mn (k + 1) m with
  | none => 0
  | some a => 1 + sz k (shelves k m a) + sumN (fun s => sz k (spot k m a s)) (R k)
theorem sz_emp {k : Nat} {m : S} (hs : Supp k m) (h : Emp m) : sz k m = 0 := by
 cases k with
 | zero => rw [sz, (mn_none hs).2 h]
 | succ k => rw [sz, (mn_none hs).2 h]
theorem sz_zero {m : S} {a : Nat} (hs : Supp 0 m) (h : IsMin m a) : sz 0 m = 1 := by rw [sz, (mn_some hs).2 h]
theorem sz_succ {k : Nat} {m : S} {a : Nat} (hs : Supp (k + 1) m) (h : IsMin m a) : sz (k + 1) m = 1 + sz k (shelves k m a) + sumN (fun s => sz k (spot k m a s)) (R k) := by rw [sz, (mn_some hs).2 h]
theorem sz_pos {k : Nat} {m : S} (hs : Supp k m) (h : ¬ Emp m) : 1 ≤ sz k m := by
 obtain ⟨a, ha⟩ := exists_min h
 cases k with
 | zero => rw [sz_zero hs ha]; exact Nat.le_refl _
 | succ k => rw [sz_succ hs ha]; omega
theorem sz_ins : ∀ (k : Nat) {m : S}, Supp k m → ∀ {x : Nat}, x < R k → sz k m ≤ sz k (ins m x)
 | 0, m, hs, x, hx => by
  by_cases he : Emp m
  ·
   rw [sz_emp hs he]; exact Nat.zero_le _
  ·
   obtain ⟨a, ha⟩ := exists_min he
   rw [sz_zero hs ha]
   exact sz_pos (ins_supp hs hx) fun h => by have := h x; simp [ins] at this
 | k + 1, m, hs, x, hx => by
  by_cases he : Emp m
  ·
   rw [sz_emp hs he]; exact Nat.zero_le _
  ·
   obtain ⟨a, ha⟩ := exists_min he
   cases hm : m x with
   | true => rw [ins_same hm]; exact Nat.le_refl _
   | false =>
    have hkey : ∃ a' y, IsMin (ins m x) a' ∧ y < R (k + 1) ∧ ∀ z, (ins m x z = true ∧ z ≠ a') ↔ ((m z = true ∧ z ≠ a) ∨ z = y) := by
     by_cases hxa : x < a
     ·
      have h := ins_low ha hxa
      exact ⟨x, a, h.1, hs a ha.1, h.2⟩
     ·
      have h := ins_high ha hxa hm
      exact ⟨a, x, h.1, hx, h.2⟩
    obtain ⟨a', y, h1, h2, h3⟩ := hkey
    rw [sz_succ hs ha, sz_succ (ins_supp hs hx) h1, shelves_ins h2 h3]
    obtain ⟨d1, d2⟩ := split_lt h2
    have e1 := sz_ins k (shelves_supp k m a) d1
    have e2 := sumN_mono (f := fun s => sz k (spot k m a s)) (g := fun s => sz k (spot k (ins m x) a' s)) (fun t => by
     rw [spot_ins h3 t]
     split
     ·
      exact sz_ins k (spot_supp k m a t) d2
     ·
      exact Nat.le_refl _) (R k)
    omega
def bz : Nat → Nat
 | 0 => 1
 | k + 1 => 1 + bz k + R k * bz k
theorem sz_le : ∀ (k : Nat) (m : S), sz k m ≤ bz k
 | 0, m => by rw [sz, bz]; split <;> omega
 | k + 1, m => by
  rw [sz, bz]
  split
  ·
   omega
  ·
   rename_i a _
   have h1 := sz_le k (shelves k m a)
   have h2 := sumN_le (f := fun s => sz k (spot k m a s)) (fun t => sz_le k (spot k m a t)) (R k)
   omega
theorem bz_le {k : Nat} (h : k ≤ 3) : bz k ≤ 1000 := by
 rcases (by omega : k = 0 ∨ k = 1 ∨ k = 2 ∨ k = 3) with rfl | rfl | rfl | rfl <;> decide
end Go.Proofs.YtpnfmbeccjehiaaDoor.RK
/- The number of shapes in a shape: the method size. -/
namespace Go.Proofs.YtpnfmbeccjehiaaDoor
open Go.RowKit Go.ChangeMaps
attribute [local go_sem ↓] Go.wp_at_zero Go.wp_at_succ
theorem key_one {l : List MapEntry} (h : l.Pairwise (fun a b => a.key ≠ b.key)) {e e' : MapEntry} (he : e ∈ l) (he' : e' ∈ l) (hk : e.key = e'.key) : e = e' := by
 obtain ⟨i, hi⟩ := List.mem_iff_getElem?.1 he
 obtain ⟨j, hj⟩ := List.mem_iff_getElem?.1 he'
 obtain ⟨i1, i2⟩ := List.getElem?_eq_some_iff.1 hi
 obtain ⟨j1, j2⟩ := List.getElem?_eq_some_iff.1 hj
 have hp := List.pairwise_iff_getElem.1 h
 rcases Nat.lt_trichotomy i j with hlt | heq | hlt
 ·
  exact absurd (by rw [i2, j2, hk]) (hp i j i1 j1 hlt)
 ·
  subst heq; rw [← i2, ← j2]
 ·
  exact absurd (by rw [i2, j2, hk]) (hp j i j1 i1 hlt)
theorem mem_lft {es : Array MapEntry} {seen : Array Nat} {e : MapEntry} : e ∈ (leftOf es seen).toList ↔ e ∈ es.toList ∧ seen.contains e.born = false := by
 unfold leftOf
 simp
theorem left_step {es : Array MapEntry} {f : Int → Option Value} {clock : Nat} (h : EntOf es.toList f) (hs : Stamps es.toList clock) {seen : Array Nat} {e : MapEntry} (he : e ∈ (leftOf es seen).toList) (x : Value) :
  (∃ e' ∈ (leftOf es (seen.push e.born)).toList, e'.key = x) ↔ x ≠ e.key ∧ ∃ e' ∈ (leftOf es seen).toList, e'.key = x := by
 have hin := (mem_lft.1 he).1
 have hborn : ∀ e' ∈ es.toList, e'.born = e.born → e' = e := fun e' he' hb => by
  have h2 := hs.2
  obtain ⟨i, hi⟩ := List.mem_iff_getElem?.1 hin
  obtain ⟨j, hj⟩ := List.mem_iff_getElem?.1 he'
  obtain ⟨i1, i2⟩ := List.getElem?_eq_some_iff.1 hi
  obtain ⟨j1, j2⟩ := List.getElem?_eq_some_iff.1 hj
  have hp := List.pairwise_iff_getElem.1 h2
  rcases Nat.lt_trichotomy i j with hlt | heq | hlt
  ·
   exact absurd (by rw [List.getElem_map, List.getElem_map, i2, j2, hb]) (hp i j (by simpa using i1) (by simpa using j1) hlt)
  ·
   subst heq; rw [← i2, ← j2]
  ·
   exact absurd (by rw [List.getElem_map, List.getElem_map, i2, j2, hb]) (hp j i (by simpa using j1) (by simpa using i1) hlt)
 constructor
 ·
  rintro ⟨e', he', rfl⟩
  obtain ⟨a1, a2⟩ := mem_lft.1 he'
  rw [Array.contains_push, Bool.or_eq_false_iff] at a2
  refine ⟨fun hk => ?_, e', mem_lft.2 ⟨a1, a2.1⟩, rfl⟩
  have := key_one h.2.1 a1 hin hk
  rw [this] at a2
  simp at a2
 ·
  rintro ⟨hx, e', he', rfl⟩
  obtain ⟨a1, a2⟩ := mem_lft.1 he'
  refine ⟨e', mem_lft.2 ⟨a1, ?_⟩, rfl⟩
  rw [Array.contains_push, Bool.or_eq_false_iff]
  refine ⟨a2, ?_⟩
  have : e'.born ≠ e.born := fun hb => hx (by rw [hborn e' a1 hb])
  simpa using this
theorem zm_e (x : Value) : Meth (.iface 70 x) "remould/rack.size" 122 x := ⟨_, _, rfl, fun w => by kernel_rfl, fun w => by kernel_rfl⟩
theorem zm_p (x : Value) : Meth (.iface 94 x) "remould/rack.size" 124 x := ⟨_, _, rfl, fun w => by kernel_rfl, fun w => by kernel_rfl⟩
theorem zm_t (g : Nat) : Meth (.iface 95 (.pointer (some ⟨g, 0, none⟩))) "remould/rack.size" 126 (.pointer (some ⟨g, 0, none⟩)) := ⟨_, _, rfl, fun w => by kernel_rfl, fun w => by kernel_rfl⟩
set_option maxHeartbeats 2000000 in
theorem empty_size (x : Value) (w : World) (hx : x = .agg #[]) :
  Calls Tryd.prog 122 #[x] w fun e w' => e = .returned (.int .i64 ((0 : Nat) : Int)) ∧ Below w.heap.size w w' := by
 subst hx
 go_enter Tryd.func122, Tryd.ntmps122
 go_wp2_with fail
 go_ret
 exact ⟨rfl, (by repeat (first | exact Below.refl _ _ | exact Nat.le_refl _ | refine Below.alloc ?_ ?_ _ | refine Below.setCell ?_ ?_ _ | refine Below.drew ?_ | refine bl_drewN ?_ _ | (assumption) | refine bl_call ?_ (by assumption) ?_ | omega | (simp <;> omega)))⟩
set_option maxHeartbeats 2000000 in
theorem pair_size (a b : Nat) (w : World) :
  Calls Tryd.prog 124 #[.agg #[.int .i64 a, .int .i64 b]] w fun e w' => e = .returned (.int .i64 ((1 : Nat) : Int)) ∧ Below w.heap.size w w' := by
 go_enter Tryd.func124, Tryd.ntmps124
 go_wp2_with fail
 go_ret
 exact ⟨rfl, (by repeat (first | exact Below.refl _ _ | exact Nat.le_refl _ | refine Below.alloc ?_ ?_ _ | refine Below.setCell ?_ ?_ _ | refine Below.drew ?_ | refine bl_drewN ?_ _ | (assumption) | refine bl_call ?_ (by assumption) ?_ | omega | (simp <;> omega)))⟩
/-- an interface value whose number of shapes is known in every later world -/
def Sizes (w : World) (v : Value) (n : Nat) : Prop := ∃ fn rv, Meth v "remould/rack.size" fn rv ∧ ∀ wx, Below w.heap.size w wx →
 Calls Tryd.prog fn #[rv] wx fun e w' => e = .returned (.int .i64 (n : Int)) ∧ Below wx.heap.size wx w'
theorem blk_setBlock {w : World} {r : Nat} {o o' : Obj} (h : w.heap[r]? = some o) : (setBlock w r o').heap[r]? = some o' := by
 have := blk_lt h
 simp [setBlock, this]
theorem blk_setOther {w : World} {r b : Nat} {o' : Obj} (h : b ≠ r) : (setBlock w r o').heap[b]? = w.heap[b]? := by
 simp only [setBlock]
 rw [Array.getElem?_setIfInBounds, if_neg (fun e => h e.symm)]
theorem bl_setBlock {B : Nat} {w w' : World} {r : Nat} (o : Obj) (h : Below B w w') (hr : B ≤ r) : Below B w (setBlock w' r o) :=
 ⟨h.os, h.tape, h.output, by have := h.size; simpa [setBlock] using this, fun k hk => (blk_setOther (by omega)).trans (h.block k hk)⟩
set_option maxRecDepth 100000 in
set_option maxHeartbeats 8000000 in
theorem size_any : ∀ (k : Nat) (v : Value) (m : RK.S) (F : Nat → Prop) (w : World), k ≤ 3 → Rep ty k w v m F → Sizes w v (RK.sz k m) := by
 intro k
 induction k with
 | zero =>
  intro v m F w hk h
  have hsup := h.supp
  rcases RK.ends_or hsup with ⟨he, -⟩ | ⟨a, b, ha, hb, -⟩
  ·
   have hv : v = vE ty := by
    obtain ⟨-, -, ⟨-, hv⟩ | ⟨a', b', ha', -⟩⟩ := h
    ·
     exact hv
    ·
     have := ha'.1; rw [he a'] at this; cases this
   subst hv
   refine ⟨_, _, zm_e _, fun wx hb => ?_⟩
   rw [RK.sz_emp hsup he]
   exact empty_size _ wx rfl
  ·
   obtain ⟨-, -, ⟨he, -⟩ | ⟨a', b', ha', hb', rfl⟩⟩ := h
   ·
    have := ha.1; rw [he a] at this; cases this
   refine ⟨_, _, zm_p _, fun wx hbx => ?_⟩
   rw [RK.sz_zero hsup ha]
   exact pair_size _ _ wx
 | succ k ih =>
  intro v m F w0 hk h
  have hsup := h.supp
  rcases RK.ends_or hsup with ⟨he, -⟩ | ⟨a, b, ha, hb, -⟩
  ·
   have hv : v = vE ty := by
    obtain ⟨-, ⟨-, hv, -⟩ | ⟨a', b', g, bm, sv, Fs, sp, Fp, ha', -⟩⟩ := h
    ·
     exact hv
    ·
     have := ha'.1; rw [he a'] at this; cases this
   subst hv
   refine ⟨_, _, zm_e _, fun wx hb => ?_⟩
   rw [RK.sz_emp hsup he]
   exact empty_size _ wx rfl
  ·
   obtain ⟨-, ⟨he, -⟩ | ⟨a', b', g, bm, sv, Fs, sp, Fp, ha', hb', rfl, hg0, hmap0, hsv0, hsp0, -⟩⟩ := h
   ·
    have := ha.1; rw [he a] at this; cases this
   obtain rfl := ha'.unique ha
   refine ⟨_, _, zm_t _, fun w hbw => ?_⟩
   have hg := (hbw.block g (blk_lt hg0)).trans hg0
   have hmap := hmap0.of_block (hbw.block bm hmap0.lt)
   obtain ⟨fn1, rv1, ⟨tt1, xx1, rfl, hm1, hf1⟩, hc1⟩ := ih sv _ Fs w (by omega) (hsv0.below hbw)
   have hspz := fun s hs => ih (sp s) _ (Fp s) w (by omega) ((hsp0 s hs).below hbw)
   obtain ⟨es, clock, hbm, hent, hstp⟩ := hmap
   have hrg := run_range_map (P := Tryd.prog) w 96 3 62 bm es clock Tryd.underlying96 hbm
   have htot := RK.sz_succ hsup ha
   have hle := RK.sz_le (k + 1) m
   have hle2 := RK.bz_le hk
   have hszk := fun m => Nat.le_trans (RK.sz_le k m) (RK.bz_le (k := k) (by omega))
   have hkey : ∀ e ∈ es.toList, ∃ s : Nat, e.key = .int .i64 (s : Int) ∧ RK.shelves k m a' s = true ∧ e.val = sp s := fun e he => by
    obtain ⟨i, hi, -⟩ := hent.1 e he
    have h1 := (hent.2.2 i e.val).2 ⟨e, he, hi, rfl⟩
    unfold spotsF at h1
    split at h1
    ·
     rename_i h2
     refine ⟨i.toNat, by rw [hi]; congr 1; omega, h2.2, (Option.some.inj h1).symm⟩
    ·
     cases h1
   have hleft0 : ∀ s : Nat, RK.shelves k m a' s = true ↔ ∃ e ∈ (leftOf es #[]).toList, e.key = .int .i64 (s : Int) := fun s => by
    constructor
    ·
     intro h
     obtain ⟨e, he, hk2, -⟩ := (hent.2.2 (s : Int) (sp s)).1 (spotsF_in h)
     exact ⟨e, mem_lft.2 ⟨he, by simp⟩, hk2⟩
    ·
     rintro ⟨e, he, hk2⟩
     obtain ⟨t, ht, ht2, -⟩ := hkey e (mem_lft.1 he).1
     rw [hk2] at ht
     have h3 : (s : Int) = (t : Int) := by simpa using ht
     rw [show s = t by omega]; exact ht2
   have hz0 : RK.sumN (fun s => if RK.shelves k m a' s = true then 0 else RK.sz k (RK.spot k m a' s)) (RK.R k) = 0 := RK.sumN_zero _ fun s hs => by
    split
    ·
     rfl
    ·
     rename_i h1
     exact RK.sz_emp (RK.spot_supp k m a' s) (RK.shelf_none (by simpa using h1) hs)
   have hgs := blk_lt hg
   have hbms := blk_lt hbm
   obtain ⟨c0, c1, c2, c3, c4⟩ := row5 hg
   obtain ⟨A, hA⟩ : ∃ A, RK.sz k (RK.shelves k m a') = A := ⟨_, rfl⟩
   rw [hA] at hc1 htot
   have hAle : A ≤ 1000 := by rw [← hA]; exact hszk _
   obtain ⟨tot, ht2⟩ : ∃ tot, RK.sz (k + 1) m = tot := ⟨_, rfl⟩
   rw [ht2] at htot hle ⊢
   have HG1 := Lib.hid hg
   have HTOT := Lib.hid htot
   have HENT := Lib.hid hent
   have HSTP := Lib.hid hstp
   have HKEY := Lib.hid hkey
   have HSP := Lib.hid hspz
   have HC1 := Lib.hid hc1
   have HBM := Lib.hid hbm
   have HL0 := Lib.hid hleft0
   have HZ0 := Lib.hid hz0
   have HRG := Lib.hid (fun (wx : World) (h : wx.heap[bm]? = some (.map es clock)) => run_range_map (P := Tryd.prog) wx 96 3 62 bm es clock Tryd.underlying96 h)
   have hszk1 := Lib.hid hszk
   clear hg htot hent hstp hkey hspz hc1 hbm hleft0 hz0 hrg hszk ih hsup hsv0 hsp0 hmap0 hg0 hbw ha hb ha' hb' hA ht2
   go_enter Tryd.func126, Tryd.ntmps126
   go_wp2_with fail
   refine (HC1.out w (Below.refl _ _)).mono ?_
   rintro e w1 ⟨rfl, B1⟩
   have hg1 := (B1.block g hgs).trans HG1.out
   have hbm1 := (B1.block bm hbms).trans HBM.out
   clear c0 c1 c2 c3 c4
   obtain ⟨c0, c1, c2, c3, c4⟩ := row5 hg1
   have hrg := HRG.out w1 hbm1
   have hr0 : (w1.alloc (.mapIter (some bm) clock #[] clock)).heap[w1.heap.size]? = some (.mapIter (some bm) clock #[] clock) := heap_alloc_new _ _
   have B2 : Below w.heap.size w (w1.alloc (.mapIter (some bm) clock #[] clock)) := B1.alloc B1.size _
   have zr1 := B1.size
   have HR0 := Lib.hid hr0
   clear hg1 hbm1 hr0 hm1 hf1
   go_upto_region 3 with fail
   clear hrg c0 c1 c2 c3 c4
   go_loopw [3] (fun x wr => ∃ (n : Nat) (seen : Array Nat) (left : Nat → Bool), x = .int .i64 (n : Int) ∧ Hid (n = 1 + A + RK.sumN (fun s => if left s = true then 0 else RK.sz k (RK.spot k m a' s)) (RK.R k)) ∧ n ≤ tot ∧ Hid (∀ s : Nat, left s = true ↔ ∃ e ∈ (leftOf es seen).toList, e.key = .int .i64 (s : Int)) ∧ Hid (wr.heap[w1.heap.size]? = some (.mapIter (some bm) clock seen clock)) ∧ Below w.heap.size w wr) (fun _ wr => (leftOf es (wr.iterSeen w1.heap.size)).size)
   case atStart => exact ⟨1 + A, #[], RK.shelves k m a', by simp, Lib.hid (by rw [HZ0.out]; rfl), by have := HTOT.out; omega, HL0, HR0, B2⟩
   case round =>
    clear B2 HR0
    obtain ⟨n, seen, left, rfl, HN, hnt, HLF, HR, B⟩ := hrel
    have zr := B.size
    have hbmr := (B.block bm hbms).trans HBM.out
    rcases run_next_at (P := Tryd.prog) wr 0 w1.heap.size bm clock clock seen es clock HR.out hbmr HSTP.out.1 (Nat.le_refl _) with ⟨h0, hrun⟩ | ⟨e, he, w2, hal, hrun⟩
    ·
     have hnx : ∀ ty, (Instr.next (.pointer (some ⟨w1.heap.size, 0, none⟩)) false ty).run Tryd.prog wr = _ := fun _ => hrun
     have hfin : n = tot := by
      rw [HN.out, HTOT.out]
      congr 1
      refine RK.sumN_congr _ fun s _ => ?_
      rw [if_neg]
      intro h
      obtain ⟨e, he, -⟩ := (HLF.out s).1 h
      have : 0 < (leftOf es seen).toList.length := List.length_pos_of_mem he
      simp at this
      omega
     subst hfin
     clear hrun h0 hbmr
     go_wp2_with fail
     go_ret
     exact ⟨rfl, B⟩
    ·
     obtain ⟨s, hks, hsh, hvs⟩ := HKEY.out e (mem_lft.1 he).1
     have hw2 : Below w.heap.size w w2 := by
      rcases hal with h | h
      ·
       rw [h]; exact B
      ·
       rw [h]; exact bl_drewN B 1
     have hr2 : w2.heap[w1.heap.size]? = some (.mapIter (some bm) clock seen clock) := by
      rcases hal with h | h
      ·
       rw [h]; exact HR.out
      ·
       rw [h]; exact HR.out
     have hbm2 : w2.heap[bm]? = some (.map es clock) := by
      rcases hal with h | h
      ·
       rw [h]; exact hbmr
      ·
       rw [h]; exact hbmr
     obtain ⟨w3, h3⟩ : ∃ wx, wx = setBlock w2 w1.heap.size (.mapIter (some bm) clock (seen.push e.born) clock) := ⟨_, rfl⟩
     have hr3 : w3.heap[w1.heap.size]? = some (.mapIter (some bm) clock (seen.push e.born) clock) := by rw [h3]; exact blk_setBlock hr2
     have hbm3 : w3.heap[bm]? = some (.map es clock) := by rw [h3, blk_setOther (by omega : bm ≠ w1.heap.size)]; exact hbm2
     have B3 : Below w.heap.size w w3 := by rw [h3]; exact bl_setBlock _ hw2 zr1
     have hen := run_entry_at (P := Tryd.prog) w3 w1.heap.size bm clock seen es clock e hr3 hbm3 (mem_lft.1 he).1 HSTP.out.2
     obtain ⟨fn2, rv2, ⟨tt2, xx2, hsv2, hm2, hf2⟩, hc2⟩ := HSP.out s hsh
     rw [hks, hvs, hsv2] at hrun hen
     rw [← h3] at hrun
     have hnx : ∀ ty, (Instr.next (.pointer (some ⟨w1.heap.size, 0, none⟩)) false ty).run Tryd.prog wr = _ := fun _ => hrun
     have hsR := RK.shelves_supp k m a' s hsh
     have hls : left s = true := (HLF.out s).2 ⟨e, he, hks⟩
     obtain ⟨c, hc⟩ : ∃ c, RK.sz k (RK.spot k m a' s) = c := ⟨_, rfl⟩
     have hcle : c ≤ 1000 := by rw [← hc]; exact hszk1.out _
     have hupd := RK.sumN_upd (f := fun t => if left t = true then 0 else RK.sz k (RK.spot k m a' t)) (g := fun t => if (left t && !decide (t = s)) = true then 0 else RK.sz k (RK.spot k m a' t)) (s := s) (c := c) (fun t ht => by simp [ht]) (by simp [hls, hc]) (RK.R k)
     rw [if_pos hsR] at hupd
     have hmono := RK.sumN_mono (f := fun t => if (left t && !decide (t = s)) = true then 0 else RK.sz k (RK.spot k m a' t)) (g := fun t => RK.sz k (RK.spot k m a' t)) (fun t => by
      split
      ·
       exact Nat.zero_le _
      ·
       exact Nat.le_refl _) (RK.R k)
     have HN2 := Lib.hid (show n + c = 1 + A + RK.sumN (fun t => if (left t && !decide (t = s)) = true then 0 else RK.sz k (RK.spot k m a' t)) (RK.R k) by rw [hupd, HN.out]; omega)
     have hnc : n + c ≤ tot := by rw [HN2.out, HTOT.out]; omega
     have HLF2 := Lib.hid (show ∀ t : Nat, (left t && !decide (t = s)) = true ↔ ∃ e' ∈ (leftOf es (seen.push e.born)).toList, e'.key = .int .i64 (t : Int) from fun t => by
      rw [left_step HENT.out HSTP.out he, hks, ← HLF.out t]
      have h1 : (Value.int .i64 (t : Int) ≠ Value.int .i64 (s : Int)) ↔ t ≠ s := by
       constructor
       ·
        intro h h'; exact h (by rw [h'])
       ·
        intro h h'
        have : (t : Int) = (s : Int) := by simpa using h'
        omega
      rw [h1]
      simp [and_comm])
     rw [hc] at hc2
     have HC2 := Lib.hid hc2
     have HSH := Lib.hid he
     have HR3 := Lib.hid hr3
     clear hrun hal hw2 hr2 hbm2 h3 hbm3 hc2 hks hvs hsv2 hsh hls hupd hmono hc hbmr he hr3
     go_wp2_with fail
     refine (HC2.out w3 B3).mono ?_
     rintro e2 w4 ⟨rfl, hb⟩
     have B4 : Below w.heap.size w w4 := bl_call B3 hb B3.size
     have HR4 := Lib.hid ((hb.block w1.heap.size (blk_lt HR3.out)).trans HR3.out)
     clear hb hm2 hf2 hen hnx
     go_wp2_with fail
     go_roundw
     case rel => exact ⟨n + c, seen.push e.born, fun t => left t && !decide (t = s), (by simp), HN2, hnc, HLF2, HR4, B4⟩
     case measure =>
      simp only [World.iterSeen, HR.out, HR4.out]
      exact left_shrinks es seen e HSH.out
end Go.Proofs.YtpnfmbeccjehiaaDoor
/- Size: the number of shapes of a text. -/
namespace Go.Proofs.YtpnfmbeccjehiaaDoor
open Go.RowKit
attribute [local go_sem ↓] Go.wp_at_zero Go.wp_at_succ
namespace RK
/-- the number of shapes of a text that is a shape of the order k or of a greater one -/
def sizeFrom (l : List UInt8) : Nat → Nat → Option Nat
 | 0, _ => none
 | d + 1, k => match readOf k l with
  | some m => some (sz k m)
  | none => sizeFrom l d (k + 1)
def sizeOf (l : List UInt8) : Option Nat := sizeFrom l 4 0
end RK
set_option maxRecDepth 100000 in
set_option maxHeartbeats 4000000 in
theorem size1_yes (k : Nat) (l : List UInt8) (m : RK.S) (gs go gt : Nat) (w : World) (hk : k ≤ 3) (hl : l.length ≤ 1000000) (ht : Tab w) (hm : RK.readOf k l = some m)
  (hs : w.heap[gs]? = some (.cells #[.string ⟨l.toArray⟩] 9 (0, 0))) (ho : w.heap[go]? = some (.cells #[.int .i64 (k : Int)] 3 (0, 0))) (hg : w.heap[gt]? = some (.cells #[.int .i64 0] 3 (0, 0))) :
  Calls Tryd.prog 48 #[.pointer (some ⟨gs, 0, none⟩), .pointer (some ⟨go, 0, none⟩), .pointer (some ⟨gt, 0, none⟩)] w fun e w' => e = .returned (.tuple #[]) ∧ BelX [gt] w w' ∧
   w'.heap[gt]? = some (.cells #[.int .i64 (RK.sz k m : Int)] 3 (0, 0)) := by
 have HRD : Hid (∀ wx, Tab wx → Calls Tryd.prog 40 #[.string ⟨l.toArray⟩, .int .i64 (k : Int)] wx fun e w' => ∃ v F, e = .returned v ∧ Rep ty k w' v m F ∧ (∀ c, F c → wx.heap.size ≤ c) ∧ Below wx.heap.size wx w') := Lib.hid fun wx hx => (read_any k l wx hk hl hx).mono fun e w' h => by
  rcases h with ⟨h, -⟩ | ⟨m', v, F, h1, h2⟩
  ·
   rw [hm] at h; cases h
  ·
   rw [hm] at h1
   obtain rfl := Option.some.inj h1
   exact ⟨v, F, h2⟩
 obtain ⟨S, hS⟩ : ∃ S : ByteArray, ⟨l.toArray⟩ = S := ⟨_, rfl⟩
 rw [hS] at HRD hs
 have cs := row1_0 hs
 have co := row1_0 ho
 have HG := Lib.hid hg
 have HT := Lib.hid ht
 clear hm hS ht hs ho hg
 go_enter Tryd.func48, Tryd.ntmps48
 go_wp2_with fail
 refine (HRD.out w HT.out).mono ?_
 rintro e w1 ⟨v, F, rfl, hR, -, hB⟩
 obtain ⟨fn, rv, ⟨tt, xx, rfl, hm, hf⟩, hc⟩ := size_any k v m F w1 hk hR
 have HC := Lib.hid (hc w1 (Below.refl _ _))
 have HB := Lib.hid hB
 clear hc hR hB cs co
 go_wp2_with fail
 refine HC.out.mono ?_
 rintro e w2 ⟨rfl, hb⟩
 have HB2 := Lib.hid (bl_call HB.out hb HB.out.size)
 have hg2 := (HB2.out.block gt (blk_lt HG.out)).trans HG.out
 have HG2 := Lib.hid hg2
 have kc := row1_0 hg2
 have kf := row_f hg2
 clear hb hg2
 go_wp2_with fail
 go_end0
 exact ⟨rfl, (BelX.setOld (p := ⟨gt, 0, none⟩) ⟨HB2.out.os, HB2.out.tape, HB2.out.output, HB2.out.size, fun c hc _ => HB2.out.block c hc⟩ (by simp) _), blk_set1 HG2.out⟩
set_option maxRecDepth 100000 in
set_option maxHeartbeats 4000000 in
theorem size1_no (k : Nat) (l : List UInt8) (gs go gt : Nat) (w : World) (hk : k ≤ 3) (hl : l.length ≤ 1000000) (ht : Tab w) (hm : RK.readOf k l = none)
  (hs : w.heap[gs]? = some (.cells #[.string ⟨l.toArray⟩] 9 (0, 0))) (ho : w.heap[go]? = some (.cells #[.int .i64 (k : Int)] 3 (0, 0))) :
  Calls Tryd.prog 48 #[.pointer (some ⟨gs, 0, none⟩), .pointer (some ⟨go, 0, none⟩), .pointer (some ⟨gt, 0, none⟩)] w fun e w' => e = trouble 4 ∧ BelX [] w w' := by
 have HRD : Hid (∀ wx, Tab wx → Calls Tryd.prog 40 #[.string ⟨l.toArray⟩, .int .i64 (k : Int)] wx fun e w' => e = trouble 4 ∧ Below wx.heap.size wx w') := Lib.hid fun wx hx => (read_any k l wx hk hl hx).mono fun e w' h => by
  rcases h with ⟨-, h⟩ | ⟨m', v, F, h1, h2⟩
  ·
   exact h
  ·
   rw [hm] at h1; cases h1
 obtain ⟨S, hS⟩ : ∃ S : ByteArray, ⟨l.toArray⟩ = S := ⟨_, rfl⟩
 rw [hS] at HRD hs
 have cs := row1_0 hs
 have co := row1_0 ho
 have HT := Lib.hid ht
 clear hm hS ht hs ho
 go_enter Tryd.func48, Tryd.ntmps48
 go_wp2_with (first | (go_at_call 40; refine (HRD.out w HT.out).mono ?_; rintro e w2 ⟨rfl, hB⟩) | fail)
 exact ⟨rfl, rfl, hB.os, hB.tape, hB.output, hB.size, fun c hc _ => hB.block c hc⟩
theorem enter_size1 (x y z : Value) : ∀ w, (callFunc 48 #[x, y, z]).run Tryd.prog w = .ok (.enter 48 #[x, y, z]) w := fun w => by kernel_rfl
/-- what Size returns -/
def sizeT : Option Nat → Value
 | some n => .tuple #[.int .i64 (n : Int), .int .i64 0]
 | none => .tuple #[.int .i64 0, .int .i64 4]
set_option maxRecDepth 100000 in
set_option maxHeartbeats 8000000 in
theorem Size_any (l : List UInt8) (w : World) (hl : l.length ≤ 1000000) (ht : Tab w) :
  Calls Tryd.prog 29 #[.string ⟨l.toArray⟩] w fun e w' => e = .returned (sizeT (RK.sizeOf l)) ∧ Below w.heap.size w w' := by
 have hmf : ∀ (fn : Fn) (first cap : Array Value) (w : World), (Instr.makeFunc fn first cap).run Tryd.prog w = .ok (.func fn first cap) w := fun _ _ _ _ => rfl
 have HL := Lib.hid hl
 have HT := Lib.hid ht
 have HR := Lib.hid (show RK.sizeOf l = RK.sizeFrom l (4 - 0) 0 from rfl)
 obtain ⟨res, hres⟩ : ∃ r, RK.sizeOf l = r := ⟨_, rfl⟩
 rw [hres] at HR ⊢
 obtain ⟨S, hS⟩ : ∃ S : ByteArray, ⟨l.toArray⟩ = S := ⟨_, rfl⟩
 have HS := Lib.hid hS
 rw [hS]
 clear ht hS hres
 go_enter Tryd.func29, Tryd.ntmps29
 have X0 := Lib.hid (blk_new w (.cells #[.string S] 9))
 have B0 : Below w.heap.size w (w.alloc (.cells #[.string S] 9)) := (Below.refl _ _).alloc (Nat.le_refl _) _
 go_upto_region 2 with fail
 go_loopw [7] (fun i wr => ∃ j : Nat, i = .int .i64 (j : Int) ∧ j ≤ 4 ∧ Hid (res = RK.sizeFrom l (4 - j) j) ∧ Hid (wr.heap[w.heap.size]? = some (.cells #[.string S] 9 (0, 0))) ∧ Below w.heap.size w wr) (fun i _ => 4 - (intOf i).toNat)
 case atStart => exact ⟨0, (by simp), by omega, HR, X0, B0⟩
 case round =>
  clear HR X0 B0
  obtain ⟨j, rfl, hj, HR, HX, B⟩ := hrel
  have zr := B.size
  have zx := blk_lt HX.out
  by_cases hj4 : j < 4
  ·
   cases hro : RK.readOf j l with
   | some m =>
    have hrs : res = some (RK.sz j m) := by
     rw [HR.out, show 4 - j = (3 - j) + 1 by omega, RK.sizeFrom, hro]
    subst hrs
    have HM := Lib.hid hro
    obtain ⟨w2, h2⟩ : ∃ w2, w2 = (wr.alloc (.cells #[.int .i64 (j : Int)] 3)).alloc (.cells #[.int .i64 0] 3) := ⟨_, rfl⟩
    have X2 : w2.heap[w.heap.size]? = some (.cells #[.string S] 9 (0, 0)) := by rw [h2]; exact blk_old (blk_old HX.out)
    have Y2 : w2.heap[wr.heap.size]? = some (.cells #[.int .i64 (j : Int)] 3 (0, 0)) := by rw [h2]; exact blk_old (blk_new _ _)
    have Z2 : w2.heap[wr.heap.size + 1]? = some (.cells #[.int .i64 0] 3 (0, 0)) := by rw [h2]; have h := blk_new (wr.alloc (.cells #[.int .i64 (j : Int)] 3)) (.cells #[.int .i64 0] 3); simpa using h
    have B2 : Below w.heap.size w w2 := by rw [h2]; exact (B.alloc B.size _).alloc (by simp; omega) _
    have hz := blk_lt Z2
    have HX2 := Lib.hid X2
    have HY2 := Lib.hid Y2
    have HZ2 := Lib.hid Z2
    clear X2 Y2 Z2
    clear hro HR
    go_upto_region 5 with fail
    rw [← h2]
    clear h2
    go_wp2_with fail
    refine (guard_ok 48 _ [wr.heap.size + 1] w2 (fun w' => w'.heap[wr.heap.size + 1]? = some (.cells #[.int .i64 (RK.sz j m : Int)] 3 (0, 0))) (by simp; omega) (enter_size1 _ _ _) ?_ ?_).mono ?_
    ·
     exact size1_yes j l m _ _ _ _ (by omega) HL.out ((HT.out.below B2).below (by repeat (first | exact Below.refl _ _ | exact Nat.le_refl _ | refine Below.alloc ?_ ?_ _ | refine Below.setCell ?_ ?_ _ | refine Below.drew ?_ | refine bl_drewN ?_ _ | (assumption) | refine bl_call ?_ (by assumption) ?_ | omega | (simp <;> omega)))) HM.out (by rw [HS.out]; exact blk_old HX2.out) (blk_old HY2.out) (blk_old HZ2.out)
    ·
     intro u v hu huv
     exact (huv.block _ (blk_lt hu) (by simp; omega)).trans hu
    ·
     rintro e w3 ⟨rfl, hX, hS3⟩
     have B3 : Below w.heap.size w w3 := hX.below B2 (by omega) (by simp; omega)
     have c0 := row1_0 hS3
     clear hX hS3
     go_wp2_with fail
     exact bodyPost_ret (v := .tuple #[.int .i64 (RK.sz j m : Int), .int .i64 0]) (by simp [results, Tryd.results29, go_sem, *]) rfl ⟨rfl, B3⟩
   | none =>
    have hrs := Lib.hid (show res = RK.sizeFrom l (4 - (j + 1)) (j + 1) by
     rw [HR.out, show 4 - j = (4 - (j + 1)) + 1 by omega, RK.sizeFrom, hro])
    have HM := Lib.hid hro
    obtain ⟨w2, h2⟩ : ∃ w2, w2 = (wr.alloc (.cells #[.int .i64 (j : Int)] 3)).alloc (.cells #[.int .i64 0] 3) := ⟨_, rfl⟩
    have X2 : w2.heap[w.heap.size]? = some (.cells #[.string S] 9 (0, 0)) := by rw [h2]; exact blk_old (blk_old HX.out)
    have Y2 : w2.heap[wr.heap.size]? = some (.cells #[.int .i64 (j : Int)] 3 (0, 0)) := by rw [h2]; exact blk_old (blk_new _ _)
    have Z2 : w2.heap[wr.heap.size + 1]? = some (.cells #[.int .i64 0] 3 (0, 0)) := by rw [h2]; have h := blk_new (wr.alloc (.cells #[.int .i64 (j : Int)] 3)) (.cells #[.int .i64 0] 3); simpa using h
    have B2 : Below w.heap.size w w2 := by rw [h2]; exact (B.alloc B.size _).alloc (by simp; omega) _
    have hz := blk_lt Z2
    have HX2 := Lib.hid X2
    have HY2 := Lib.hid Y2
    have HZ2 := Lib.hid Z2
    clear X2 Y2 Z2
    clear hro HR
    go_upto_region 5 with fail
    rw [← h2]
    clear h2
    go_wp2_with fail
    refine (guard_panic 48 _ [] 4 w2 (fun w' => w'.heap[w.heap.size]? = some (.cells #[.string S] 9 (0, 0))) (by simp) (enter_size1 _ _ _) ?_ ?_).mono ?_
    ·
     refine (size1_no j l _ _ _ _ (by omega) HL.out ((HT.out.below B2).below (by repeat (first | exact Below.refl _ _ | exact Nat.le_refl _ | refine Below.alloc ?_ ?_ _ | refine Below.setCell ?_ ?_ _ | refine Below.drew ?_ | refine bl_drewN ?_ _ | (assumption) | refine bl_call ?_ (by assumption) ?_ | omega | (simp <;> omega)))) HM.out (by rw [HS.out]; exact blk_old HX2.out) (blk_old HY2.out)).mono ?_
     rintro e w' ⟨rfl, hX⟩
     exact ⟨rfl, hX, (hX.block _ (by simp; omega) (by simp)).trans (blk_old HX2.out)⟩
    ·
     intro u v hu huv
     exact (huv.block _ (blk_lt hu) (by simp; omega)).trans hu
    ·
     rintro e w3 ⟨rfl, hX, hS3⟩
     have B3 : Below w.heap.size w w3 := hX.below B2 (by omega) (by simp)
     have HS3 := Lib.hid hS3
     clear hX hS3
     go_wp2_with fail
     go_roundw
     case rel => exact ⟨j + 1, (by simp), by omega, hrs, HS3, B3⟩
     case measure => simp [intOf] <;> omega
  ·
   obtain rfl : j = 4 := by omega
   have hrs : res = none := HR.out
   subst hrs
   go_wp2_with fail
   exact bodyPost_ret (v := .tuple #[.int .i64 0, .int .i64 4]) (by simp [results, Tryd.results29, go_sem, *]) rfl ⟨rfl, B⟩
end Go.Proofs.YtpnfmbeccjehiaaDoor
/- Size of the shape of a set. -/
namespace Go.Proofs.YtpnfmbeccjehiaaDoor.RK
/-- of the colons of a text, n are not behind a bar's number -/
def Bal (l : List UInt8) (n : Nat) : Prop := l.count 58 = n + l.count 124
theorem Bal.app {l l' : List UInt8} {n n' : Nat} (h : Bal l n) (h' : Bal l' n') : Bal (l ++ l') (n + n') := by
 unfold Bal at *
 rw [List.count_append, List.count_append]; omega
theorem bal_dec {a : Nat} (h : a < 256) : Bal (dec a) 0 := by
 unfold Bal
 have hd := (dec_facts h).1
 have h0 : ∀ c : UInt8, isD c = false → (dec a).count c = 0 := fun c hc => List.count_eq_zero.2 fun hm => by
  rw [hd c hm] at hc; cases hc
 rw [h0 58 (by decide), h0 124 (by decide)]
theorem bal_colon {l : List UInt8} {n : Nat} (h : Bal l n) : Bal (58 :: l) (n + 1) := by
 unfold Bal at *
 rw [List.count_cons_self, List.count_cons_of_ne (by decide)]; omega
theorem bal_other {c : UInt8} {l : List UInt8} {n : Nat} (h1 : c ≠ 58) (h2 : c ≠ 124) (h : Bal l n) : Bal (c :: l) n := by
 unfold Bal at *
 rw [List.count_cons_of_ne h1, List.count_cons_of_ne h2]; exact h
theorem bal_bar {l : List UInt8} {n : Nat} (h : Bal l (n + 1)) : Bal (124 :: l) n := by
 unfold Bal at *
 rw [List.count_cons_self, List.count_cons_of_ne (by decide)]; omega
theorem bal_flat {f : Nat → List UInt8} {g : Nat → Nat} : ∀ n, (∀ s, s < n → Bal (f s) (g s)) → Bal ((List.range n).flatMap f) (sumN g n)
 | 0, _ => by simp [Bal, sumN]
 | n + 1, h => by
  rw [List.range_succ, List.flatMap_append, sumN]
  refine (bal_flat n fun s hs => h s (by omega)).app ?_
  simpa using h n (by omega)
theorem bal_shT : ∀ (k : Nat), k ≤ 3 → ∀ {m : S}, Supp k m → Bal (shT k m) (sz k m)
 | 0, hk, m, hs => by
  rcases ends_or hs with ⟨he, -⟩ | ⟨a, b, ha, hb, -⟩
  ·
   rw [shT_emp hs he, sz_emp hs he]; simp [Bal]
  ·
   have h0 : R 0 = 2 := rfl
   have := hs a ha.1
   have := hs b hb.1
   rw [shT_zero hs ha hb, sz_zero hs ha]
   exact (bal_dec (by omega)).app (bal_colon (bal_dec (by omega)))
 | k + 1, hk, m, hs => by
  rcases ends_or hs with ⟨he, -⟩ | ⟨a, b, ha, hb, e1, e2⟩
  ·
   rw [shT_emp hs he, sz_emp hs he]; simp [Bal]
  ·
   have hR := R_le hk
   have hR2 := R_le (k := k) (by omega)
   have := hs a ha.1
   have := hs b hb.1
   rw [sz_succ hs ha, shT, e1, e2]
   dsimp only
   have hS : Bal (if mn k (shelves k m a) = none then [] else shT k (shelves k m a)) (sz k (shelves k m a)) := by
    split
    ·
     rename_i h
     rw [sz_emp (shelves_supp k m a) ((mn_none (shelves_supp k m a)).1 h)]; simp [Bal]
    ·
     exact bal_shT k (by omega) (shelves_supp k m a)
   have hF : Bal ((List.range (R k)).flatMap (fun s => if shelves k m a s = true then 124 :: (dec s ++ 58 :: shT k (spot k m a s)) else [])) (sumN (fun s => sz k (spot k m a s)) (R k)) := bal_flat _ fun s hsR => by
    split
    ·
     have h1 := (bal_dec (a := s) (by omega)).app (bal_colon (bal_shT k (by omega) (spot_supp k m a s)))
     rw [Nat.zero_add] at h1
     exact bal_bar h1
    ·
     rename_i h
     rw [sz_emp (spot_supp k m a s) (shelf_none (by simpa using h) hsR)]; simp [Bal]
   have hE : Bal ([41] : List UInt8) 0 := by simp [Bal]
   have h2 := (bal_dec (a := a) (by omega)).app (bal_colon ((bal_dec (a := b) (by omega)).app (bal_other (c := 40) (by decide) (by decide) (hS.app (hF.app hE)))))
   have e : 0 + (0 + (sz k (shelves k m a) + (sumN (fun s => sz k (spot k m a s)) (R k) + 0)) + 1) = 1 + sz k (shelves k m a) + sumN (fun s => sz k (spot k m a s)) (R k) := by omega
   rw [e] at h2
   exact h2
theorem sz_text {o k : Nat} (ho : o ≤ 3) (hk : k ≤ 3) {m n : S} (hm : Supp o m) (hn : Supp k n) (h : shT o m = shT k n) : sz o m = sz k n := by
 have h1 := bal_shT o ho hm
 have h2 := bal_shT k hk hn
 unfold Bal at h1 h2
 rw [h] at h1
 omega
theorem sizeFrom_shT {k : Nat} (hk : k ≤ 3) {m : S} (hs : Supp k m) : ∀ (d j : Nat), j ≤ k → k < j + d → sizeFrom (shT k m) d j = some (sz k m)
 | 0, j, h1, h2 => by omega
 | d + 1, j, h1, h2 => by
  rw [sizeFrom]
  cases hr : readOf j (shT k m) with
  | some m' =>
   have h3 := readOf_some hr
   dsimp only
   rw [sz_text (by omega) hk h3.1 hs h3.2]
  | none =>
   dsimp only
   by_cases e : j = k
   ·
    rw [e, readOf_shT hk hs] at hr; cases hr
   ·
    exact sizeFrom_shT hk hs d (j + 1) (by omega) (by omega)
theorem sizeOf_shT {k : Nat} (hk : k ≤ 3) {m : S} (hs : Supp k m) : sizeOf (shT k m) = some (sz k m) := sizeFrom_shT hk hs 4 0 (by omega) (by omega)
end Go.Proofs.YtpnfmbeccjehiaaDoor.RK
