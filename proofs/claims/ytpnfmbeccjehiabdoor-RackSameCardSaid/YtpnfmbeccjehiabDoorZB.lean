/- A statement whose order is open, with one call that writes memory and whose value is told ahead: what is known of the world before and behind that call. -/
import Derived.Test.YtpnfmbeccjehiabDoorZ1
import Derived.Test.YtpnfmbeccjehiabDoorZ7
import Derived.Test.YtpnfmbeccjehiabDoorZA
namespace Go.Proofs.YtpnfmbeccjehiabDoor
open Go
open Go.RowKit
section
variable {P : Program} {Q : Exit → Act → World → Prop}

def StepsW (P : Program) (ops : Array Oper) (Q : Exit → Act → World → Prop) (a0 : Act) (J : Bool → World → Prop) (DV : List (Nat × Value)) (c : Nat) : Nat → List Oper → List (Nat × Value) → Prop
  | _, [], [] => True
  | k, o :: l, p :: r => (o.dst = some p.1 ∧ if k = c then
        (∀ a w', Agree a0 DV a → (∀ e ∈ o.after, Region.binds .any e = true → ∀ q, DV[e.on]? = some q → a.eval (.tmp q.1) = q.2) → J false w' → ∀ K : Act → World → Prop, (∀ w2, J true w2 → K (a.put (some p.1) p.2) w2) → StepG P ops Q o K a w')
      else
        (∀ b a w', Agree a0 DV a → (∀ e ∈ o.after, Region.binds .any e = true → ∀ q, DV[e.on]? = some q → a.eval (.tmp q.1) = q.2) → J b w' → ∀ K : Act → World → Prop, (∀ w2, J b w2 → K (a.put (some p.1) p.2) w2) → StepG P ops Q o K a w')) ∧
      StepsW P ops Q a0 J DV c (k + 1) l r
  | _, _, _ => False
def IW (a0 : Act) (J : Bool → World → Prop) (DV : List (Nat × Value)) (c : Nat) : (Nat → Bool) → Act → World → Prop :=
  fun s a w => Agree a0 DV a ∧ J (s c) w ∧ ∀ j p, DV[j]? = some p → s j = true → a.eval (.tmp p.1) = p.2
theorem stepsW_of {ops : Array Oper} {a0 : Act} {J : Bool → World → Prop} {DV : List (Nat × Value)} {c : Nat} (hn : (DV.map (·.1)).Nodup) (hsz : ∀ p ∈ DV, p.1 < a0.tmps.size) :
    ∀ (l : List Oper) (r : List (Nat × Value)) (k : Nat), (∀ i p, r[i]? = some p → DV[k + i]? = some p) → StepsW P ops Q a0 J DV c k l r → StepsI P ops Q (IW a0 J DV c) k l
  | [], _, _, _, _ => trivial
  | o :: l, [], _, _, h => h.elim
  | o :: l, p :: r, k, hr, h => by
    refine ⟨?_, stepsW_of hn hsz l r (k + 1) (fun i q hq => by rw [show k + 1 + i = k + (i + 1) by omega]; exact hr (i + 1) q hq) h.2⟩
    intro s a w hsk hdep hI K hK
    obtain ⟨hA, hJ, hV⟩ := hI
    have hpk : DV[k]? = some p := hr 0 p rfl
    have hagree : Agree a0 DV (a.put (some p.1) p.2) := ⟨fun t ht => by
      rw [eval_put_other (all_ne.1 ht p (List.mem_of_getElem? hpk))]
      exact hA.out t ht, by rw [put_size]; exact hA.size, by rw [put_defers]; exact hA.defers⟩
    have hvals : ∀ j q, DV[j]? = some q → (j == k || s j) = true → (a.put (some p.1) p.2).eval (.tmp q.1) = q.2 := fun j q hq hs => by
      by_cases hjk : j = k
      · subst hjk
        rw [hpk] at hq
        obtain rfl := Option.some.inj hq
        exact eval_put_same (by rw [hA.size]; exact hsz p (List.mem_of_getElem? hpk)) _
      · rw [eval_put_other (nodup_get hn hpk hq (Ne.symm hjk))]
        have : (j == k) = false := by simpa using hjk
        rw [this, Bool.false_or] at hs
        exact hV j q hq hs
    have h0 := h.1.2
    by_cases hkc : k = c
    · rw [if_pos hkc] at h0
      have hJ0 : J false w := by rw [← hkc, hsk] at hJ; exact hJ
      refine h0 a w hA (fun e he hb q hq => hV e.on q hq (hdep e he hb)) hJ0 K fun w2 hJ2 => hK _ _ ⟨hagree, ?_, hvals⟩
      dsimp only
      rw [← hkc, beq_self_eq_true, Bool.true_or]
      exact hJ2
    · rw [if_neg hkc] at h0
      refine h0 (s c) a w hA (fun e he hb q hq => hV e.on q hq (hdep e he hb)) hJ K fun w2 hJ2 => hK _ _ ⟨hagree, ?_, hvals⟩
      have : (c == k) = false := by simpa using Ne.symm hkc
      dsimp only
      rw [this, Bool.false_or]
      exact hJ2
theorem wp_region_inv2 {id : Nat} {l : List Oper} {a : Act} {w : World} (hm : P.follows .mixedOrders = true) (hdag : dagI 0 l = true) (J : Bool → World → Prop) (DV : List (Nat × Value)) (c : Nat) (hc : (decide (c < DV.length)) = true) (hlen : DV.length = l.length) (hn : (DV.map (·.1)).Nodup)
    (N : Nat) (hN : a.tmps.size = N) (hN2 : (DV.all fun p => decide (p.1 < N)) = true) (hJ : J false w.drew) (hs : StepsW P l.toArray Q a J DV c 0 l DV) (hd : ∀ w', J true w' → Q .normal (putL a DV) w') : (Code.region id l.toArray true).wp P Q a w := by
  have hc' := of_decide_eq_true hc
  have hsz : ∀ p ∈ DV, p.1 < a.tmps.size := fun p hp => by
    have := List.all_eq_true.1 hN2 p hp
    rw [hN]; simpa using this
  refine wp_region_inv hm hdag (IW a J DV c) ⟨⟨fun _ _ => rfl, rfl, rfl⟩, ?_, fun j p hj hs => ?_⟩ (stepsW_of hn hsz l DV 0 (fun i p h => by rw [Nat.zero_add]; exact h) hs) fun s a' w' hall hI => ?_
  · have : (decide (l.length ≤ c)) = false := by simp; omega
    simpa [this] using hJ
  · have := (List.getElem?_eq_some_iff.1 hj).1
    have h2 := of_decide_eq_true hs
    omega
  · obtain ⟨hA, hJ', hV⟩ := hI
    have e : a' = putL a DV := by
      refine act_ext (by rw [putL_size]; exact hA.size) (by rw [putL_defers]; exact hA.defers) fun t => ?_
      by_cases ht : ∀ p ∈ DV, p.1 ≠ t
      · rw [putL_out DV a t ht]; exact hA.out t (all_ne.2 ht)
      · obtain ⟨p, hp⟩ : ∃ p, p ∈ DV ∧ p.1 = t := by
          apply Classical.byContradiction
          intro h
          exact ht fun p hp e => h ⟨p, hp, e⟩
        obtain ⟨hp, rfl⟩ := hp
        rw [putL_in DV a hn hsz p hp]
        obtain ⟨j, hj⟩ := List.mem_iff_getElem?.1 hp
        exact hV j p hj (hall j (by have := (List.getElem?_eq_some_iff.1 hj).1; omega))
    rw [e]
    rw [hall c (by omega)] at hJ'
    exact hd w' hJ'
/-- a call that writes -/
theorem StepG.callW {ops : Array Oper} {o : Oper} {K : Act → World → Prop} {a : Act} {w : World} {v : Value} {d f : Nat} {args : Array Value} {R : World → Prop} (hg : Region.wanted o (yielded ops a.tmps) = true) (hd : o.dst = some d) (h : (execOp a.eval o).run P w = .ok (.enter f args) w)
    (hc : Calls P f args w fun e w' => e = .returned v ∧ R w') (hK : ∀ w', R w' → K (a.put (some d) v) w') : StepG P ops Q o K a w := by
  unfold StepG
  rw [if_pos hg]
  unfold Oper.wp
  rw [h, Oper.upon_enter]
  refine hc.mono ?_
  rintro e w' ⟨rfl, hR⟩
  rw [hd]
  exact hK w' hR
theorem bl_drw (w : World) : Below w.heap.size w w.drew := ⟨rfl, rfl, rfl, Nat.le_refl _, fun _ _ => rfl⟩
end
end Go.Proofs.YtpnfmbeccjehiabDoor
/- The reference's Delete as the kit's print tells it. -/
namespace Go.Proofs.YtpnfmbeccjehiabDoor.PR
open Go.RowKit Go.Proofs.YtpnfmbeccjehiabDoorW.PrintWords Go.Proofs.YtpnfmbeccjehiabDoorW.PrintLast Go.Proofs.YtpnfmbeccjehiabDoorW.PrintMore
attribute [local go_sem] max2_int min2_int max_two min_two max_three min_three max_four min_four
set_option linter.unusedVariables false
set_option linter.unusedSimpArgs false

/-! ### remouldref07_Delete: function 26 -/
def remouldref07_Delete.l0 : Nat → List Int → Int → List Int → Int → Option (List Int)
  | 0, _, _, _, _ => none
  | k + 1, x0, x1, x5, x6 => if x6 < (x0.length : Int) then (if 0 ≤ x6 then (if (rd x0 x6) = x1 then (remouldref07_Delete.l0 k x0 x1 x5 (wrap64 (x6 + 1))) else (if x5.length < 17592186044416 then (remouldref07_Delete.l0 k x0 x1 (x5 ++ [rd x0 x6]) (wrap64 (x6 + 1))) else (none))) else (none)) else (some x5)
def remouldref07_Delete.f (k : Nat) (l0 : List Int) (a1 : Int) : Option (List Int) := remouldref07_Delete.l0 k l0 a1 ([] : List Int) 0
theorem remouldref07_Delete.mono_l : ∀ k, (∀ y0 y1 y2 y3, LeO (remouldref07_Delete.l0 k y0 y1 y2 y3) (remouldref07_Delete.l0 (k + 1) y0 y1 y2 y3))
  | 0 => fun _ _ _ _ r h => by simp [remouldref07_Delete.l0] at h
  | k + 1 => by
    have ih0 := remouldref07_Delete.mono_l k
    · intro y0 y1 y2 y3
      unfold remouldref07_Delete.l0
      repeat' first
      | (with_reducible exact ih0 _ _ _ _)
      | (with_reducible exact LeO.refl _)
      | (with_reducible exact LeO.none _)
      | (with_reducible refine LeO.ite ?_ ?_)
      | (with_reducible refine LeO.bind ?_ (fun _ => ?_))
      | exact ih0 _ _ _ _
      | exact LeO.none _
      | refine LeO.ite ?_ ?_
      | refine LeO.bind ?_ (fun _ => ?_)
theorem remouldref07_Delete.mono : ∀ a0 a1 k, LeO (remouldref07_Delete.f k a0 a1) (remouldref07_Delete.f (k + 1) a0 a1) := by
  intro a0 a1 k
  have ih0 := remouldref07_Delete.mono_l k
  unfold remouldref07_Delete.f
  repeat' first
      | (with_reducible exact ih0 _ _ _ _)
      | (with_reducible exact LeO.refl _)
      | (with_reducible exact LeO.none _)
      | (with_reducible refine LeO.ite ?_ ?_)
      | (with_reducible refine LeO.bind ?_ (fun _ => ?_))
      | exact ih0 _ _ _ _
      | exact LeO.none _
      | refine LeO.ite ?_ ?_
      | refine LeO.bind ?_ (fun _ => ?_)
set_option maxHeartbeats 8000000 in
set_option maxRecDepth 100000 in
theorem remouldref07_Delete.calls (k : Nat) (A0 : Option Addr) (c0 : Nat) (l0 : List Int) (a1 : Int) (r : List Int) (w : World) (hr0 : Kd.C (Kd.int .i64) w A0 l0.length l0) (hc0 : l0.length ≤ c0) (h : remouldref07_Delete.f k l0 a1 = some r) :
    Calls Tryd.prog 26 #[.slice A0 l0.length c0, .int .i64 a1] w fun e w' => ∃ v0_ : Value, e = .returned (v0_) ∧ Kd.R (Kd.int .i64) 3 w' w.heap.size (fun _ => True) v0_ r ∧ Below w.heap.size w w' := by
  have HR0 := Aside0.mk hr0
  have HC0 := Aside0.mk hc0
  clear hr0 hc0
  have HB := Aside0.mk (Below.refl w.heap.size w)
  have H : (remouldref07_Delete.l0 k l0 a1 ([] : List Int) 0) = some r := h
  clear h
  have H' := Aside0.mk H
  clear H
  go_enter Tryd.func26, Tryd.ntmps26
  go_wp2
  go_loopg [5, 6] k (fun kq v5 v6 w' => ∃ (x5_1 : List Int) (x6_1 : Int), v6 = .int .i64 x6_1 ∧ Aside0 (remouldref07_Delete.l0 kq l0 a1 x5_1 x6_1 = some r) ∧ Aside0 (kq ≤ k) ∧ Aside0 (Kd.R (Kd.int .i64) 3 w' w.heap.size (fun _ => True) v5 x5_1) ∧ Aside0 (Below w.heap.size w w'))
  case atStart => exact ⟨(([] : List Int)), (0), (by first | rfl | (simp; done) | (simp [*]; done)), H', ⟨Nat.le_refl _⟩, ⟨by first | exact Kd.R_nil _ _ _ _ _ | exact Kd.N_nil _ _ _ _ _ | exact Kd.V_nil _ _ _ _ _ | exact Kd.Q_nil _ _ _ _ _ | exact Kd.S_nil _ _ _ _ _⟩, ⟨by repeat (first | (with_reducible first | exact HB.out | apply below_alloc | apply pw_below_drewN | apply below_drew1) | exact HB.out)⟩⟩
  case round =>
    clear H'
    try clear c2
    try clear p2
    obtain ⟨x5_1, x6_1, rfl, HA, HK1, HO_5, HB⟩ := hrel
    cases gk with
    | zero => exact absurd HA.out (by simp [remouldref07_Delete.l0])
    | succ k1 =>
      have H := HA.out
      clear HA
      simp only [remouldref07_Delete.l0] at H
      by_cases c3 : x6_1 < (l0.length : Int)
      · rw [if_pos c3] at H
        have c3b0 : decide (x6_1 < (l0.length : Int)) = true := decide_eq_true c3
        clear c3
        by_cases c4 : 0 ≤ x6_1
        · rw [if_pos c4] at H
          have c4b0 : decide (0 ≤ x6_1) = true := decide_eq_true c4
          clear c4
          by_cases c5 : (rd l0 x6_1) = a1
          · rw [if_pos c5] at H
            have c5b0 : ((rd l0 x6_1) == a1) = true := beq_iff_eq.mpr c5
            have c5b1 : ((rd l0 x6_1) != a1) = false := bne_eq_false_iff_eq.mpr c5
            clear c5
            have H' := Aside0.mk H
            clear H
            have p140 : 0 ≤ (x6_1 : Int) := of_decide_eq_true (by first | (with_reducible assumption) | assumption)
            have q140 : x6_1 < (l0.length : Int) := of_decide_eq_true (by first | (with_reducible assumption) | assumption)
            obtain ⟨ad140, e140, hx140_0⟩ := Kd.at_int HR0.out x6_1 p140 q140
            cases e140
            replace hx140_0 := (HB.out.cell (World.block_lt_of_cell? w _ hx140_0)).trans hx140_0
            replace p140 := eq_true p140
            replace q140 := eq_true q140
            go_wp2
            go_roundg k1
            case measure => have := HK1.out; omega
            case rel => exact ⟨(x5_1), (wrap64 (x6_1 + 1)), (by first | rfl | (simp; done) | (simp [*]; done)), H', ⟨by have := HK1.out; omega⟩, ⟨by (with_reducible repeat (first | apply Kd.R_alloc | apply Kd.R_drewN | apply Kd.R_drew)); exact HO_5.out⟩, ⟨by repeat (first | (with_reducible first | exact HB.out | apply below_alloc | apply pw_below_drewN | apply below_drew1) | exact HB.out)⟩⟩
          · rw [if_neg c5] at H
            have c5b0 : ((rd l0 x6_1) == a1) = false := beq_eq_false_iff_ne.mpr c5
            have c5b1 : ((rd l0 x6_1) != a1) = true := bne_iff_ne.mpr c5
            by_cases c6 : x5_1.length < 17592186044416
            · rw [if_pos c6] at H
              have LMc6 := Aside0.mk c6
              clear c6
              obtain ⟨y142, hy142⟩ : ∃ y_ : List Int, y_ = (x5_1 ++ [rd l0 x6_1]) := ⟨_, rfl⟩
              replace H : (remouldref07_Delete.l0 k1 l0 a1 y142 (wrap64 (x6_1 + 1))) = some r := by first | (rw [hy142]; with_reducible exact H) | (have H2_ := (Option.bind_some _ _).symm.trans H; rw [hy142]; with_reducible exact H2_) | (have H2_ := (Option.bind_some _ _).symm.trans H; with_reducible exact H2_) | with_reducible exact H | (rw [hy142]; exact H) | exact H
              have Ny142 := Aside0.mk hy142
              clear hy142
              have H' := Aside0.mk H
              clear H
              have p140 : 0 ≤ (x6_1 : Int) := of_decide_eq_true (by first | (with_reducible assumption) | assumption)
              have q140 : x6_1 < (l0.length : Int) := of_decide_eq_true (by first | (with_reducible assumption) | assumption)
              obtain ⟨ad140, e140, hx140_0⟩ := Kd.at_int HR0.out x6_1 p140 q140
              cases e140
              replace hx140_0 := (HB.out.cell (World.block_lt_of_cell? w _ hx140_0)).trans hx140_0
              replace p140 := eq_true p140
              replace q140 := eq_true q140
              have p141 : 0 ≤ (x6_1 : Int) := of_decide_eq_true (by first | (with_reducible assumption) | assumption)
              have q141 : x6_1 < (l0.length : Int) := of_decide_eq_true (by first | (with_reducible assumption) | assumption)
              obtain ⟨ad141, e141, hx141_0⟩ := Kd.at_int HR0.out x6_1 p141 q141
              obtain rfl : ad140 = ad141 := (by injection e141)
              replace hx141_0 := (HB.out.cell (World.block_lt_of_cell? w _ hx141_0)).trans hx141_0
              replace p141 := eq_true p141
              replace q141 := eq_true q141
              go_wp2_with (first | ((with_reducible refine gate_builtin (b := .append) (xs := #[.tmp 19, .tmp 24]) rfl ?_); at_builtin; refine Kd.R_append (Kd.int .i64) (w0 := w) w.heap.size rfl (.tmp 19) (.tmp 24) 22 3 (.int .i64 0) 8 rfl Tryd.underlying22 info3 rfl (by decide) (by omega) u5 x5_1 (rd l0 x6_1) [.int .i64 (rd l0 x6_1)] (fun _ => True) (fun _ => False) rfl rfl ?aP (fun _ hk => hk.elim) ?aF ?aO ?aB ?aS ?aL ?_; (case aP => exact rfl); (case aB => exact (by repeat (first | (with_reducible first | exact HB.out | apply below_alloc | apply pw_below_drewN | apply below_drew1) | exact HB.out))); (case aF => exact (fun _ _ => trivial)); (case aO => exact (by (with_reducible repeat (first | apply Kd.R_alloc | apply Kd.R_drewN | apply Kd.R_drew)); exact HO_5.out)); (case aS => exact (below_size (by repeat (first | (with_reducible first | exact HB.out | apply below_alloc | apply pw_below_drewN | apply below_drew1) | exact HB.out)))); (case aL => have := LMc6.out; omega); intro v143 w7 ho hb hg hat; rw [← Ny142.out] at ho; have n0_ := Aside0.mk (hb); have n1_ := Aside0.mk (ho); clear HB; clear HO_5; have HB := n0_; have HO144 := n1_; clear n0_ n1_; clear ho hb hg hat))
              go_roundg k1
              case measure => have := HK1.out; omega
              case rel => exact ⟨(y142), (wrap64 (x6_1 + 1)), (by first | rfl | (simp; done) | (simp [*]; done)), H', ⟨by have := HK1.out; omega⟩, ⟨by (with_reducible repeat (first | apply Kd.R_alloc | apply Kd.R_drewN | apply Kd.R_drew)); exact HO144.out⟩, ⟨by repeat (first | (with_reducible first | exact HB.out | apply below_alloc | apply pw_below_drewN | apply below_drew1) | exact HB.out)⟩⟩
            · rw [if_neg c6] at H
              exact absurd H (by simp)
        · rw [if_neg c4] at H
          exact absurd H (by simp)
      · rw [if_neg c3] at H
        have c3b0 : decide (x6_1 < (l0.length : Int)) = false := decide_eq_false c3
        clear c3
        obtain rfl := Option.some.inj H
        go_wp2
        go_ret
        exact ⟨_, by first | rfl | (simp [errW_none, errW_some] <;> rfl) | (simp [*, errW_none, errW_some] <;> rfl), by (with_reducible repeat (first | apply Kd.R_alloc | apply Kd.R_drewN | apply Kd.R_drew)); exact HO_5.out, by repeat (first | (with_reducible first | exact HB.out | apply below_alloc | apply pw_below_drewN | apply below_drew1) | exact HB.out)⟩

-- NOT PRINTED: function 6 (remouldlaw07_RackTwins)
end Go.Proofs.YtpnfmbeccjehiabDoor.PR
/- What the reference's Delete comes to. -/
namespace Go.Proofs.YtpnfmbeccjehiabDoor
open Go.RowKit Go.Proofs.YtpnfmbeccjehiabDoorW.PrintWords Go.Proofs.YtpnfmbeccjehiabDoorW.PrintLast Go.Proofs.YtpnfmbeccjehiabDoorW.PrintMore

theorem delete_from (l : List Nat) (x : Nat) (hn : l.length ≤ 1000000) : ∀ (d j k : Nat), j + d = l.length → d < k →
    PR.remouldref07_Delete.l0 k (zs l) (x : Int) (zs ((l.take j).filter (fun y => !decide (y = x)))) (j : Int) = some (zs (l.filter (fun y => !decide (y = x)))) := by
  intro d
  induction d with
  | zero =>
    intro j k hj hk
    obtain ⟨k, rfl⟩ : ∃ m, k = m + 1 := ⟨k - 1, by omega⟩
    have hz := zs_len l
    have ht : l.take j = l := List.take_of_length_le (by omega)
    simp only [PR.remouldref07_Delete.l0]
    rw [if_neg (by omega), ht]
  | succ d ih =>
    intro j k hj hk
    obtain ⟨k, rfl⟩ : ∃ m, k = m + 1 := ⟨k - 1, by omega⟩
    obtain ⟨y, hy⟩ : ∃ y, l[j]? = some y := ⟨l[j]'(by omega), by simp [show j < l.length by omega]⟩
    have hz := zs_len l
    have hlen : (zs ((l.take j).filter (fun y => !decide (y = x)))).length ≤ 1000000 := by
      rw [zs_len]
      have := List.length_filter_le (fun y => !decide (y = x)) (l.take j)
      rw [List.length_take] at this
      omega
    have hi := ih (j + 1) k (by omega) (by omega)
    rw [List.take_add_one, hy, Option.toList_some, List.filter_append] at hi
    simp only [PR.remouldref07_Delete.l0]
    rw [if_pos (by omega), if_pos (by omega), rd_zs hy]
    by_cases e : (y : Int) = (x : Int)
    · rw [if_pos e, wrap_s (by omega)]
      have e' : y = x := by omega
      simpa [e'] using hi
    · rw [if_neg e, if_pos (by omega), wrap_s (by omega)]
      have e' : ¬ y = x := by omega
      have e2 : [y].filter (fun y => !decide (y = x)) = [y] := by simp [e']
      rw [e2] at hi
      rw [← hi]
      simp [zs]
theorem delete_f {k : Nat} (hk : k ≤ 3) {m : RK.S} (hs : RK.Supp k m) (x : Nat) : PR.remouldref07_Delete.f ((RK.lst k m).length + 1) (zs (RK.lst k m)) (x : Int) = some (zs (RK.lst k (RK.del m x))) := by
  have hn : (RK.lst k m).length ≤ 1000000 := by have := RK.lst_len k m; have := RK.R_le hk; omega
  have h := delete_from (RK.lst k m) x hn (RK.lst k m).length 0 ((RK.lst k m).length + 1) (by omega) (by omega)
  rw [RK.lst_del hs x] at h
  exact h
end Go.Proofs.YtpnfmbeccjehiabDoor
/- A rack and a list of the reference beside it, both in new memory: each call by the sets alone. -/
namespace Go.Proofs.YtpnfmbeccjehiabDoor
open Go.RowKit Go.Proofs.YtpnfmbeccjehiabDoorW.PrintWords Go.Proofs.YtpnfmbeccjehiabDoorW.PrintLast Go.Proofs.YtpnfmbeccjehiabDoorW.PrintMore

/-- a rack and a list of the reference, apart from each other -/
structure Pair (B : Nat) (w : World) (rb k : Nat) (m m2 : RK.S) (sv : Value) : Prop where
  rack : ∃ v F, RackIs w rb k m v F ∧ B ≤ rb ∧ (∀ c, F c → B ≤ c) ∧ ∀ q, sv.ownBlock = some q → q ≠ rb ∧ ¬ F q
  set : SetIs w B sv k m2
theorem Both.pair {B : Nat} {w : World} {rb k : Nat} {m : RK.S} {v : Value} {F : Nat → Prop} {sv : Value} (h : Both B w rb k m v F sv) : Pair B w rb k m m sv :=
  ⟨⟨v, F, h.rack, h.rb_le, h.F_le, h.apart⟩, h.set⟩
theorem Pair.below {B : Nat} {w w' : World} {rb k : Nat} {m m2 : RK.S} {sv : Value} (h : Pair B w rb k m m2 sv) (hb : Below w.heap.size w w') : Pair B w' rb k m m2 sv := by
  obtain ⟨⟨v, F, h1, h2⟩, h3⟩ := h
  exact ⟨⟨v, F, h1.below hb, h2⟩, own_below h3 hb⟩
theorem Pair.mine {B : Nat} {w : World} {rb k : Nat} {m m2 : RK.S} {sv : Value} (h : Pair B w rb k m m2 sv) : Mine B w rb k m := by
  obtain ⟨⟨v, F, h1, h2, h3, -⟩, -⟩ := h
  exact ⟨v, F, h1, h2, h3⟩
theorem pair_new (k : Nat) {w0 w : World} (hk : k ≤ 3) (h0 : Below w0.heap.size w0 w) :
    Calls Tryd.prog 22 #[.int .i64 k] w fun e w' => ∃ rb, e = .returned (.pointer (some ⟨rb, 0, none⟩)) ∧ Pair w0.heap.size w' rb k (fun _ => false) (fun _ => false) (.slice none 0 0) ∧ Below w0.heap.size w0 w' := by
  refine (new_ok k w hk).mono ?_
  rintro e w' ⟨rb, rfl, hR, hrb, hb⟩
  have hs := h0.size
  exact ⟨rb, rfl, ⟨⟨_, _, hR, by omega, fun _ h => False.elim h, fun q hq => by simp [Value.ownBlock] at hq⟩, set_nil _ _ _⟩, bl_call h0 hb hs⟩
theorem pair_insert {w0 w : World} {rb k : Nat} {m m2 : RK.S} {sv : Value} (hk : k ≤ 3) (h : Pair w0.heap.size w rb k m m2 sv) (h0 : Below w0.heap.size w0 w) {x : Nat} (hx : x < RK.R k) :
    Calls Tryd.prog 19 #[.pointer (some ⟨rb, 0, none⟩), .int .i64 x] w fun e w' => e = .returned (.tuple #[.bool (!m x), .int .i64 0]) ∧ Pair w0.heap.size w' rb k (RK.ins m x) m2 sv ∧ Below w0.heap.size w0 w' := by
  obtain ⟨⟨v, F, h1, h2, h3, h4⟩, h5⟩ := h
  refine (insert_any2 k rb m v F x w hk h1 hx).mono ?_
  rintro e w' ⟨rfl, v', F', hR, hB, hF⟩
  have hs := h0.size
  refine ⟨rfl, ⟨⟨v', F', hR, h2, fun c hc => ?_, fun q hq => ⟨(h4 q hq).1, fun h => ?_⟩⟩, own_belP h5 hB (fun q hq h => ?_)⟩, hB.below h0 hs (fun c hc => ?_)⟩
  · rcases hF c hc with h | h
    · exact h3 c h
    · omega
  · rcases hF q h with h | h
    · exact (h4 q hq).2 h
    · have := (own_lt2 h5 q hq).2; omega
  · rcases h with h | h
    · exact (h4 q hq).1 h
    · exact (h4 q hq).2 h
  · rcases hc with h | h
    · omega
    · exact h3 c h
theorem pair_delete {w0 w : World} {rb k : Nat} {m m2 : RK.S} {sv : Value} (hk : k ≤ 3) (h : Pair w0.heap.size w rb k m m2 sv) (h0 : Below w0.heap.size w0 w) {x : Nat} (hx : x < RK.R k) :
    Calls Tryd.prog 21 #[.pointer (some ⟨rb, 0, none⟩), .int .i64 x] w fun e w' => e = .returned (.tuple #[.bool (m x), .int .i64 0]) ∧ Pair w0.heap.size w' rb k (RK.del m x) m2 sv ∧ Below w0.heap.size w0 w' := by
  obtain ⟨⟨v, F, h1, h2, h3, h4⟩, h5⟩ := h
  have hs := h0.size
  cases hm : m x with
  | true =>
    refine (delete_yes k rb m v F x w hk h1 hx hm).mono ?_
    rintro e w' ⟨rfl, v', F', hR, hB, hF⟩
    refine ⟨rfl, ⟨⟨v', F', hR, h2, fun c hc => ?_, fun q hq => ⟨(h4 q hq).1, fun h => ?_⟩⟩, own_belP h5 hB (fun q hq h => ?_)⟩, hB.below h0 hs (fun c hc => ?_)⟩
    · rcases hF c hc with h | h
      · exact h3 c h
      · omega
    · rcases hF q h with h | h
      · exact (h4 q hq).2 h
      · have := (own_lt2 h5 q hq).2; omega
    · rcases h with h | h
      · exact (h4 q hq).1 h
      · exact (h4 q hq).2 h
    · rcases hc with h | h
      · omega
      · exact h3 c h
  | false =>
    refine (delete_no k rb m v F x w hk h1 hx hm).mono ?_
    rintro e w' ⟨rfl, hb⟩
    have e1 : RK.del m x = m := RK.ext_iff fun y => by
      rw [RK.del_iff]
      exact ⟨fun h => h.2, fun h => ⟨fun e => (by rw [e, hm] at h; cases h), h⟩⟩
    rw [e1]
    exact ⟨rfl, ⟨⟨v, F, h1.below hb, h2, h3, h4⟩, own_below h5 hb⟩, bl_call h0 hb hs⟩
theorem pair_refInsert {w0 w : World} {rb k : Nat} {m m2 : RK.S} {sv : Value} (hk : k ≤ 3) (h : Pair w0.heap.size w rb k m m2 sv) (h0 : Below w0.heap.size w0 w) (hs2 : RK.Supp k m2) {x : Nat} (hx : x < RK.R k) :
    Calls Tryd.prog 25 #[sv, .int .i64 (x : Int)] w fun e w' => ∃ sv', e = .returned sv' ∧ Pair w0.heap.size w' rb k m (RK.ins m2 x) sv' ∧ Below w0.heap.size w0 w' := by
  obtain ⟨⟨v, F, h1, h2, h3, h4⟩, h5⟩ := h
  refine (refInsert k m2 sv x w0 w hk hs2 hx h0 h5).mono ?_
  rintro e w' ⟨sv', rfl, hS, hq, hB, hb⟩
  refine ⟨sv', rfl, ⟨⟨v, F, h1.kept hB (fun h => (h4 _ h).1 rfl) (fun c hc h => (h4 c h).2 hc), h2, h3, fun q hq' => ?_⟩, hS⟩, hb⟩
  rcases hq q hq' with h | h
  · exact h4 q h
  · refine ⟨?_, fun h' => ?_⟩
    · have := blk_lt h1.1; omega
    · have := h1.2.1.lt k q h'; omega
theorem refDelete (k : Nat) (m : RK.S) (v : Value) (x : Nat) (w : World) (hk : k ≤ 3) (hs : RK.Supp k m) (hv : LI w v (zs (RK.lst k m))) :
    Calls Tryd.prog 26 #[v, .int .i64 (x : Int)] w fun e w' => ∃ v', e = .returned v' ∧ SetIs w' w.heap.size v' k (RK.del m x) ∧ Below w.heap.size w w' := by
  obtain ⟨A, c, rfl, h1, h2⟩ := hv
  have hf := delete_f hk hs x
  rw [← zs_len (RK.lst k m)] at hf
  refine (PR.remouldref07_Delete.calls _ A c (zs (RK.lst k m)) x _ w h2 h1 hf).mono ?_
  rintro e w' ⟨v', rfl, hR, hb⟩
  exact ⟨v', rfl, ints_of_R hR, hb⟩
theorem pair_refDelete {w0 w : World} {rb k : Nat} {m m2 : RK.S} {sv : Value} (hk : k ≤ 3) (h : Pair w0.heap.size w rb k m m2 sv) (h0 : Below w0.heap.size w0 w) (hs2 : RK.Supp k m2) (x : Nat) :
    Calls Tryd.prog 26 #[sv, .int .i64 (x : Int)] w fun e w' => ∃ sv', e = .returned sv' ∧ Pair w0.heap.size w' rb k m (RK.del m2 x) sv' ∧ Below w0.heap.size w0 w' := by
  obtain ⟨⟨v, F, h1, h2, h3, h4⟩, h5⟩ := h
  have hs := h0.size
  refine (refDelete k m2 sv x w hk hs2 (LI.own h5)).mono ?_
  rintro e w' ⟨sv', rfl, hS, hb⟩
  refine ⟨sv', rfl, ⟨⟨v, F, h1.below hb, h2, h3, fun q hq => ⟨?_, fun h => ?_⟩⟩, own_lower hS hs⟩, bl_call h0 hb hs⟩
  · have := blk_lt h1.1; have := (own_lt2 hS q hq).1; omega
  · have := h1.2.1.lt k q h; have := (own_lt2 hS q hq).1; omega
theorem mine_list {B : Nat} {w : World} {rb k : Nat} {m : RK.S} (hk : k ≤ 3) (h : Mine B w rb k m) :
    Calls Tryd.prog 24 #[.pointer (some ⟨rb, 0, none⟩)] w fun e w' => ∃ p q r, e = .returned (.slice p q r) ∧ w'.ownsRow w.heap.size 3 1 (.slice p q r) (RK.lst k m).length (ints (RK.lst k m)) ∧ Below w.heap.size w w' := by
  obtain ⟨v, F, h1, -, -⟩ := h
  refine (listM_any k rb m v F w hk h1).mono ?_
  rintro e w' ⟨sv, rfl, hO, hb⟩
  obtain ⟨p, q, r, rfl⟩ := own_form hO
  exact ⟨p, q, r, rfl, hO, hb⟩
theorem mine_next {B : Nat} {w : World} {rb k : Nat} {m : RK.S} (hk : k ≤ 3) (h : Mine B w rb k m) {x : Nat} (hx : x < RK.R k) :
    Calls Tryd.prog 13 #[.pointer (some ⟨rb, 0, none⟩), .int .i64 x] w fun e w' => e = .returned (foundT (RK.nxv k m x)) ∧ Below w.heap.size w w' := by
  obtain ⟨v, F, h1, -, -⟩ := h
  exact next_in k rb m v F x w hk h1 hx
theorem mine_before {B : Nat} {w : World} {rb k : Nat} {m : RK.S} (hk : k ≤ 3) (h : Mine B w rb k m) {x : Nat} (hx : x < RK.R k) :
    Calls Tryd.prog 14 #[.pointer (some ⟨rb, 0, none⟩), .int .i64 x] w fun e w' => e = .returned (foundT (RK.bfv m x)) ∧ Below w.heap.size w w' := by
  obtain ⟨v, F, h1, -, -⟩ := h
  exact before_in k rb m v F x w hk h1 hx
end Go.Proofs.YtpnfmbeccjehiabDoor
/- Neighbours in the list of a set; the sets of RackSame; Min and Max of a rack in new memory. -/
namespace Go.Proofs.YtpnfmbeccjehiabDoor
open Go.RowKit Go.Proofs.YtpnfmbeccjehiabDoorW.PrintWords Go.Proofs.YtpnfmbeccjehiabDoorW.PrintLast Go.Proofs.YtpnfmbeccjehiabDoorW.PrintMore

namespace RK
theorem lst_lt {k : Nat} {m : S} {i j a b : Nat} (hi : (lst k m)[i]? = some a) (hj : (lst k m)[j]? = some b) (h : i < j) : a < b := by
  have ha : List.Pairwise (· < ·) (lst k m) := lst_asc k m
  obtain ⟨h1, e1⟩ := List.getElem?_eq_some_iff.1 hi
  obtain ⟨h2, e2⟩ := List.getElem?_eq_some_iff.1 hj
  rw [← e1, ← e2]
  exact List.pairwise_iff_getElem.1 ha i j h1 h2 h
theorem lst_pair {k : Nat} {m : S} (hs : Supp k m) {i a b : Nat} (ha : (lst k m)[i]? = some a) (hb : (lst k m)[i + 1]? = some b) : nxv k m a = (b, true) ∧ bfv m b = (a, true) := by
  have hab := lst_lt ha hb (by omega)
  have hma := (mem_lst hs a).1 (List.mem_of_getElem? ha)
  have hmb := (mem_lst hs b).1 (List.mem_of_getElem? hb)
  have hz : ∀ z, m z = true → a < z → b ≤ z := fun z hz h => by
    obtain ⟨j, hj⟩ := List.mem_iff_getElem?.1 ((mem_lst hs z).2 hz)
    by_cases e : j ≤ i
    · rcases Nat.lt_or_eq_of_le e with e | e
      · have := lst_lt hj ha e; omega
      · rw [e, ha] at hj; have := Option.some.inj hj; omega
    · by_cases e2 : j = i + 1
      · rw [e2, hb] at hj; have := Option.some.inj hj; omega
      · have := lst_lt hb hj (by omega); omega
  have hN : IsNext m a b := ⟨⟨hmb, hab⟩, hz⟩
  have hsp := nxv_spec k hs a
  refine ⟨?_, bfv_some hma hab fun z h1 h2 => ?_⟩
  · cases e : (nxv k m a).2 with
    | true => exact Prod.ext ((hsp.1 e).unique hN) e
    | false => exact False.elim (hN.not_none (hsp.2 e))
  · cases e : m z with
    | false => rfl
    | true => have := hz z e h1; omega
theorem nxv_last {k : Nat} {m : S} (hs : Supp k m) {b : Nat} (hb : IsMax m b) : (nxv k m b).2 = false := by
  cases e : (nxv k m b).2 with
  | false => rfl
  | true =>
    have h1 := (nxv_spec k hs b).1 e
    have h2 := hb.2 _ h1.1.1
    have h3 := h1.1.2
    omega
theorem bfv_first {m : S} {a : Nat} (ha : IsMin m a) : bfv m a = (0, false) := bfv_none fun z hz => by
  cases e : m z with
  | false => rfl
  | true => have := ha.2 z e; omega
/-- m, and of f what is not in g -/
def mix (m f g : S) : S := fun x => m x || (f x && !g x)
/-- f and what is in a list -/
def uni (f : S) (l : List Nat) : S := fun x => f x || decide (x ∈ l)
theorem uni_nil (f : S) : uni f [] = f := funext fun x => by simp [uni]
theorem uni_cons (f : S) (y : Nat) (l : List Nat) : uni f (y :: l) = ins (uni f l) y := funext fun x => by
  unfold uni ins
  by_cases e : x = y
  · subst e; simp
  · simp [e]
theorem uni_lst {k : Nat} {m : S} (hs : Supp k m) (f : S) : uni f (lst k m) = mix m f (fun _ => false) := funext fun x => by
  unfold uni mix
  cases e : m x with
  | true => simp [(mem_lst hs x).2 e]
  | false =>
    have : x ∉ lst k m := fun h => by rw [(mem_lst hs x).1 h] at e; cases e
    simp [this]
theorem mix_old {m f g : S} {y : Nat} (h : m y = true) : mix m f (ins g y) = mix m f g := funext fun x => by
  unfold mix ins
  by_cases e : x = y
  · subst e; simp [h]
  · simp [e]
theorem mix_new {m f g : S} {y : Nat} (h : m y = false) : mix m f (ins g y) = del (mix m f g) y := funext fun x => by
  unfold mix ins del
  by_cases e : x = y
  · subst e; simp [h]
  · simp [e]
theorem mix_end (m f : S) : mix m f f = m := funext fun x => by unfold mix; simp
end RK
theorem mine_min {B : Nat} {w : World} {rb k : Nat} {m : RK.S} (hk : k ≤ 3) (h : Mine B w rb k m) {a b : Nat} (ha : RK.IsMin m a) (hb : RK.IsMax m b) :
    Calls Tryd.prog 10 #[.pointer (some ⟨rb, 0, none⟩)] w fun e w' => e = .returned (.tuple #[.int .i64 a, .int .i64 0]) ∧ Below w.heap.size w w' := by
  obtain ⟨v, F, h1, -, -⟩ := h
  exact min_some k rb m v F a b w hk h1 ha hb
theorem mine_max {B : Nat} {w : World} {rb k : Nat} {m : RK.S} (hk : k ≤ 3) (h : Mine B w rb k m) {a b : Nat} (ha : RK.IsMin m a) (hb : RK.IsMax m b) :
    Calls Tryd.prog 11 #[.pointer (some ⟨rb, 0, none⟩)] w fun e w' => e = .returned (.tuple #[.int .i64 b, .int .i64 0]) ∧ Below w.heap.size w w' := by
  obtain ⟨v, F, h1, -, -⟩ := h
  exact max_some k rb m v F a b w hk h1 ha hb
theorem mine_min0 {B : Nat} {w : World} {rb k : Nat} {m : RK.S} (hk : k ≤ 3) (h : Mine B w rb k m) (he : RK.Emp m) :
    Calls Tryd.prog 10 #[.pointer (some ⟨rb, 0, none⟩)] w fun e w' => e = .returned (.tuple #[.int .i64 0, .int .i64 6]) ∧ Below w.heap.size w w' := by
  obtain ⟨v, F, h1, -, -⟩ := h
  exact min_none k rb m v F w hk h1 he
theorem mine_max0 {B : Nat} {w : World} {rb k : Nat} {m : RK.S} (hk : k ≤ 3) (h : Mine B w rb k m) (he : RK.Emp m) :
    Calls Tryd.prog 11 #[.pointer (some ⟨rb, 0, none⟩)] w fun e w' => e = .returned (.tuple #[.int .i64 0, .int .i64 6]) ∧ Below w.heap.size w w' := by
  obtain ⟨v, F, h1, -, -⟩ := h
  exact max_none k rb m v F w hk h1 he
end Go.Proofs.YtpnfmbeccjehiabDoor
/- The methods of an unusable rack: a nil one, or the zero value. -/
namespace Go.Proofs.YtpnfmbeccjehiabDoor
open Go.RowKit Go.Proofs.YtpnfmbeccjehiabDoorW.PrintWords Go.Proofs.YtpnfmbeccjehiabDoorW.PrintLast Go.Proofs.YtpnfmbeccjehiabDoorW.PrintMore
attribute [local go_sem ↓] Go.wp_at_zero Go.wp_at_succ

/-- a rack that New did not make -/
def Un (w : World) (p : Value) : Prop := p = .pointer none ∨ ∃ g, p = .pointer (some ⟨g, 0, none⟩) ∧ w.cell? ⟨g, 0, none⟩ = some (.int .i64 0)
theorem Un.below {w w' : World} {p : Value} (h : Un w p) (hb : Below w.heap.size w w') : Un w' p := by
  rcases h with h | ⟨g, h, hc⟩
  · exact .inl h
  · exact .inr ⟨g, h, (World.cell?_of_block (hb.block _ (block_lt_of_cell hc))).trans hc⟩
theorem un_new (w : World) (c : Value) (t : TypeId) : Un (w.alloc (.cells #[.int .i64 0, c] t)) (.pointer (some ⟨w.heap.size, 0, none⟩)) :=
  .inr ⟨_, rfl, (row2 (blk_new w _)).1⟩
theorem bl_alloc (w : World) (o : Obj) : Below w.heap.size w (w.alloc o) := (Below.refl _ _).alloc (Nat.le_refl _) _
set_option maxHeartbeats 2000000 in
theorem usable_zero (g : Nat) (w : World) (h : w.cell? ⟨g, 0, none⟩ = some (.int .i64 0)) :
    Calls Tryd.prog 37 #[.pointer (some ⟨g, 0, none⟩)] w fun e w' => e = .returned (.bool false) ∧ w = w' := by
  go_enter Tryd.func37, Tryd.ntmps37
  go_wp2_with fail
  go_ret
  exact ⟨rfl, rfl⟩
theorem usable_un (p : Value) (w : World) (h : Un w p) : Calls Tryd.prog 37 #[p] w fun e w' => e = .returned (.bool false) ∧ w = w' := by
  rcases h with rfl | ⟨g, rfl, h⟩
  · exact usable_nil w
  · exact usable_zero g w h
set_option maxHeartbeats 4000000 in
theorem check_un (p s : Value) (w : World) (h : Un w p) :
    Calls Tryd.prog 31 #[p, s] w fun e w' => e = .returned (.int .i64 1) ∧ w = w' := by
  have HU := Lib.hid (usable_un p w h)
  clear h
  go_enter Tryd.func31, Tryd.ntmps31
  go_wp2_with fail
  refine HU.out.mono ?_
  rintro e w1 ⟨rfl, rfl⟩
  go_wp2_with fail
  go_ret
  exact ⟨rfl, rfl⟩
set_option maxHeartbeats 4000000 in
theorem has_un (p : Value) (x : Int) (w : World) (h : Un w p) :
    Calls Tryd.prog 20 #[p, .int .i64 x] w fun e w' => e = .returned (.tuple #[.bool false, .int .i64 1]) ∧ Below w.heap.size w w' := by
  have HC := Lib.hid (fun s wx h => check_un p s wx h)
  have HU := Lib.hid h
  clear h
  go_enter Tryd.func20, Tryd.ntmps20
  go_wp2_with fail
  refine (HC.out _ _ (HU.out.below (bl_alloc _ _))).mono ?_
  rintro e w1 ⟨rfl, rfl⟩
  go_wp2_with fail
  exact bodyPost_ret (v := .tuple #[.bool false, .int .i64 1]) (by simp [results, Tryd.results20, go_sem]) rfl ⟨rfl, (by repeat (first | exact Below.refl _ _ | exact Nat.le_refl _ | refine Below.alloc ?_ ?_ _ | refine Below.setCell ?_ ?_ _ | refine Below.drew ?_ | refine bl_drewN ?_ _ | (assumption) | refine bl_call ?_ (by assumption) ?_ | omega | (simp <;> omega)))⟩
set_option maxHeartbeats 4000000 in
theorem next_un (p : Value) (x : Int) (w : World) (h : Un w p) :
    Calls Tryd.prog 13 #[p, .int .i64 x] w fun e w' => e = .returned (.tuple #[.int .i64 0, .int .i64 1]) ∧ Below w.heap.size w w' := by
  have HC := Lib.hid (fun s wx h => check_un p s wx h)
  have HU := Lib.hid h
  clear h
  go_enter Tryd.func13, Tryd.ntmps13
  go_wp2_with fail
  refine (HC.out _ _ (HU.out.below (bl_alloc _ _))).mono ?_
  rintro e w1 ⟨rfl, rfl⟩
  go_wp2_with fail
  exact bodyPost_ret (v := .tuple #[.int .i64 0, .int .i64 1]) (by simp [results, Tryd.results13, go_sem]) rfl ⟨rfl, (by repeat (first | exact Below.refl _ _ | exact Nat.le_refl _ | refine Below.alloc ?_ ?_ _ | refine Below.setCell ?_ ?_ _ | refine Below.drew ?_ | refine bl_drewN ?_ _ | (assumption) | refine bl_call ?_ (by assumption) ?_ | omega | (simp <;> omega)))⟩
set_option maxHeartbeats 4000000 in
theorem before_un (p : Value) (x : Int) (w : World) (h : Un w p) :
    Calls Tryd.prog 14 #[p, .int .i64 x] w fun e w' => e = .returned (.tuple #[.int .i64 0, .int .i64 1]) ∧ Below w.heap.size w w' := by
  have HC := Lib.hid (fun s wx h => check_un p s wx h)
  have HU := Lib.hid h
  clear h
  go_enter Tryd.func14, Tryd.ntmps14
  go_wp2_with fail
  refine (HC.out _ _ (HU.out.below (bl_alloc _ _))).mono ?_
  rintro e w1 ⟨rfl, rfl⟩
  go_wp2_with fail
  exact bodyPost_ret (v := .tuple #[.int .i64 0, .int .i64 1]) (by simp [results, Tryd.results14, go_sem]) rfl ⟨rfl, (by repeat (first | exact Below.refl _ _ | exact Nat.le_refl _ | refine Below.alloc ?_ ?_ _ | refine Below.setCell ?_ ?_ _ | refine Below.drew ?_ | refine bl_drewN ?_ _ | (assumption) | refine bl_call ?_ (by assumption) ?_ | omega | (simp <;> omega)))⟩
set_option maxHeartbeats 4000000 in
theorem work_un (p : Value) (x : Int) (w : World) (h : Un w p) :
    Calls Tryd.prog 27 #[p, .int .i64 x] w fun e w' => e = .returned (.tuple #[.int .i64 0, .int .i64 1]) ∧ Below w.heap.size w w' := by
  have HC := Lib.hid (fun s wx h => check_un p s wx h)
  have HU := Lib.hid h
  clear h
  go_enter Tryd.func27, Tryd.ntmps27
  go_wp2_with fail
  refine (HC.out _ _ (HU.out.below (bl_alloc _ _))).mono ?_
  rintro e w1 ⟨rfl, rfl⟩
  go_wp2_with fail
  exact bodyPost_ret (v := .tuple #[.int .i64 0, .int .i64 1]) (by simp [results, Tryd.results27, go_sem]) rfl ⟨rfl, (by repeat (first | exact Below.refl _ _ | exact Nat.le_refl _ | refine Below.alloc ?_ ?_ _ | refine Below.setCell ?_ ?_ _ | refine Below.drew ?_ | refine bl_drewN ?_ _ | (assumption) | refine bl_call ?_ (by assumption) ?_ | omega | (simp <;> omega)))⟩
set_option maxHeartbeats 4000000 in
theorem count_un (p : Value) (x y : Int) (w : World) (h : Un w p) :
    Calls Tryd.prog 28 #[p, .int .i64 x, .int .i64 y] w fun e w' => e = .returned (.tuple #[.int .i64 0, .int .i64 1]) ∧ Below w.heap.size w w' := by
  have HC := Lib.hid (fun s wx h => check_un p s wx h)
  have HU := Lib.hid h
  clear h
  go_enter Tryd.func28, Tryd.ntmps28
  go_wp2_with fail
  refine (HC.out _ _ (HU.out.below (bl_alloc _ _))).mono ?_
  rintro e w1 ⟨rfl, rfl⟩
  go_wp2_with fail
  exact bodyPost_ret (v := .tuple #[.int .i64 0, .int .i64 1]) (by simp [results, Tryd.results28, go_sem]) rfl ⟨rfl, (by repeat (first | exact Below.refl _ _ | exact Nat.le_refl _ | refine Below.alloc ?_ ?_ _ | refine Below.setCell ?_ ?_ _ | refine Below.drew ?_ | refine bl_drewN ?_ _ | (assumption) | refine bl_call ?_ (by assumption) ?_ | omega | (simp <;> omega)))⟩
set_option maxHeartbeats 4000000 in
theorem min_un (p : Value)  (w : World) (h : Un w p) :
    Calls Tryd.prog 10 #[p] w fun e w' => e = .returned (.tuple #[.int .i64 0, .int .i64 1]) ∧ Below w.heap.size w w' := by
  have HC := Lib.hid (fun s wx h => check_un p s wx h)
  have HU := Lib.hid h
  clear h
  go_enter Tryd.func10, Tryd.ntmps10
  go_wp2_with fail
  refine (HC.out _ _ HU.out).mono ?_
  rintro e w1 ⟨rfl, rfl⟩
  go_wp2_with fail
  exact bodyPost_ret (v := .tuple #[.int .i64 0, .int .i64 1]) (by simp [results, Tryd.results10, go_sem]) rfl ⟨rfl, (by repeat (first | exact Below.refl _ _ | exact Nat.le_refl _ | refine Below.alloc ?_ ?_ _ | refine Below.setCell ?_ ?_ _ | refine Below.drew ?_ | refine bl_drewN ?_ _ | (assumption) | refine bl_call ?_ (by assumption) ?_ | omega | (simp <;> omega)))⟩
set_option maxHeartbeats 4000000 in
theorem max_un (p : Value)  (w : World) (h : Un w p) :
    Calls Tryd.prog 11 #[p] w fun e w' => e = .returned (.tuple #[.int .i64 0, .int .i64 1]) ∧ Below w.heap.size w w' := by
  have HC := Lib.hid (fun s wx h => check_un p s wx h)
  have HU := Lib.hid h
  clear h
  go_enter Tryd.func11, Tryd.ntmps11
  go_wp2_with fail
  refine (HC.out _ _ HU.out).mono ?_
  rintro e w1 ⟨rfl, rfl⟩
  go_wp2_with fail
  exact bodyPost_ret (v := .tuple #[.int .i64 0, .int .i64 1]) (by simp [results, Tryd.results11, go_sem]) rfl ⟨rfl, (by repeat (first | exact Below.refl _ _ | exact Nat.le_refl _ | refine Below.alloc ?_ ?_ _ | refine Below.setCell ?_ ?_ _ | refine Below.drew ?_ | refine bl_drewN ?_ _ | (assumption) | refine bl_call ?_ (by assumption) ?_ | omega | (simp <;> omega)))⟩
set_option maxHeartbeats 4000000 in
theorem insert_un (p : Value) (x : Int) (w : World) (h : Un w p) :
    Calls Tryd.prog 19 #[p, .int .i64 x] w fun e w' => e = .returned (.tuple #[.bool false, .int .i64 1]) ∧ Below w.heap.size w w' := by
  have HC := Lib.hid (has_un p x w h)
  clear h
  go_enter Tryd.func19, Tryd.ntmps19
  go_wp2_with fail
  refine HC.out.mono ?_
  rintro e w1 ⟨rfl, hb⟩
  go_wp2_with fail
  exact bodyPost_ret (v := .tuple #[.bool false, .int .i64 1]) (by simp [results, Tryd.results19, go_sem]) rfl ⟨rfl, hb⟩
set_option maxHeartbeats 4000000 in
theorem delete_un (p : Value) (x : Int) (w : World) (h : Un w p) :
    Calls Tryd.prog 21 #[p, .int .i64 x] w fun e w' => e = .returned (.tuple #[.bool false, .int .i64 1]) ∧ Below w.heap.size w w' := by
  have HC := Lib.hid (has_un p x w h)
  clear h
  go_enter Tryd.func21, Tryd.ntmps21
  go_wp2_with fail
  refine HC.out.mono ?_
  rintro e w1 ⟨rfl, hb⟩
  go_wp2_with fail
  exact bodyPost_ret (v := .tuple #[.bool false, .int .i64 1]) (by simp [results, Tryd.results21, go_sem]) rfl ⟨rfl, hb⟩
set_option maxHeartbeats 4000000 in
theorem list_un (p : Value) (w : World) (h : Un w p) :
    Calls Tryd.prog 24 #[p] w fun e w' => e = .returned (.slice none 0 0) ∧ Below w.heap.size w w' := by
  have HC := Lib.hid (usable_un p w h)
  clear h
  go_enter Tryd.func24, Tryd.ntmps24
  go_wp2_with fail
  refine HC.out.mono ?_
  rintro e w1 ⟨rfl, rfl⟩
  go_wp2_with fail
  go_ret
  exact ⟨rfl, (by repeat (first | exact Below.refl _ _ | exact Nat.le_refl _ | refine Below.alloc ?_ ?_ _ | refine Below.setCell ?_ ?_ _ | refine Below.drew ?_ | refine bl_drewN ?_ _ | (assumption) | refine bl_call ?_ (by assumption) ?_ | omega | (simp <;> omega)))⟩
set_option maxHeartbeats 4000000 in
theorem shape_un (p : Value) (w : World) (h : Un w p) :
    Calls Tryd.prog 17 #[p] w fun e w' => e = .returned (.string ⟨#[]⟩) ∧ Below w.heap.size w w' := by
  have HC := Lib.hid (usable_un p w h)
  clear h
  go_enter Tryd.func17, Tryd.ntmps17
  go_wp2_with fail
  refine HC.out.mono ?_
  rintro e w1 ⟨rfl, rfl⟩
  go_wp2_with fail
  go_ret
  exact ⟨rfl, (by repeat (first | exact Below.refl _ _ | exact Nat.le_refl _ | refine Below.alloc ?_ ?_ _ | refine Below.setCell ?_ ?_ _ | refine Below.drew ?_ | refine bl_drewN ?_ _ | (assumption) | refine bl_call ?_ (by assumption) ?_ | omega | (simp <;> omega)))⟩
set_option maxHeartbeats 4000000 in
theorem order_un (p : Value) (w : World) (h : Un w p) :
    Calls Tryd.prog 30 #[p] w fun e w' => e = .returned (.int .i64 (-1)) ∧ Below w.heap.size w w' := by
  have HC := Lib.hid (usable_un p w h)
  clear h
  go_enter Tryd.func30, Tryd.ntmps30
  go_wp2_with fail
  refine HC.out.mono ?_
  rintro e w1 ⟨rfl, rfl⟩
  go_wp2_with fail
  go_ret
  exact ⟨rfl, (by repeat (first | exact Below.refl _ _ | exact Nat.le_refl _ | refine Below.alloc ?_ ?_ _ | refine Below.setCell ?_ ?_ _ | refine Below.drew ?_ | refine bl_drewN ?_ _ | (assumption) | refine bl_call ?_ (by assumption) ?_ | omega | (simp <;> omega)))⟩
end Go.Proofs.YtpnfmbeccjehiabDoor
