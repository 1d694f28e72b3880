/- A statement whose order is open and which changes no memory that is known: each operation's value is told ahead; what an operation reads is told by what it waits for. -/
import Derived.Test.YtgocloilagcfoabDoorD1
namespace Go.Proofs.YtgocloilagcfoabDoor
open Go
open Go.RowKit
section
variable {P : Program} {Q : Exit → Act → World → Prop}

/-- outside the slots of the statement the act is as it was -/
structure Agree (a0 : Act) (DV : List (Nat × Value)) (a : Act) : Prop where
  out : ∀ t, (DV.all fun p => p.1 != t) = true → a.eval (.tmp t) = a0.eval (.tmp t)
  size : a.tmps.size = a0.tmps.size
  defers : a.defers = a0.defers
def StepsV (P : Program) (ops : Array Oper) (Q : Exit → Act → World → Prop) (a0 : Act) (W0 : World) (DV : List (Nat × Value)) : List Oper → List (Nat × Value) → Prop
  | [], [] => True
  | o :: l, p :: r => (o.dst = some p.1 ∧ ∀ a w', Agree a0 DV a → (∀ e ∈ o.after, Region.binds .any e = true → ∀ q, DV[e.on]? = some q → a.eval (.tmp q.1) = q.2) → BelX [] W0 w' →
      ∀ K : Act → World → Prop, (∀ w2, BelX [] W0 w2 → K (a.put (some p.1) p.2) w2) → StepG P ops Q o K a w') ∧ StepsV P ops Q a0 W0 DV l r
  | _, _ => False
theorem eval_put_same {a : Act} {d : Nat} (h : d < a.tmps.size) (v : Value) : (a.put (some d) v).eval (.tmp d) = v := by
  simp [Act.put, Act.eval, h]
theorem eval_put_other {a : Act} {d t : Nat} (h : d ≠ t) (v : Value) : (a.put (some d) v).eval (.tmp t) = a.eval (.tmp t) := by
  simp [Act.put, Act.eval, Array.getElem?_setIfInBounds_ne h]
theorem put_size (a : Act) (d : Nat) (v : Value) : (a.put (some d) v).tmps.size = a.tmps.size := by simp [Act.put]
theorem put_defers (a : Act) (d : Nat) (v : Value) : (a.put (some d) v).defers = a.defers := rfl
theorem act_ext {a b : Act} (hs : a.tmps.size = b.tmps.size) (hd : a.defers = b.defers) (h : ∀ t, a.eval (.tmp t) = b.eval (.tmp t)) : a = b := by
  obtain ⟨ta, da⟩ := a
  obtain ⟨tb, db⟩ := b
  simp only at hs hd
  subst hd
  have e : ta = tb := by
    refine Array.ext hs fun i h1 h2 => ?_
    have := h i
    simp only [Act.eval] at this
    rw [Array.getD_eq_getD_getElem?, Array.getD_eq_getD_getElem?, Array.getElem?_eq_getElem h1, Array.getElem?_eq_getElem h2] at this
    exact this
  rw [e]
theorem putL_size : ∀ (DV : List (Nat × Value)) (a : Act), (putL a DV).tmps.size = a.tmps.size
  | [], _ => rfl
  | (d, v) :: l, a => by rw [putL, putL_size l, put_size]
theorem putL_defers : ∀ (DV : List (Nat × Value)) (a : Act), (putL a DV).defers = a.defers
  | [], _ => rfl
  | (d, v) :: l, a => by rw [putL, putL_defers l, put_defers]
theorem putL_out : ∀ (DV : List (Nat × Value)) (a : Act) (t : Nat), (∀ p ∈ DV, p.1 ≠ t) → (putL a DV).eval (.tmp t) = a.eval (.tmp t)
  | [], _, _, _ => rfl
  | (d, v) :: l, a, t, h => by
    rw [putL, putL_out l _ t (fun p hp => h p (List.mem_cons_of_mem _ hp)), eval_put_other (h (d, v) List.mem_cons_self)]
theorem putL_in : ∀ (DV : List (Nat × Value)) (a : Act), (DV.map (·.1)).Nodup → (∀ p ∈ DV, p.1 < a.tmps.size) → ∀ p ∈ DV, (putL a DV).eval (.tmp p.1) = p.2
  | [], _, _, _, _, hp => by cases hp
  | (d, v) :: l, a, hn, hs, p, hp => by
    rw [List.map_cons, List.nodup_cons] at hn
    rw [putL]
    rcases List.mem_cons.1 hp with rfl | hp
    · rw [putL_out l _ d (fun q hq e => hn.1 (List.mem_map.2 ⟨q, hq, e⟩)), eval_put_same (hs (d, v) List.mem_cons_self)]
    · exact putL_in l _ hn.2 (fun q hq => by rw [put_size]; exact hs q (List.mem_cons_of_mem _ hq)) p hp
theorem all_ne {DV : List (Nat × Value)} {t : Nat} : (DV.all fun p => p.1 != t) = true ↔ ∀ p ∈ DV, p.1 ≠ t := by
  rw [List.all_eq_true]
  constructor
  · intro h p hp; simpa using h p hp
  · intro h p hp; simpa using h p hp
def IV (a0 : Act) (W0 : World) (DV : List (Nat × Value)) : (Nat → Bool) → Act → World → Prop :=
  fun s a w => Agree a0 DV a ∧ BelX [] W0 w ∧ ∀ j p, DV[j]? = some p → s j = true → a.eval (.tmp p.1) = p.2
theorem nodup_get {DV : List (Nat × Value)} (hn : (DV.map (·.1)).Nodup) {i j : Nat} {p q : Nat × Value} (hi : DV[i]? = some p) (hj : DV[j]? = some q) (h : i ≠ j) : p.1 ≠ q.1 := by
  obtain ⟨i1, i2⟩ := List.getElem?_eq_some_iff.1 hi
  obtain ⟨j1, j2⟩ := List.getElem?_eq_some_iff.1 hj
  have hp := List.pairwise_iff_getElem.1 hn
  rcases Nat.lt_or_gt_of_ne h with h | h
  · have := hp i j (by simpa using i1) (by simpa using j1) h
    rw [List.getElem_map, List.getElem_map, i2, j2] at this
    exact this
  · have := hp j i (by simpa using j1) (by simpa using i1) h
    rw [List.getElem_map, List.getElem_map, i2, j2] at this
    exact fun e => this e.symm
theorem steps_of {ops : Array Oper} {a0 : Act} {W0 : World} {DV : List (Nat × Value)} (hn : (DV.map (·.1)).Nodup) (hsz : ∀ p ∈ DV, p.1 < a0.tmps.size) :
    ∀ (l : List Oper) (r : List (Nat × Value)) (k : Nat), (∀ i p, r[i]? = some p → DV[k + i]? = some p) → StepsV P ops Q a0 W0 DV l r → StepsI P ops Q (IV a0 W0 DV) k l
  | [], _, _, _, _ => trivial
  | o :: l, [], _, _, h => h.elim
  | o :: l, p :: r, k, hr, h => by
    refine ⟨?_, steps_of hn hsz l r (k + 1) (fun i q hq => by rw [show k + 1 + i = k + (i + 1) by omega]; exact hr (i + 1) q hq) h.2⟩
    intro s a w hsk hdep hI K hK
    obtain ⟨hA, hX, hV⟩ := hI
    have hpk : DV[k]? = some p := hr 0 p rfl
    refine h.1.2 a w hA (fun e he hb q hq => hV e.on q hq (hdep e he hb)) hX K fun w2 hX2 => hK _ _ ⟨⟨fun t ht => ?_, ?_, ?_⟩, hX2, fun j q hq hs => ?_⟩
    · rw [eval_put_other (all_ne.1 ht p (List.mem_of_getElem? hpk))]
      exact hA.out t ht
    · rw [put_size]; exact hA.size
    · rw [put_defers]; exact hA.defers
    · by_cases hjk : j = k
      · subst hjk
        rw [hpk] at hq
        obtain rfl := Option.some.inj hq
        exact eval_put_same (by rw [hA.size]; exact hsz p (List.mem_of_getElem? hpk)) _
      · rw [eval_put_other (nodup_get hn hpk hq (Ne.symm hjk))]
        have : (j == k) = false := by simpa using hjk
        dsimp only at hs
        rw [this, Bool.false_or] at hs
        exact hV j q hq hs
theorem wp_region_vals {id : Nat} {l : List Oper} {a : Act} {w W0 : World} (hm : P.follows .mixedOrders = true) (hdag : dagI 0 l = true) (DV : List (Nat × Value)) (hlen : DV.length = l.length) (hn : (DV.map (·.1)).Nodup)
    (N : Nat) (hN : a.tmps.size = N) (hN2 : (DV.all fun p => decide (p.1 < N)) = true) (hX : BelX [] W0 w.drew) (hs : StepsV P l.toArray Q a W0 DV l DV) (hd : ∀ w', BelX [] W0 w' → Q .normal (putL a DV) w') : (Code.region id l.toArray true).wp P Q a w := by
  have hsz : ∀ p ∈ DV, p.1 < a.tmps.size := fun p hp => by
    have := List.all_eq_true.1 hN2 p hp
    rw [hN]; simpa using this
  refine wp_region_inv hm hdag (IV a W0 DV) ⟨⟨fun _ _ => rfl, rfl, rfl⟩, hX, fun j p hj hs => ?_⟩ (steps_of hn hsz l DV 0 (fun i p h => by rw [Nat.zero_add]; exact h) hs) fun s a' w' hall hI => ?_
  · have := (List.getElem?_eq_some_iff.1 hj).1
    have h2 := of_decide_eq_true hs
    omega
  · obtain ⟨hA, hX', hV⟩ := hI
    have e : a' = putL a DV := by
      refine act_ext (by rw [putL_size]; exact hA.size) (by rw [putL_defers]; exact hA.defers) fun t => ?_
      by_cases ht : ∀ p ∈ DV, p.1 ≠ t
      · rw [putL_out DV a t ht]; exact hA.out t (all_ne.2 ht)
      · obtain ⟨p, hp⟩ : ∃ p, p ∈ DV ∧ p.1 = t := by
          apply Classical.byContradiction
          intro h
          exact ht fun p hp e => h ⟨p, hp, e⟩
        obtain ⟨hp, rfl⟩ := hp
        rw [putL_in DV a hn hsz p hp]
        obtain ⟨j, hj⟩ := List.mem_iff_getElem?.1 hp
        exact hV j p hj (hall j (by have := (List.getElem?_eq_some_iff.1 hj).1; omega))
    rw [e]
    exact hd w' hX'
/-- an operation that yields a value, or calls -/
theorem StepG.value {ops : Array Oper} {o : Oper} {K : Act → World → Prop} {a : Act} {w w' : World} {v : Value} {d : Nat} (hg : Region.wanted o (yielded ops a.tmps) = true) (hd : o.dst = some d) (h : (execOp a.eval o).run P w = .ok (.value v) w')
    (hK : K (a.put (some d) v) w') : StepG P ops Q o K a w := by
  unfold StepG
  rw [if_pos hg]
  unfold Oper.wp
  rw [h, Oper.upon_value, hd]
  exact hK
theorem StepG.call {ops : Array Oper} {o : Oper} {K : Act → World → Prop} {a : Act} {w : World} {v : Value} {d f : Nat} {args : Array Value} (hg : Region.wanted o (yielded ops a.tmps) = true) (hd : o.dst = some d) (h : (execOp a.eval o).run P w = .ok (.enter f args) w)
    (hc : Calls P f args w fun e w' => e = .returned v ∧ Below w.heap.size w w') (hK : ∀ w', Below w.heap.size w w' → K (a.put (some d) v) w') : StepG P ops Q o K a w := by
  unfold StepG
  rw [if_pos hg]
  unfold Oper.wp
  rw [h, Oper.upon_enter]
  refine hc.mono ?_
  rintro e w' ⟨rfl, hb⟩
  rw [hd]
  exact hK w' hb
theorem eval_get {a : Act} {t : Nat} {v : Value} (h : a.eval (.tmp t) = v) : a.tmps[t]?.getD undef = v := by
  simp only [Act.eval] at h
  rw [Array.getD_eq_getD_getElem?] at h
  exact h
theorem wanted_none {ops : Array Oper} {o : Oper} {a : Act} (h : o.guard = none) : Region.wanted o (yielded ops a.tmps) = true := by simp [Region.wanted, h]
theorem wanted_some {ops : Array Oper} {o : Oper} {a : Act} {j d : Nat} {b : Bool} (h : o.guard = some (j, b)) (hj : ((ops[j]?).bind (·.dst)) = some d) (hb : a.eval (.tmp d) = .bool b) : Region.wanted o (yielded ops a.tmps) = true := by
  have : a.tmps[d]? = some (.bool b) := by
    simp only [Act.eval] at hb
    rw [Array.getD_eq_getD_getElem?] at hb
    cases ht : a.tmps[d]? with
    | none => rw [ht] at hb; simp [undef] at hb
    | some u => rw [ht] at hb; exact congrArg some hb
  have hy : yielded ops a.tmps j = some b := by
    unfold yielded
    rw [hj, Option.bind_some, this]
  unfold Region.wanted
  rw [h]
  simp [hy]
end
end Go.Proofs.YtgocloilagcfoabDoor
