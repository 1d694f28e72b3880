/- A statement whose order is open, shown by one fact for each of its operations: whatever has come up, what it has left is known. -/
import Derived.Orders
import Derived.Tactics
import Derived.Tactics2
import Derived.KernelRfl
import Derived.Below
import Derived.Laws.Rows
namespace Go.Proofs.YtgocloilagcfoabDoor
open Go
section
variable {P : Program} {Q : Exit → Act → World → Prop}

/-- one operation, closed to whoever looks at the goal -/
@[irreducible] def StepG (P : Program) (ops : Array Oper) (Q : Exit → Act → World → Prop) (o : Oper) (K : Act → World → Prop) (a : Act) (w : World) : Prop :=
  if Region.wanted o (yielded ops a.tmps) then o.wp P a w K Q else K (a.put o.dst undef) w
theorem StepG.mk {ops : Array Oper} {o : Oper} {K : Act → World → Prop} {a : Act} {w : World} (hg : o.guard = none) (h : o.wp P a w K Q) : StepG P ops Q o K a w := by
  unfold StepG; rw [if_pos (by simp [Region.wanted, hg])]; exact h
theorem StepG.lay {ops : Array Oper} {o : Oper} {K : Act → World → Prop} {a : Act} {w : World} (h : if Region.wanted o (yielded ops a.tmps) then o.wp P a w K Q else K (a.put o.dst undef) w) : StepG P ops Q o K a w := by
  unfold StepG; exact h

/-- each operation, whenever it may come up, keeps the invariant -/
def StepsI (P : Program) (ops : Array Oper) (Q : Exit → Act → World → Prop) (I : (Nat → Bool) → Act → World → Prop) : Nat → List Oper → Prop
  | _, [] => True
  | k, o :: l => (∀ s a w, s k = false → (∀ e ∈ o.after, Region.binds .any e = true → s e.on = true) → I s a w → ∀ K : Act → World → Prop, (∀ a' w', I (fun j => j == k || s j) a' w' → K a' w') →
      StepG P ops Q o K a w) ∧ StepsI P ops Q I (k + 1) l

theorem StepsI.get {ops : Array Oper} {I : (Nat → Bool) → Act → World → Prop} : ∀ (l : List Oper) (k i : Nat) (o : Oper), StepsI P ops Q I k l → l[i]? = some o →
    (∀ s a w, s (k + i) = false → (∀ e ∈ o.after, Region.binds .any e = true → s e.on = true) → I s a w → ∀ K : Act → World → Prop, (∀ a' w', I (fun j => j == k + i || s j) a' w' → K a' w') →
      StepG P ops Q o K a w)
  | [], _, _, _, _, h => by simp at h
  | x :: l, k, 0, o, hs, h => by
    simp at h; subst h
    exact hs.1
  | x :: l, k, i + 1, o, hs, h => by
    have := StepsI.get l (k + 1) i o hs.2 (by simpa using h)
    rw [show k + 1 + i = k + (i + 1) by omega] at this
    exact this

/-- every operation waits for earlier ones alone -/
def dagI : Nat → List Oper → Bool
  | _, [] => true
  | k, o :: l => o.after.all (fun e => !Region.binds .any e || decide (e.on < k)) && dagI (k + 1) l
theorem dagI.get : ∀ (l : List Oper) (k i : Nat) (o : Oper), dagI k l = true → l[i]? = some o → ∀ e ∈ o.after, Region.binds .any e = true → e.on < k + i
  | [], _, _, _, _, h => by simp at h
  | x :: l, k, 0, o, hs, h => by
    simp at h; subst h
    intro e he hb
    simp only [dagI, Bool.and_eq_true, Array.all_eq_true_iff_forall_mem] at hs
    have := hs.1 e he
    rw [hb] at this
    simpa using this
  | x :: l, k, i + 1, o, hs, h => by
    simp only [dagI, Bool.and_eq_true] at hs
    have := dagI.get l (k + 1) i o hs.2 (by simpa using h)
    intro e he hb
    have := this e he hb
    omega

theorem unlisted_exists (listed : Array Bool) (n : Nat) (h : ¬ ∀ j, j < n → listed.getD j true = true) : ∃ j, j < n ∧ listed.getD j true = false ∧ ∀ i, i < j → listed.getD i true = true := by
  induction n with
  | zero => exact absurd (fun j hj => by omega) h
  | succ n ih =>
    by_cases h' : ∀ j, j < n → listed.getD j true = true
    · refine ⟨n, by omega, ?_, h'⟩
      cases e : listed.getD n true
      · rfl
      · exfalso; apply h
        intro j hj
        by_cases hjn : j = n
        · rw [hjn, e]
        · exact h' j (by omega)
    · obtain ⟨j, hj, h1, h2⟩ := ih h'
      exact ⟨j, by omega, h1, h2⟩

theorem getD_set (listed : Array Bool) (i j : Nat) : (listed.setIfInBounds i true).getD j true = (j == i || listed.getD j true) := by
  by_cases h : j = i
  · subst h
    rcases Nat.lt_or_ge j listed.size with h' | h'
    · simp [h']
    · simp [Array.getElem?_eq_none h']
  · have : (j == i) = false := by simpa using h
    rw [this, Bool.false_or]
    simp [Array.getElem?_setIfInBounds_ne (Ne.symm h)]

theorem countP_set (listed : Array Bool) (i : Nat) (h : listed.getD i true = false) : ((listed.setIfInBounds i true).toList.countP (· == false)) + 1 = listed.toList.countP (· == false) := by
  obtain ⟨l⟩ := listed
  simp only [List.setIfInBounds_toArray]
  induction l generalizing i with
  | nil => simp at h
  | cons x l ih =>
    cases i with
    | zero => simp at h; subst h; simp
    | succ i =>
      have := ih i (by simpa using h)
      simp only [List.set_cons_succ, List.countP_cons]
      omega

theorem mem_ready' {md : Region.Mode} {ops : Array Oper} {listed : Array Bool} {i : Nat} (hi : i < ops.size) (h : listed.getD i true = false)
    (hall : ∀ e ∈ ops[i].after, Region.binds md e = true → listed.getD e.on true = true) (hsz : ∀ e ∈ ops[i].after, Region.binds md e = true → e.on < listed.size) : i ∈ Region.ready md ops listed := by
  unfold Region.ready
  rw [List.mem_filter]
  refine ⟨List.mem_range.2 hi, ?_⟩
  rw [h]
  simp only [Bool.not_false, Bool.true_and, Array.getElem?_eq_getElem hi, Option.map_some, Option.getD_some, Array.all_eq_true_iff_forall_mem]
  intro e he
  cases hb : Region.binds md e
  · rfl
  · have h1 := hall e he hb
    have h2 := hsz e he hb
    simp only [Bool.not_true, Bool.false_or]
    simp [h2] at h1 ⊢
    exact h1

theorem wpAny_inv {ops : Array Oper} {I : (Nat → Bool) → Act → World → Prop} (hdag : dagI 0 ops.toList = true) (hs : StepsI P ops Q I 0 ops.toList)
    (hd : ∀ s a w, (∀ j, j < ops.size → s j = true) → I s a w → Q .normal a w) :
    ∀ (fuel : Nat) (listed : Array Bool) (a : Act) (w : World), listed.size = ops.size → listed.toList.countP (· == false) = fuel →
      I (fun j => listed.getD j true) a w → wpAny P .any ops Q fuel listed a w := by
  have hready : ∀ listed : Array Bool, listed.size = ops.size → Region.ready .any ops listed = [] → ∀ j, j < ops.size → listed.getD j true = true := by
    intro listed hsz hr
    apply Decidable.byContradiction
    intro hne
    obtain ⟨j, hj, h1, h2⟩ := unlisted_exists listed ops.size hne
    have hg : ops.toList[j]? = some ops[j] := by simp [hj]
    have hb := dagI.get ops.toList 0 j ops[j] hdag hg
    have := mem_ready' (md := .any) hj h1 (fun e he hbb => h2 _ (by have := hb e he hbb; omega)) (fun e he hbb => by have := hb e he hbb; omega)
    rw [hr] at this
    cases this
  intro fuel
  induction fuel with
  | zero =>
    intro listed a w hsz hc hI
    have hall : ∀ j, j < ops.size → listed.getD j true = true := by
      intro j hj
      cases e : listed.getD j true
      · have hmem : false ∈ listed.toList := by
          have hj' : j < listed.size := by omega
          simp [hj'] at e
          rw [← e]
          exact Array.mem_toList_iff.2 (Array.getElem_mem hj')
        have := List.countP_eq_zero.1 hc false hmem
        simp at this
      · rfl
    refine ⟨?_, hd _ a w hall hI⟩
    unfold Region.ready
    rw [List.filter_eq_nil_iff]
    intro i hi
    rw [hall i (List.mem_range.1 hi)]
    simp
  | succ fuel ih =>
    intro listed a w hsz hc hI
    refine ⟨fun hr => hd _ a w (hready listed hsz hr) hI, fun i hi => ?_⟩
    obtain ⟨hun, o, ho, hall⟩ := mem_ready.1 hi
    have hun' : listed.getD i true = false := hun
    have hg : ops.toList[i]? = some o := by simpa using ho
    have h1 := StepsI.get ops.toList 0 i o hs hg (fun j => listed.getD j true) a w (by rw [Nat.zero_add]; exact hun') (fun e he hb => by
      have h2 := hall e he hb
      rcases Nat.lt_or_ge e.on listed.size with h3 | h3
      · simp [h3] at h2 ⊢; exact h2
      · simp [Array.getElem?_eq_none h3]) hI
      (wpAny P .any ops Q fuel (listed.setIfInBounds i true))
      (fun a' w' hI' => ih _ a' w' (by simpa using hsz) (by have := countP_set listed i hun'; omega) (by
        have e : (fun j => (listed.setIfInBounds i true).getD j true) = (fun j => j == 0 + i || listed.getD j true) := by
          funext j; rw [getD_set, Nat.zero_add]
        rw [e]; exact hI'))
    unfold wpOp
    unfold StepG at h1
    simp only [ho]
    split
    · rename_i hw; rw [if_pos hw] at h1; exact .inl h1
    · rename_i hw; rw [if_neg hw] at h1; exact h1

theorem wp_region_inv {id : Nat} {l : List Oper} {a : Act} {w : World} (hm : P.follows .mixedOrders = true) (hdag : dagI 0 l = true) (I : (Nat → Bool) → Act → World → Prop)
    (h0 : I (fun j => decide (l.length ≤ j)) a w.drew) (hs : StepsI P l.toArray Q I 0 l) (hd : ∀ s a w, (∀ j, j < l.length → s j = true) → I s a w → Q .normal a w) :
    (Code.region id l.toArray true).wp P Q a w := by
  refine wp_region_any hm (wpAny_inv (I := I) hdag hs (fun s a w h => hd s a w (by simpa using h)) _ _ a _ (by simp) (by simp [List.countP_replicate]) ?_)
  have e : (fun j => (Array.replicate l.toArray.size false).getD j true) = (fun j => decide (l.length ≤ j)) := by
    funext j
    rcases Nat.lt_or_ge j l.length with h | h
    · simp [h]
    · simp [h]
  rw [e]; exact h0

/-- a state under a name -/
theorem with_act {c : Code} {a : Act} {w : World} (h : ∀ a0, a0 = a → c.wp P Q a0 w) : c.wp P Q a w := h a rfl
def putL (a : Act) : List (Nat × Value) → Act
  | [] => a
  | (d, v) :: l => putL (a.put (some d) v) l
theorem put_self (a : Act) (d : Nat) : a.put (some d) (a.tmps.getD d undef) = a := by
  obtain ⟨t, ds⟩ := a
  simp only [Act.put]
  congr 1
  rcases Nat.lt_or_ge d t.size with h | h
  · simp [h, Array.setIfInBounds]
  · simp [Array.setIfInBounds, Nat.not_lt.2 h]
theorem blk_lt {w : World} {g : Nat} {o : Obj} (h : w.heap[g]? = some o) : g < w.heap.size := by
  rcases Nat.lt_or_ge g w.heap.size with h1 | h1
  · exact h1
  · rw [Array.getElem?_eq_none h1] at h; cases h
theorem blk_old {w : World} {o x : Obj} {k : Nat} (h : w.heap[k]? = some x) : (w.alloc o).heap[k]? = some x := by
  have := blk_lt h
  unfold World.alloc
  rw [Array.getElem?_push, if_neg (by omega)]
  exact h
theorem blk_new (w : World) (o : Obj) : (w.alloc o).heap[w.heap.size]? = some o := by
  unfold World.alloc
  rw [Array.getElem?_push, if_pos rfl]
theorem blk_set2 {w : World} {g t : Nat} {c0 c1 u0 u1 : Value} (h : w.heap[g]? = some (.cells #[c0, c1] t (0, 0))) :
    ((w.setCell ⟨g, 0, none⟩ u0).setCell ⟨g, 1, none⟩ u1).heap[g]? = some (.cells #[u0, u1] t (0, 0)) := by
  simp [World.setCell, Array.getElem?_modify, h]
theorem blk_far1 {w : World} {g k : Nat} {o : Obj} {u0 : Value} (hne : k ≠ g) (h : w.heap[k]? = some o) : (w.setCell ⟨g, 0, none⟩ u0).heap[k]? = some o :=
  (heap_setCell_other _ ⟨g, 0, none⟩ k u0 hne).trans h
theorem blk_far2 {w : World} {g k : Nat} {o : Obj} {u0 u1 : Value} (hne : k ≠ g) (h : w.heap[k]? = some o) : ((w.setCell ⟨g, 0, none⟩ u0).setCell ⟨g, 1, none⟩ u1).heap[k]? = some o :=
  (heap_setCell_other _ ⟨g, 1, none⟩ k u1 hne).trans ((heap_setCell_other _ ⟨g, 0, none⟩ k u0 hne).trans h)
theorem blk_set1 {w : World} {g t : Nat} {c0 u0 : Value} (h : w.heap[g]? = some (.cells #[c0] t (0, 0))) :
    (w.setCell ⟨g, 0, none⟩ u0).heap[g]? = some (.cells #[u0] t (0, 0)) := by
  simp [World.setCell, Array.getElem?_modify, h]
end

/-- but for the blocks named, what was there is as it was; the streams are as they were -/
structure BelX (bs : List Nat) (w w' : World) : Prop where
  os : w'.os = w.os
  tape : w'.tape = w.tape
  output : w'.output = w.output
  size : w.heap.size ≤ w'.heap.size
  block : ∀ k, k < w.heap.size → k ∉ bs → w'.heap[k]? = w.heap[k]?
open Go.RowKit
theorem BelX.start (bs : List Nat) (w : World) : BelX bs w w.drew := ⟨rfl, rfl, rfl, Nat.le_refl _, fun _ _ _ => rfl⟩
theorem BelX.alloc {bs : List Nat} {w w' : World} (h : BelX bs w w') (o : Obj) : BelX bs w (w'.alloc o) :=
  ⟨h.os, h.tape, h.output, by have := h.size; simp; omega, fun k hk hn => (by unfold World.alloc; rw [Array.getElem?_push, if_neg (by have := h.size; omega)]; exact h.block k hk hn)⟩
theorem BelX.call {bs : List Nat} {w w' w2 : World} (h : BelX bs w w') (hb : Below w'.heap.size w' w2) : BelX bs w w2 :=
  ⟨hb.os.trans h.os, hb.tape.trans h.tape, hb.output.trans h.output, Nat.le_trans h.size hb.size, fun k hk hn => (hb.block k (by have := h.size; omega)).trans (h.block k hk hn)⟩
theorem BelX.setOld {bs : List Nat} {w w' : World} (h : BelX bs w w') {p : Addr} (hp : p.block ∈ bs) (u : Value) : BelX bs w (w'.setCell p u) :=
  ⟨h.os, h.tape, h.output, by have := h.size; simp [World.setCell]; exact this, fun k hk hn => (heap_setCell_other w' p k u (fun e => hn (e ▸ hp))).trans (h.block k hk hn)⟩
theorem BelX.setNew {bs : List Nat} {w w' : World} (h : BelX bs w w') {p : Addr} (hp : w.heap.size ≤ p.block) (u : Value) : BelX bs w (w'.setCell p u) :=
  ⟨h.os, h.tape, h.output, by have := h.size; simp [World.setCell]; exact this, fun k hk hn => (heap_setCell_other w' p k u (fun e => by omega)).trans (h.block k hk hn)⟩
theorem BelX.cell {bs : List Nat} {w w' : World} (h : BelX bs w w') {p : Addr} {v : Value} (hn : p.block ∉ bs) (hc : w.cell? p = some v) : w'.cell? p = some v :=
  (World.cell?_of_block (h.block p.block (block_lt_of_cell hc) hn)).trans hc
theorem BelX.frozen {bs : List Nat} {w w' : World} (h : BelX bs w w') {p : Addr} (hp : p.block < w.heap.size) (hn : p.block ∉ bs) : w'.frozen? p = w.frozen? p :=
  World.frozen?_of_block (h.block p.block hp hn)
theorem BelX.below {bs : List Nat} {n : Nat} {w0 w w' : World} (h : BelX bs w w') (hb : Below n w0 w) (hn : n ≤ w.heap.size) (hbs : ∀ b ∈ bs, n ≤ b) : Below n w0 w' :=
  hb.trans ⟨h.os, h.tape, h.output, h.size, fun k hk => h.block k (by omega) (fun hm => by have := hbs k hm; omega)⟩
theorem BelX.ofBelow {w w' : World} (h : Below w.heap.size w w') : BelX [] w w' := ⟨h.os, h.tape, h.output, h.size, fun k hk _ => h.block k hk⟩
theorem blk_new' (w : World) (o : Obj) {k : Nat} (h : k = w.heap.size) : (w.alloc o).heap[k]? = some o := by subst h; exact blk_new w o
theorem blk_drew {w : World} {k : Nat} {o : Obj} (h : w.heap[k]? = some o) : w.drew.heap[k]? = some o := h
theorem blk_call {w w' : World} {k : Nat} {o : Obj} (hb : Below w.heap.size w w') (h : w.heap[k]? = some o) : w'.heap[k]? = some o := (hb.block k (blk_lt h)).trans h
theorem row2_0 {w : World} {g t : Nat} {c0 c1 : Value} (h : w.heap[g]? = some (.cells #[c0, c1] t (0, 0))) : w.cell? ⟨g, 0, none⟩ = some c0 := cell_of_row w g 0 _ _ _ h
theorem row2_1 {w : World} {g t : Nat} {c0 c1 : Value} (h : w.heap[g]? = some (.cells #[c0, c1] t (0, 0))) : w.cell? ⟨g, 1, none⟩ = some c1 := cell_of_row w g 1 _ _ _ h
theorem row1_0 {w : World} {g t : Nat} {c0 : Value} (h : w.heap[g]? = some (.cells #[c0] t (0, 0))) : w.cell? ⟨g, 0, none⟩ = some c0 := cell_of_row w g 0 _ _ _ h
theorem row_f {w : World} {g t : Nat} {cs : Array Value} (h : w.heap[g]? = some (.cells cs t (0, 0))) : ∀ o, w.frozen? ⟨g, o, none⟩ = false := fun o => frozen_of_row w g o _ _ h
end Go.Proofs.YtgocloilagcfoabDoor
