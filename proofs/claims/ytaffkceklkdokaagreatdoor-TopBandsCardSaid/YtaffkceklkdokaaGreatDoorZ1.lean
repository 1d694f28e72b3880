/- A statement whose order is open, shown by one fact for each of its operations: whatever has come up, what it has left is known. -/
import Derived.Orders
import Derived.Tactics
import Derived.Tactics2
import Derived.KernelRfl
import Derived.Below
import Derived.Laws.Rows
import Derived.Maps.Keyed
import Derived.Lib.ItoaNum
namespace Go.Proofs.YtaffkceklkdokaaGreatDoor
open Go
theorem sZ_ {α : Type} {x b : α} {l:List α}:(x :: l).set 0 b=b :: l:=rfl
theorem sS_ {α : Type} {x b : α} {l:List α} {n:Nat}:(x :: l).set (n+1) b=x :: l.set n b:=rfl
theorem sA_ {α : Type} {l:List α} {n:Nat} {a : α}:l.toArray.setIfInBounds n a=(l.set n a).toArray:=List.setIfInBounds_toArray ..
section
variable {P : Program} {Q : Exit -> Act -> World -> Prop}
/-- one operation, closed to whoever looks at the goal -/
@[irreducible] def StepG (P:Program) (ops:Array Oper) (Q:Exit->Act->World->Prop) (o:Oper) (K:Act->World->Prop) (a:Act) (w:World):Prop :=
 if Region.wanted o (yielded ops a.tmps) then o.wp P a w K Q else K (a.put o.dst undef) w
theorem StepG.mk {ops:Array Oper} {o:Oper} {K:Act->World->Prop} {a:Act} {w:World} (hg:o.guard=none) (h:o.wp P a w K Q):StepG P ops Q o K a w:=by
 unfold StepG; rw[if_pos (by simp[Region.wanted,hg])]; exact h
/-- each operation, whenever it may come up, keeps the invariant -/
def StepsI (P : Program) (ops : Array Oper) (Q : Exit -> Act -> World -> Prop) (I : (Nat -> Bool) -> Act -> World -> Prop) : Nat -> List Oper -> Prop
  | _, [] => True
  | k, o :: l => (∀ s a w, s k = false -> (∀ e ∈ o.after, Region.binds .any e = true -> s e.on = true) -> I s a w -> ∀ K : Act -> World -> Prop, (∀ a' w', I (fun j => j == k || s j) a' w' -> K a' w') ->
      StepG P ops Q o K a w) /\ StepsI P ops Q I (k + 1) l
theorem StepsI.get {ops:Array Oper} {I:(Nat->Bool)->Act->World->Prop}:∀(l:List Oper) (k i:Nat) (o:Oper),StepsI P ops Q I k l->l[i]?=some o ->
  (∀s a w,s (k+i)=false->(∀e∈o.after,Region.binds .any e=true->s e.on=true)->I s a w->∀K:Act->World->Prop,(∀a' w',I (fun j=>j == k+i || s j) a' w'->K a' w') ->
   StepG P ops Q o K a w)
 | [],_,_,_,_,h=>by simp at h
 | x :: l,k,0,o,hs,h=>by
  simp at h; subst h;exact hs.1
 | x :: l,k,i+1,o,hs,h=>by
  have:=StepsI.get l (k+1) i o hs.2 (by simpa using h);rw[show k+1+i=k+(i+1) by omega]at this;exact this
/-- every operation waits for earlier ones alone -/
def dagI:Nat->List Oper->Bool
 | _,[]=>true
 | k,o :: l=>o.after.all (fun e=>!Region.binds .any e || decide (e.on < k)) && dagI (k+1) l
theorem dagI.get:∀(l:List Oper) (k i:Nat) (o:Oper),dagI k l=true->l[i]?=some o->∀e∈o.after,Region.binds .any e=true->e.on < k+i
 | [],_,_,_,_,h=>by simp at h
 | x :: l,k,0,o,hs,h=>by
  simp at h; subst h;intro e he hb;simp only[dagI,Bool.and_eq_true,Array.all_eq_true_iff_forall_mem]at hs;have:=hs.1 e he;rw[hb]at this
  simpa using this
 | x :: l,k,i+1,o,hs,h=>by
  simp only[dagI,Bool.and_eq_true]at hs;have:=dagI.get l (k+1) i o hs.2 (by simpa using h);intro e he hb;have:=this e he hb;omega
theorem unlisted_exists (listed:Array Bool) (n:Nat) (h:¬∀j,j < n->listed.getD j true=true):∃j,j < n/\listed.getD j true=false/\∀i,i < j->listed.getD i true=true:=by
 induction n with
 | zero=>exact absurd (fun j hj=>by omega) h
 | succ n ih =>
  by_cases h':∀j,j < n->listed.getD j true=true
  ·
   refine⟨n,by omega,?_,h'⟩;cases e:listed.getD n true
   · rfl
   ·
    exfalso; apply h;intro j hj
    by_cases hjn:j=n
    · rw[hjn,e]
    · exact h' j (by omega)
  · obtain⟨j,hj,h1,h2⟩:=ih h';exact⟨j,by omega,h1,h2⟩
theorem getD_set (listed:Array Bool) (i j:Nat):(listed.setIfInBounds i true).getD j true=(j == i || listed.getD j true):=by
 by_cases h:j=i
 ·
  subst h;rcases Nat.lt_or_ge j listed.size with h' | h'
  · simp[h']
  · simp[Array.getElem?_eq_none h']
 ·
  have:(j == i)=false:=by simpa using h
  rw[this,Bool.false_or];simp[Array.getElem?_setIfInBounds_ne (Ne.symm h)]
theorem countP_set (listed:Array Bool) (i:Nat) (h:listed.getD i true=false):((listed.setIfInBounds i true).toList.countP (· == false))+1=listed.toList.countP (· == false):=by
 obtain⟨l⟩:=listed;simp only[List.setIfInBounds_toArray]
 induction l generalizing i with
 | nil=>simp at h
 | cons x l ih =>
  cases i with
  | zero=>simp at h; subst h; simp
  | succ i =>
   have:=ih i (by simpa using h);simp only[List.set_cons_succ,List.countP_cons];omega
theorem mem_ready' {md:Region.Mode} {ops:Array Oper} {listed:Array Bool} {i:Nat} (hi:i < ops.size) (h:listed.getD i true=false)
  (hall:∀e∈ops[i].after,Region.binds md e=true->listed.getD e.on true=true) (hsz:∀e∈ops[i].after,Region.binds md e=true->e.on < listed.size):i∈Region.ready md ops listed:=by
 unfold Region.ready;rw[List.mem_filter];refine⟨List.mem_range.2 hi,?_⟩;rw[h];simp only[Bool.not_false,Bool.true_and,Array.getElem?_eq_getElem hi,Option.map_some,Option.getD_some,Array.all_eq_true_iff_forall_mem];intro e he;cases hb:Region.binds md e
 · rfl
 · have h1:=hall e he hb;have h2:=hsz e he hb;simp only[Bool.not_true,Bool.false_or];simp[h2]at h1 ⊢;exact h1
theorem wpAny_inv {ops:Array Oper} {I:(Nat->Bool)->Act->World->Prop} (hdag:dagI 0 ops.toList=true) (hs:StepsI P ops Q I 0 ops.toList)
  (hd:∀s a w,(∀j,j < ops.size->s j=true)->I s a w->Q .normal a w) :
  ∀(fuel:Nat) (listed:Array Bool) (a:Act) (w:World),listed.size=ops.size->listed.toList.countP (· == false)=fuel ->
   I (fun j=>listed.getD j true) a w->wpAny P .any ops Q fuel listed a w:=by
 have hready:∀listed:Array Bool,listed.size=ops.size->Region.ready .any ops listed = []->∀j,j < ops.size->listed.getD j true=true:=by
  intro listed hsz hr;apply Decidable.byContradiction;intro hne;obtain⟨j,hj,h1,h2⟩:=unlisted_exists listed ops.size hne;have hg:ops.toList[j]?=some ops[j]:=by simp[hj]
  have hb:=dagI.get ops.toList 0 j ops[j] hdag hg;have:=mem_ready' (md:=.any) hj h1 (fun e he hbb=>h2 _ (by have:=hb e he hbb; omega)) (fun e he hbb=>by have:=hb e he hbb; omega);rw[hr]at this;cases this
 intro fuel
 induction fuel with
 | zero =>
  intro listed a w hsz hc hI;have hall:∀j,j < ops.size->listed.getD j true=true:=by
   intro j hj;cases e:listed.getD j true
   ·
    have hmem:false∈listed.toList:=by
     have hj':j < listed.size:=by omega
     simp[hj']at e;rw[<-e];exact Array.mem_toList_iff.2 (Array.getElem_mem hj')
    have:=List.countP_eq_zero.1 hc false hmem;simp at this
   · rfl
  refine⟨?_,hd _ a w hall hI⟩;unfold Region.ready;rw[List.filter_eq_nil_iff];intro i hi;rw[hall i (List.mem_range.1 hi)];simp
 | succ fuel ih =>
  intro listed a w hsz hc hI;refine⟨fun hr=>hd _ a w (hready listed hsz hr) hI,fun i hi=>?_⟩;obtain⟨hun,o,ho,hall⟩:=mem_ready.1 hi;have hun':listed.getD i true=false:=hun;have hg:ops.toList[i]?=some o:=by simpa using ho
  have h1:=StepsI.get ops.toList 0 i o hs hg (fun j=>listed.getD j true) a w (by rw[Nat.zero_add]; exact hun') (fun e he hb=>by
   have h2:=hall e he hb;rcases Nat.lt_or_ge e.on listed.size with h3 | h3
   · simp[h3]at h2 ⊢; exact h2
   · simp[Array.getElem?_eq_none h3]) hI
   (wpAny P .any ops Q fuel (listed.setIfInBounds i true))
   (fun a' w' hI'=>ih _ a' w' (by simpa using hsz) (by have:=countP_set listed i hun'; omega) (by
    have e:(fun j=>(listed.setIfInBounds i true).getD j true)=(fun j=>j == 0+i || listed.getD j true):=by
     funext j; rw[getD_set,Nat.zero_add]
    rw[e]; exact hI'))
  unfold wpOp;unfold StepG at h1;simp only[ho]
  split
  · rename_i hw; rw[if_pos hw]at h1; exact .inl h1
  · rename_i hw; rw[if_neg hw]at h1; exact h1
theorem wp_region_inv {id:Nat} {l:List Oper} {a:Act} {w:World} (hm:P.follows .mixedOrders=true) (hdag:dagI 0 l=true) (I:(Nat->Bool)->Act->World->Prop)
  (h0:I (fun j=>decide (l.length<=j)) a w.drew) (hs:StepsI P l.toArray Q I 0 l) (hd:∀s a w,(∀j,j < l.length->s j=true)->I s a w->Q .normal a w) :
  (Code.region id l.toArray true).wp P Q a w:=by
 refine wp_region_any hm (wpAny_inv (I:=I) hdag hs (fun s a w h=>hd s a w (by simpa using h)) _ _ a _ (by simp) (by simp[List.countP_replicate]) ?_);have e:(fun j=>(Array.replicate l.toArray.size false).getD j true)=(fun j=>decide (l.length<=j)):=by
  funext j
  rcases Nat.lt_or_ge j l.length with h | h
  · simp[h]
  · simp[h]
 rw[e]; exact h0
/-- a state under a name -/
theorem with_act {c:Code} {a:Act} {w:World} (h:∀a0,a0=a->c.wp P Q a0 w):c.wp P Q a w:=h a rfl
def putL (a:Act):List (Nat × Value)->Act
 | []=>a
 | (d,v) :: l=>putL (a.put (some d) v) l
theorem put_self (a:Act) (d:Nat):a.put (some d) (a.tmps.getD d undef)=a:=by
 obtain⟨t,ds⟩:=a;simp only[Act.put]
 congr 1
 rcases Nat.lt_or_ge d t.size with h | h
 · simp[h,Array.setIfInBounds]
 · simp[Array.setIfInBounds,Nat.not_lt.2 h]
theorem blk_lt {w:World} {g:Nat} {o:Obj} (h:w.heap[g]?=some o):g < w.heap.size:=by
 rcases Nat.lt_or_ge g w.heap.size with h1 | h1
 · exact h1
 · rw[Array.getElem?_eq_none h1]at h; cases h
theorem blk_old {w:World} {o x:Obj} {k:Nat} (h:w.heap[k]?=some x):(w.alloc o).heap[k]?=some x:=by
 have:=blk_lt h;unfold World.alloc;rw[Array.getElem?_push,if_neg (by omega)];exact h
theorem blk_new (w:World) (o:Obj):(w.alloc o).heap[w.heap.size]?=some o:=by
 unfold World.alloc;rw[Array.getElem?_push,if_pos rfl]
theorem blk_set2 {w:World} {g t:Nat} {c0 c1 u0 u1:Value} (h:w.heap[g]?=some (.cells #[c0,c1] t (0,0))) :
  ((w.setCell ⟨g,0,none⟩ u0).setCell ⟨g,1,none⟩ u1).heap[g]?=some (.cells #[u0,u1] t (0,0)):=by
 simp[World.setCell,Array.getElem?_modify,h]
theorem blk_far1 {w:World} {g k:Nat} {o:Obj} {u0:Value} (hne:k≠g) (h:w.heap[k]?=some o):(w.setCell ⟨g,0,none⟩ u0).heap[k]?=some o :=
 (heap_setCell_other _ ⟨g,0,none⟩ k u0 hne).trans h
theorem blk_far2 {w:World} {g k:Nat} {o:Obj} {u0 u1:Value} (hne:k≠g) (h:w.heap[k]?=some o):((w.setCell ⟨g,0,none⟩ u0).setCell ⟨g,1,none⟩ u1).heap[k]?=some o :=
 (heap_setCell_other _ ⟨g,1,none⟩ k u1 hne).trans ((heap_setCell_other _ ⟨g,0,none⟩ k u0 hne).trans h)
theorem blk_set1 {w:World} {g t:Nat} {c0 u0:Value} (h:w.heap[g]?=some (.cells #[c0] t (0,0))) :
  (w.setCell ⟨g,0,none⟩ u0).heap[g]?=some (.cells #[u0] t (0,0)):=by
 simp[World.setCell,Array.getElem?_modify,h]
end
/-- but for the blocks named, what was there is as it was; the streams are as they were -/
structure BelX (bs:List Nat) (w w':World):Prop where
 os:w'.os=w.os
 tape:w'.tape=w.tape
 output:w'.output=w.output
 size:w.heap.size<=w'.heap.size
 block:∀k,k < w.heap.size->k ∉ bs->w'.heap[k]?=w.heap[k]?
open Go.RowKit
theorem BelX.start (bs:List Nat) (w:World):BelX bs w w.drew:=⟨rfl,rfl,rfl,Nat.le_refl _,fun _ _ _=>rfl⟩
theorem BelX.alloc {bs:List Nat} {w w':World} (h:BelX bs w w') (o:Obj):BelX bs w (w'.alloc o) :=
 ⟨h.os,h.tape,h.output,by have:=h.size; simp; omega,fun k hk hn=>(by unfold World.alloc; rw[Array.getElem?_push,if_neg (by have:=h.size; omega)]; exact h.block k hk hn)⟩
theorem BelX.call {bs:List Nat} {w w' w2:World} (h:BelX bs w w') (hb:Below w'.heap.size w' w2):BelX bs w w2 :=
 ⟨hb.os.trans h.os,hb.tape.trans h.tape,hb.output.trans h.output,Nat.le_trans h.size hb.size,fun k hk hn=>(hb.block k (by have:=h.size; omega)).trans (h.block k hk hn)⟩
theorem BelX.setOld {bs:List Nat} {w w':World} (h:BelX bs w w') {p:Addr} (hp:p.block∈bs) (u:Value):BelX bs w (w'.setCell p u) :=
 ⟨h.os,h.tape,h.output,by have:=h.size; simp[World.setCell]; exact this,fun k hk hn=>(heap_setCell_other w' p k u (fun e=>hn (e ▸ hp))).trans (h.block k hk hn)⟩
theorem BelX.setNew {bs:List Nat} {w w':World} (h:BelX bs w w') {p:Addr} (hp:w.heap.size<=p.block) (u:Value):BelX bs w (w'.setCell p u) :=
 ⟨h.os,h.tape,h.output,by have:=h.size; simp[World.setCell]; exact this,fun k hk hn=>(heap_setCell_other w' p k u (fun e=>by omega)).trans (h.block k hk hn)⟩
theorem BelX.cell {bs:List Nat} {w w':World} (h:BelX bs w w') {p:Addr} {v:Value} (hn:p.block ∉ bs) (hc:w.cell? p=some v):w'.cell? p=some v :=
 (World.cell?_of_block (h.block p.block (block_lt_of_cell hc) hn)).trans hc
theorem BelX.frozen {bs:List Nat} {w w':World} (h:BelX bs w w') {p:Addr} (hp:p.block < w.heap.size) (hn:p.block ∉ bs):w'.frozen? p=w.frozen? p :=
 World.frozen?_of_block (h.block p.block hp hn)
theorem BelX.below {bs:List Nat} {n:Nat} {w0 w w':World} (h:BelX bs w w') (hb:Below n w0 w) (hn:n<=w.heap.size) (hbs:∀b∈bs,n<=b):Below n w0 w' :=
 hb.trans ⟨h.os,h.tape,h.output,h.size,fun k hk=>h.block k (by omega) (fun hm=>by have:=hbs k hm; omega)⟩
theorem BelX.ofBelow {w w':World} (h:Below w.heap.size w w'):BelX [] w w':=⟨h.os,h.tape,h.output,h.size,fun k hk _=>h.block k hk⟩
theorem blk_new' (w:World) (o:Obj) {k:Nat} (h:k=w.heap.size):(w.alloc o).heap[k]?=some o:=by subst h; exact blk_new w o
theorem blk_drew {w:World} {k:Nat} {o:Obj} (h:w.heap[k]?=some o):w.drew.heap[k]?=some o:=h
theorem blk_call {w w':World} {k:Nat} {o:Obj} (hb:Below w.heap.size w w') (h:w.heap[k]?=some o):w'.heap[k]?=some o:=(hb.block k (blk_lt h)).trans h
theorem row2_0 {w:World} {g t:Nat} {c0 c1:Value} (h:w.heap[g]?=some (.cells #[c0,c1] t (0,0))):w.cell? ⟨g,0,none⟩=some c0:=cell_of_row w g 0 _ _ _ h
theorem row2_1 {w:World} {g t:Nat} {c0 c1:Value} (h:w.heap[g]?=some (.cells #[c0,c1] t (0,0))):w.cell? ⟨g,1,none⟩=some c1:=cell_of_row w g 1 _ _ _ h
theorem row1_0 {w:World} {g t:Nat} {c0:Value} (h:w.heap[g]?=some (.cells #[c0] t (0,0))):w.cell? ⟨g,0,none⟩=some c0:=cell_of_row w g 0 _ _ _ h
theorem row_f {w:World} {g t:Nat} {cs:Array Value} (h:w.heap[g]?=some (.cells cs t (0,0))):∀o,w.frozen? ⟨g,o,none⟩=false:=fun o=>frozen_of_row w g o _ _ h
open Go
open Go.RowKit
section
variable {P : Program} {Q : Exit -> Act -> World -> Prop}
/-- outside the slots of the statement the act is as it was -/
structure Agree (a0:Act) (DV:List (Nat × Value)) (a:Act):Prop where
 out:∀t,(DV.all fun p=>p.1 != t)=true->a.eval (.tmp t)=a0.eval (.tmp t)
 size:a.tmps.size=a0.tmps.size
 defers:a.defers=a0.defers
def StepsV (P : Program) (ops : Array Oper) (Q : Exit -> Act -> World -> Prop) (a0 : Act) (W0 : World) (DV : List (Nat × Value)) : List Oper -> List (Nat × Value) -> Prop
  | [], [] => True
  | o :: l, p :: r => (o.dst = some p.1 /\ ∀ a w', Agree a0 DV a -> (∀ e ∈ o.after, Region.binds .any e = true -> ∀ q, DV[e.on]? = some q -> a.eval (.tmp q.1) = q.2) -> BelX [] W0 w' ->
      ∀ K : Act -> World -> Prop, (∀ w2, BelX [] W0 w2 -> K (a.put (some p.1) p.2) w2) -> StepG P ops Q o K a w') /\ StepsV P ops Q a0 W0 DV l r
  | _, _ => False
theorem eval_put_same {a:Act} {d:Nat} (h:d < a.tmps.size) (v:Value):(a.put (some d) v).eval (.tmp d)=v:=by
 simp[Act.put,Act.eval,h]
theorem eval_put_other {a:Act} {d t:Nat} (h:d≠t) (v:Value):(a.put (some d) v).eval (.tmp t)=a.eval (.tmp t):=by
 simp[Act.put,Act.eval,Array.getElem?_setIfInBounds_ne h]
theorem put_size (a:Act) (d:Nat) (v:Value):(a.put (some d) v).tmps.size=a.tmps.size:=by simp[Act.put]
theorem put_defers (a:Act) (d:Nat) (v:Value):(a.put (some d) v).defers=a.defers:=rfl
theorem act_ext {a b:Act} (hs:a.tmps.size=b.tmps.size) (hd:a.defers=b.defers) (h:∀t,a.eval (.tmp t)=b.eval (.tmp t)):a=b:=by
 obtain⟨ta,da⟩:=a;obtain⟨tb,db⟩:=b;simp only at hs hd;subst hd;have e:ta=tb:=by
  refine Array.ext hs fun i h1 h2=>?_;have:=h i;simp only[Act.eval]at this;rw[Array.getD_eq_getD_getElem?,Array.getD_eq_getD_getElem?,Array.getElem?_eq_getElem h1,Array.getElem?_eq_getElem h2]at this;exact this
 rw[e]
theorem putL_size:∀(DV:List (Nat × Value)) (a:Act),(putL a DV).tmps.size=a.tmps.size
 | [],_=>rfl
 | (d,v) :: l,a=>by rw[putL,putL_size l,put_size]
theorem putL_defers:∀(DV:List (Nat × Value)) (a:Act),(putL a DV).defers=a.defers
 | [],_=>rfl
 | (d,v) :: l,a=>by rw[putL,putL_defers l,put_defers]
theorem putL_out:∀(DV:List (Nat × Value)) (a:Act) (t:Nat),(∀p∈DV,p.1≠t)->(putL a DV).eval (.tmp t)=a.eval (.tmp t)
 | [],_,_,_=>rfl
 | (d,v) :: l,a,t,h=>by
  rw[putL,putL_out l _ t (fun p hp=>h p (List.mem_cons_of_mem _ hp)),eval_put_other (h (d,v) List.mem_cons_self)]
theorem putL_in:∀(DV:List (Nat × Value)) (a:Act),(DV.map (·.1)).Nodup->(∀p∈DV,p.1 < a.tmps.size)->∀p∈DV,(putL a DV).eval (.tmp p.1)=p.2
 | [],_,_,_,_,hp=>by cases hp
 | (d,v) :: l,a,hn,hs,p,hp=>by
  rw[List.map_cons,List.nodup_cons]at hn;rw[putL];rcases List.mem_cons.1 hp with rfl | hp
  · rw[putL_out l _ d (fun q hq e=>hn.1 (List.mem_map.2 ⟨q,hq,e⟩)),eval_put_same (hs (d,v) List.mem_cons_self)]
  · exact putL_in l _ hn.2 (fun q hq=>by rw[put_size]; exact hs q (List.mem_cons_of_mem _ hq)) p hp
theorem all_ne {DV:List (Nat × Value)} {t:Nat}:(DV.all fun p=>p.1 != t)=true↔∀p∈DV,p.1≠t:=by
 rw[List.all_eq_true];constructor
 · intro h p hp; simpa using h p hp
 · intro h p hp; simpa using h p hp
def IV (a0:Act) (W0:World) (DV:List (Nat × Value)):(Nat->Bool)->Act->World->Prop :=
 fun s a w=>Agree a0 DV a/\BelX [] W0 w/\∀j p,DV[j]?=some p->s j=true->a.eval (.tmp p.1)=p.2
theorem nodup_get {DV:List (Nat × Value)} (hn:(DV.map (·.1)).Nodup) {i j:Nat} {p q:Nat × Value} (hi:DV[i]?=some p) (hj:DV[j]?=some q) (h:i≠j):p.1≠q.1:=by
 obtain⟨i1,i2⟩:=List.getElem?_eq_some_iff.1 hi;obtain⟨j1,j2⟩:=List.getElem?_eq_some_iff.1 hj;have hp:=List.pairwise_iff_getElem.1 hn;rcases Nat.lt_or_gt_of_ne h with h | h
 · have:=hp i j (by simpa using i1) (by simpa using j1) h;rw[List.getElem_map,List.getElem_map,i2,j2]at this;exact this
 · have:=hp j i (by simpa using j1) (by simpa using i1) h;rw[List.getElem_map,List.getElem_map,i2,j2]at this;exact fun e=>this e.symm
theorem steps_of {ops:Array Oper} {a0:Act} {W0:World} {DV:List (Nat × Value)} (hn:(DV.map (·.1)).Nodup) (hsz:∀p∈DV,p.1 < a0.tmps.size) :
  ∀(l:List Oper) (r:List (Nat × Value)) (k:Nat),(∀i p,r[i]?=some p->DV[k+i]?=some p)->StepsV P ops Q a0 W0 DV l r->StepsI P ops Q (IV a0 W0 DV) k l
 | [],_,_,_,_=>trivial
 | o :: l,[],_,_,h=>h.elim
 | o :: l,p :: r,k,hr,h=>by
  refine⟨?_,steps_of hn hsz l r (k+1) (fun i q hq=>by rw[show k+1+i=k+(i+1) by omega]; exact hr (i+1) q hq) h.2⟩;intro s a w hsk hdep hI K hK;obtain⟨hA,hX,hV⟩:=hI;have hpk:DV[k]?=some p:=hr 0 p rfl;refine h.1.2 a w hA (fun e he hb q hq=>hV e.on q hq (hdep e he hb)) hX K fun w2 hX2=>hK _ _ ⟨⟨fun t ht=>?_,?_,?_⟩,hX2,fun j q hq hs=>?_⟩
  · rw[eval_put_other (all_ne.1 ht p (List.mem_of_getElem? hpk))];exact hA.out t ht
  · rw[put_size]; exact hA.size
  · rw[put_defers]; exact hA.defers
  ·
   by_cases hjk:j=k
   · subst hjk;rw[hpk]at hq;obtain rfl:=Option.some.inj hq;exact eval_put_same (by rw[hA.size]; exact hsz p (List.mem_of_getElem? hpk)) _
   ·
    rw[eval_put_other (nodup_get hn hpk hq (Ne.symm hjk))];have:(j == k)=false:=by simpa using hjk
    dsimp only at hs;rw[this,Bool.false_or]at hs;exact hV j q hq hs
theorem wp_region_vals {id:Nat} {l:List Oper} {a:Act} {w W0:World} (hm:P.follows .mixedOrders=true) (hdag:dagI 0 l=true) (DV:List (Nat × Value)) (hlen:DV.length=l.length) (hn:(DV.map (·.1)).Nodup)
  (N:Nat) (hN:a.tmps.size=N) (hN2:(DV.all fun p=>decide (p.1 < N))=true) (hX:BelX [] W0 w.drew) (hs:StepsV P l.toArray Q a W0 DV l DV) (hd:∀w',BelX [] W0 w'->Q .normal (putL a DV) w'):(Code.region id l.toArray true).wp P Q a w:=by
 have hsz:∀p∈DV,p.1 < a.tmps.size:=fun p hp=>by
  have:=List.all_eq_true.1 hN2 p hp;rw[hN]; simpa using this
 refine wp_region_inv hm hdag (IV a W0 DV) ⟨⟨fun _ _=>rfl,rfl,rfl⟩,hX,fun j p hj hs=>?_⟩ (steps_of hn hsz l DV 0 (fun i p h=>by rw[Nat.zero_add]; exact h) hs) fun s a' w' hall hI=>?_
 · have:=(List.getElem?_eq_some_iff.1 hj).1;have h2:=of_decide_eq_true hs;omega
 ·
  obtain⟨hA,hX',hV⟩:=hI;have e:a'=putL a DV:=by
   refine act_ext (by rw[putL_size]; exact hA.size) (by rw[putL_defers]; exact hA.defers) fun t=>?_
   by_cases ht:∀p∈DV,p.1≠t
   · rw[putL_out DV a t ht]; exact hA.out t (all_ne.2 ht)
   ·
    obtain⟨p,hp⟩:∃p,p∈DV/\p.1=t:=by
     apply Classical.byContradiction;intro h;exact ht fun p hp e=>h ⟨p,hp,e⟩
    obtain⟨hp,rfl⟩:=hp;rw[putL_in DV a hn hsz p hp];obtain⟨j,hj⟩:=List.mem_iff_getElem?.1 hp;exact hV j p hj (hall j (by have:=(List.getElem?_eq_some_iff.1 hj).1; omega))
  rw[e];exact hd w' hX'
/-- an operation that yields a value, or calls -/
theorem StepG.value {ops:Array Oper} {o:Oper} {K:Act->World->Prop} {a:Act} {w w':World} {v:Value} {d:Nat} (hg:Region.wanted o (yielded ops a.tmps)=true) (hd:o.dst=some d) (h:(execOp a.eval o).run P w=.ok (.value v) w')
  (hK:K (a.put (some d) v) w'):StepG P ops Q o K a w:=by
 unfold StepG;rw[if_pos hg];unfold Oper.wp;rw[h,Oper.upon_value,hd];exact hK
theorem StepG.call {ops:Array Oper} {o:Oper} {K:Act->World->Prop} {a:Act} {w:World} {v:Value} {d f:Nat} {args:Array Value} (hg:Region.wanted o (yielded ops a.tmps)=true) (hd:o.dst=some d) (h:(execOp a.eval o).run P w=.ok (.enter f args) w)
  (hc:Calls P f args w fun e w'=>e=.returned v/\Below w.heap.size w w') (hK:∀w',Below w.heap.size w w'->K (a.put (some d) v) w'):StepG P ops Q o K a w:=by
 unfold StepG;rw[if_pos hg];unfold Oper.wp;rw[h,Oper.upon_enter];refine hc.mono ?_;rintro e w' ⟨rfl,hb⟩;rw[hd];exact hK w' hb
theorem eval_get {a:Act} {t:Nat} {v:Value} (h:a.eval (.tmp t)=v):a.tmps[t]?.getD undef=v:=by
 simp only[Act.eval]at h;rw[Array.getD_eq_getD_getElem?]at h;exact h
theorem wanted_none {ops:Array Oper} {o:Oper} {a:Act} (h:o.guard=none):Region.wanted o (yielded ops a.tmps)=true:=by simp[Region.wanted,h]
theorem wanted_some {ops:Array Oper} {o:Oper} {a:Act} {j d:Nat} {b:Bool} (h:o.guard=some (j,b)) (hj:((ops[j]?).bind (·.dst))=some d) (hb:a.eval (.tmp d)=.bool b):Region.wanted o (yielded ops a.tmps)=true:=by
 have:a.tmps[d]?=some (.bool b):=by
  simp only[Act.eval]at hb;rw[Array.getD_eq_getD_getElem?]at hb;cases ht:a.tmps[d]? with
  | none=>rw[ht]at hb; simp[undef]at hb
  | some u=>rw[ht]at hb; exact congrArg some hb
 have hy:yielded ops a.tmps j=some b:=by
  unfold yielded;rw[hj,Option.bind_some,this]
 unfold Region.wanted;rw[h];simp[hy]
/-- an operation that hands a slot's value on -/
theorem StepG.move {ops:Array Oper} {o:Oper} {K:Act->World->Prop} {a:Act} {w:World} {v:Value} {d:Nat} {x:Operand} (ho:o.op=.move x) (hg:Region.wanted o (yielded ops a.tmps)=true) (hd:o.dst=some d) (he:a.eval x=v)
  (hK:K (a.put (some d) v) w):StepG P ops Q o K a w :=
 StepG.value hg hd (by unfold execOp; rw[ho]; dsimp only; rw[he]; rfl) hK
theorem dpv {o:Oper} {DV:List (Nat × Value)} {a:Act} (hdep:∀e∈o.after,Region.binds .any e=true->∀q,DV[e.on]?=some q->a.eval (.tmp q.1)=q.2) (j:Edge) (hj:j∈o.after) {t:Nat} {v:Value} (hb:Region.binds .any j=true) (hD:DV[j.on]?=some (t,v)):a.eval (.tmp t)=v/\a.tmps[t]?.getD undef=v :=
 ⟨hdep j hj hb _ hD,eval_get (hdep j hj hb _ hD)⟩
theorem dpi {a0 a:Act} {DV:List (Nat × Value)} (hA:Agree a0 DV a) (t:Nat) (v:Value) (hD:(DV.all fun p=>p.1 != t)=true) (h0:a0.eval (.tmp t)=v):a.eval (.tmp t)=v/\a.tmps[t]?.getD undef=v :=
 ⟨(hA.out t hD).trans h0,eval_get ((hA.out t hD).trans h0)⟩
theorem mvV {ops:Array Oper} {o:Oper} {a0:Act} {W0:World} {DV:List (Nat × Value)} {p:Nat × Value} {t:Nat} (j:Edge) (hj:j∈o.after) (ho:o.op=.move (.tmp t)) (hb:Region.binds .any j=true) (hD:DV[j.on]?=some (t,p.2)) (hg:o.guard=none) (hd:o.dst=some p.1) :
  ∀a w',Agree a0 DV a->(∀e∈o.after,Region.binds .any e=true->∀q,DV[e.on]?=some q->a.eval (.tmp q.1)=q.2)->BelX [] W0 w'->∀K:Act->World->Prop,(∀w2,BelX [] W0 w2->K (a.put (some p.1) p.2) w2)->StepG P ops Q o K a w' :=
 fun _ _ _ hdep hX _ hK=>StepG.move ho (wanted_none hg) hd (hdep j hj hb _ hD) (hK _ hX)
theorem mvVi {ops:Array Oper} {o:Oper} {a0:Act} {W0:World} {DV:List (Nat × Value)} {p:Nat × Value} {t:Nat} (ho:o.op=.move (.tmp t)) (hg:o.guard=none) (hd:o.dst=some p.1) (hD:(DV.all fun p=>p.1 != t)=true) (h0:a0.eval (.tmp t)=p.2) :
  ∀a w',Agree a0 DV a->(∀e∈o.after,Region.binds .any e=true->∀q,DV[e.on]?=some q->a.eval (.tmp q.1)=q.2)->BelX [] W0 w'->∀K:Act->World->Prop,(∀w2,BelX [] W0 w2->K (a.put (some p.1) p.2) w2)->StepG P ops Q o K a w' :=
 fun _ _ hA _ hX _ hK=>StepG.move ho (wanted_none hg) hd ((hA.out _ hD).trans h0) (hK _ hX)
theorem mvVgi {ops:Array Oper} {o:Oper} {a0:Act} {W0:World} {DV:List (Nat × Value)} {p:Nat × Value} {t i dg:Nat} {b:Bool} (g:Edge) (hgm:g∈o.after) (ho:o.op=.move (.tmp t)) (hg:o.guard=some (i,b)) (ho2:((ops[i]?).bind (·.dst))=some dg) (hgb:Region.binds .any g=true) (hgD:DV[g.on]?=some (dg,.bool b)) (hd:o.dst=some p.1) (hD:(DV.all fun p=>p.1 != t)=true) (h0:a0.eval (.tmp t)=p.2) :
  ∀a w',Agree a0 DV a->(∀e∈o.after,Region.binds .any e=true->∀q,DV[e.on]?=some q->a.eval (.tmp q.1)=q.2)->BelX [] W0 w'->∀K:Act->World->Prop,(∀w2,BelX [] W0 w2->K (a.put (some p.1) p.2) w2)->StepG P ops Q o K a w' :=
 fun _ _ hA hdep hX _ hK=>StepG.move ho (wanted_some hg ho2 (hdep g hgm hgb _ hgD)) hd ((hA.out _ hD).trans h0) (hK _ hX)
end
open Go
open Go.RowKit
section
variable {P : Program} {Q : Exit -> Act -> World -> Prop}
def StepsC (P : Program) (ops : Array Oper) (Q : Exit -> Act -> World -> Prop) (a0 : Act) (W1 : World) (S : World -> Prop) (R : Value -> World -> Prop) (DV : List (Nat × Value)) (c : Nat) : Nat -> List Oper -> List (Nat × Value) -> Prop
  | _, _, [] => True
  | k, o :: l, p :: r => (o.dst = some p.1 /\ if k = c then
        (∀ a, Agree a0 DV a -> (∀ e ∈ o.after, Region.binds .any e = true -> e.on ≠ c -> ∀ q, DV[e.on]? = some q -> a.eval (.tmp q.1) = q.2) -> ∀ K : Act -> World -> Prop, (∀ y w2, R y w2 -> K (a.put (some p.1) y) w2) -> StepG P ops Q o K a W1)
      else
        (∀ a w', Agree a0 DV a -> (∀ e ∈ o.after, Region.binds .any e = true -> e.on ≠ c -> ∀ q, DV[e.on]? = some q -> a.eval (.tmp q.1) = q.2) -> S w' -> ∀ K : Act -> World -> Prop, K (a.put (some p.1) p.2) w' -> StepG P ops Q o K a w')) /\
      StepsC P ops Q a0 W1 S R DV c (k + 1) l r
  | _, [], _ :: _ => False
/-- what is known while the operations come up -/
def IC (L:List Oper) (Q:Exit->Act->World->Prop) (a0:Act) (W1:World) (R:Value->World->Prop) (DV:List (Nat × Value)) (c dc n:Nat):(Nat->Bool)->Act->World->Prop :=
 fun s a w=>(s n=true/\(∀j,j < n->s j=true)/\Q .normal a w) ∨
  (s n=false/\(∀k o,k < n->L[k]?=some o->s k=true->∀e∈o.after,Region.binds .any e=true->s e.on=true)/\Agree a0 DV a/\(∀j p,j≠c->DV[j]?=some p->s j=true->a.eval (.tmp p.1)=p.2)/\(s c=false->w=W1)/\(s c=true->R (a.eval (.tmp dc)) w))
theorem stepsC_of {ops:Array Oper} {L:List Oper} {a0:Act} {W1:World} {S:World->Prop} {R:Value->World->Prop} {DV:List (Nat × Value)} {c dc:Nat} {vc:Value} (hn:(DV.map (·.1)).Nodup) (hsz:∀p∈DV,p.1 < a0.tmps.size)
  (hc:DV[c]?=some (dc,vc)) (hS1:S W1) (hS2:∀y w,R y w->S w) (ot:Oper)
  (hot:∀s a w,s DV.length=false->(∀e∈ot.after,Region.binds .any e=true->s e.on=true)->IC L Q a0 W1 R DV c dc DV.length s a w->∀K:Act->World->Prop,(∀a' w',IC L Q a0 W1 R DV c dc DV.length (fun j=>j == DV.length || s j) a' w'->K a' w')->StepG P ops Q ot K a w) :
  ∀(l:List Oper) (r:List (Nat × Value)) (k:Nat),k+r.length=DV.length->l.length=r.length+1->l[r.length]?=some ot->(∀i p,r[i]?=some p->DV[k+i]?=some p)->(∀i o,l[i]?=some o->L[k+i]?=some o)->StepsC P ops Q a0 W1 S R DV c k l r->StepsI P ops Q (IC L Q a0 W1 R DV c dc DV.length) k l
 | [],_,_,_,h2,_,_,_,_=>by simp at h2
 | o :: l,[],k,h1,h2,h3,_,_,_=>by
  have hk:k=DV.length:=by simpa using h1
  have hl:l = []:=by simpa using h2
  have ho:o=ot:=by simpa using h3
  subst hl ho hk;exact⟨fun s a w h4 h5 h6 K hK=>hot s a w h4 h5 h6 K hK,trivial⟩
 | o :: l,p :: r,k,h1,h2,h3,hr,hl,h=>by
  have hkn:k < DV.length:=by simp at h1; omega
  refine⟨?_,stepsC_of hn hsz hc hS1 hS2 ot hot l r (k+1) (by simp at h1 ⊢; omega) (by simpa using h2) (by simpa using h3) (fun i q hq=>by rw[show k+1+i=k+(i+1) by omega]; exact hr (i+1) q hq) (fun i q hq=>by rw[show k+1+i=k+(i+1) by omega]; exact hl (i+1) q hq) h.2⟩;intro s a w hsk hdep hI K hK;have hok:L[k]?=some o:=hl 0 o rfl;have hpk:DV[k]?=some p:=hr 0 p rfl;rcases hI with ⟨-,hall,-⟩ | ⟨hsn,hcl,hA,hV,hW1,hR⟩
  · rw[hall k hkn]at hsk; cases hsk
  have hcl':∀k' o',k' < DV.length->L[k']?=some o'->(k' == k || s k')=true->∀e∈o'.after,Region.binds .any e=true->(e.on == k || s e.on)=true:=fun k' o' hk' ho' hs' e he hb=>by
   by_cases hkk:k'=k
   · subst hkk;rw[hok]at ho';obtain rfl:=Option.some.inj ho';rw[hdep e he hb]; simp
   ·
    have hne:(k' == k)=false:=by simpa using hkk
    rw[hne,Bool.false_or]at hs';rw[hcl k' o' hk' ho' hs' e he hb]; simp
  have hreads:∀e∈o.after,Region.binds .any e=true->e.on≠c->∀q,DV[e.on]?=some q->a.eval (.tmp q.1)=q.2:=fun e he hb hne q hq=>hV e.on q hne hq (hdep e he hb);have hagree:∀u,Agree a0 DV (a.put (some p.1) u):=fun u=>⟨fun t ht=>by
   rw[eval_put_other (all_ne.1 ht p (List.mem_of_getElem? hpk))];exact hA.out t ht,by rw[put_size]; exact hA.size,by rw[put_defers]; exact hA.defers⟩
  have hknb:(DV.length == k)=false:=by simp; omega
  have h0:=h.1.2
  by_cases hkc:k=c
  ·
   rw[if_pos hkc]at h0;have hpc:p=(dc,vc):=by rw[hkc,hc]at hpk; exact(Option.some.inj hpk).symm
   have hw:w=W1:=hW1 (by rw[<-hkc]; exact hsk);rw[hw];refine h0 a hA hreads K fun y w2 hRy=>hK _ _ (.inr ⟨?_,hcl',hagree y,fun j q hj hq hs=>?_,fun hs=>?_,fun _=>?_⟩)
   · show(DV.length == k || s DV.length)=false;rw[hknb,hsn]; rfl
   ·
    have hjk:j≠k:=fun e=>hj (e.trans hkc);rw[eval_put_other (nodup_get hn hpk hq (Ne.symm hjk))];have:(j == k)=false:=by simpa using hjk
    dsimp only at hs;rw[this,Bool.false_or]at hs;exact hV j q hj hq hs
   · rw[hkc]at hs; simp at hs
   · rw[hpc,eval_put_same (by rw[hA.size]; exact hsz (dc,vc) (List.mem_of_getElem? hc))];exact hRy
  ·
   rw[if_neg hkc]at h0;have hSw:S w:=by
    cases hsc:s c with
    | true=>exact hS2 _ _ (hR hsc)
    | false=>rw[hW1 hsc]; exact hS1
   have hdc:p.1≠dc:=nodup_get hn hpk hc hkc;have hck:(c == k)=false:=by simpa using Ne.symm hkc
   refine h0 a w hA hreads hSw K (hK _ _ (.inr ⟨?_,hcl',hagree p.2,fun j q hj hq hs=>?_,fun hs=>?_,fun hs=>?_⟩))
   · show(DV.length == k || s DV.length)=false;rw[hknb,hsn]; rfl
   ·
    by_cases hjk:j=k
    · subst hjk;rw[hpk]at hq;obtain rfl:=Option.some.inj hq;exact eval_put_same (by rw[hA.size]; exact hsz p (List.mem_of_getElem? hpk)) _
    ·
     rw[eval_put_other (nodup_get hn hpk hq (Ne.symm hjk))];have:(j == k)=false:=by simpa using hjk
     dsimp only at hs;rw[this,Bool.false_or]at hs;exact hV j q hj hq hs
   · dsimp only at hs;rw[hck,Bool.false_or]at hs; exact hW1 hs
   · dsimp only at hs;rw[hck,Bool.false_or]at hs;rw[eval_put_other hdc];exact hR hs
theorem wp_region_call1 {id : Nat} {l : List Oper} {a : Act} {w : World} (hm : P.follows .mixedOrders = true) (hdag : dagI 0 l = true) (DV : List (Nat × Value)) (c dc : Nat) (vc : Value) (ot : Oper) (hlen : l.length = DV.length + 1) (hot : l[DV.length]? = some ot) (hog : ot.guard = none)
    (hlast : ((List.range DV.length).all fun j => (ot.after.any fun e => Region.binds .any e && e.on == j) || (List.range DV.length).any fun k => (ot.after.any fun e => Region.binds .any e && e.on == k) && match l[k]? with | some o => o.after.any fun e => Region.binds .any e && e.on == j | none => false) = true) (hc : DV[c]? = some (dc, vc)) (hn : (DV.map (·.1)).Nodup)
    (N : Nat) (hN : a.tmps.size = N) (hN2 : (DV.all fun p => decide (p.1 < N)) = true) (S : World -> Prop) (R : Value -> World -> Prop) (hS1 : S w.drew) (hS2 : ∀ y w', R y w' -> S w')
    (hs : StepsC P l.toArray Q a w.drew S R DV c 0 l DV) (hd : ∀ y w', R y w' -> ot.wp P (putL a (DV.set c (dc, y))) w' (fun a' w2 => Q .normal a' w2) Q) : (Code.region id l.toArray true).wp P Q a w := by
  have hsz : ∀ p ∈ DV, p.1 < a.tmps.size := fun p hp => by
    have := List.all_eq_true.1 hN2 p hp
    rw [hN]; simpa using this
  have hcl := (List.getElem?_eq_some_iff.1 hc).1
  refine wp_region_inv hm hdag (IC l Q a w.drew R DV c dc DV.length) (.inr ⟨by simp; omega, fun k o hk _ hs => by
      have h2 := of_decide_eq_true hs
      omega, ⟨fun _ _ => rfl, rfl, rfl⟩, fun j p _ hj hs => ?_, fun _ => rfl, fun hs => ?_⟩) (stepsC_of hn hsz hc hS1 hS2 ot ?_ l DV 0 (by simp) hlen hot (fun i p h => by rw [Nat.zero_add]; exact h) (fun i o h => by rw [Nat.zero_add]; exact h) hs) fun s a' w' hall hI => ?_
  · have := (List.getElem?_eq_some_iff.1 hj).1
    have h2 := of_decide_eq_true hs
    omega
  · have h2 := of_decide_eq_true hs
    omega
  · intro s a' w' hsn hdep hI K hK
    rcases hI with ⟨h1, -⟩ | ⟨-, hclo, hA, hV, -, hR⟩
    · rw [hsn] at h1; cases h1
    have hdir : ∀ j, (ot.after.any fun e => Region.binds .any e && e.on == j) = true -> s j = true := fun j h1 => by
      obtain ⟨e, he, h2⟩ := Array.any_eq_true'.1 h1
      simp only [Bool.and_eq_true, beq_iff_eq] at h2
      rw [<- h2.2]
      exact hdep e he h2.1
    have hall : ∀ j, j < DV.length -> s j = true := fun j hj => by
      have h1 := List.all_eq_true.1 hlast j (List.mem_range.2 hj)
      rcases Bool.or_eq_true_iff.1 h1 with h1 | h1
      · exact hdir j h1
      · obtain ⟨k, hk, h2⟩ := List.any_eq_true.1 h1
        rw [Bool.and_eq_true] at h2
        have hsk := hdir k h2.1
        cases hlk : l[k]? with
        | none => rw [hlk] at h2; exact absurd h2.2 (by simp)
        | some o =>
          rw [hlk] at h2
          obtain ⟨e, he, h3⟩ := Array.any_eq_true'.1 h2.2
          simp only [Bool.and_eq_true, beq_iff_eq] at h3
          rw [<- h3.2]
          exact hclo k o (List.mem_range.1 hk) hlk hsk e he h3.1
    have hRc := hR (hall c hcl)
    have hset : ((DV.set c (dc, a'.eval (.tmp dc))).map (·.1)) = DV.map (·.1) := by
      rw [List.map_set]
      refine List.ext_getElem? fun j => ?_
      by_cases hj : c = j
      · subst hj
        rw [List.getElem?_set_self (by rw [List.length_map]; exact hcl), List.getElem?_map, hc]; rfl
      · rw [List.getElem?_set_ne hj]
    have e : a' = putL a (DV.set c (dc, a'.eval (.tmp dc))) := by
      refine act_ext (by rw [putL_size]; exact hA.size) (by rw [putL_defers]; exact hA.defers) fun t => ?_
      by_cases ht : ∀ p ∈ DV.set c (dc, a'.eval (.tmp dc)), p.1 ≠ t
      · rw [putL_out _ a t ht]
        refine hA.out t (all_ne.2 fun p hp => ?_)
        have : p.1 ∈ (DV.set c (dc, a'.eval (.tmp dc))).map (·.1) := by rw [hset]; exact List.mem_map.2 ⟨p, hp, rfl⟩
        obtain ⟨q, hq, hqe⟩ := List.mem_map.1 this
        rw [<- hqe]; exact ht q hq
      · obtain ⟨p, hp, rfl⟩ : ∃ p, p ∈ DV.set c (dc, a'.eval (.tmp dc)) /\ p.1 = t := by
          apply Classical.byContradiction
          intro h
          exact ht fun p hp e => h ⟨p, hp, e⟩
        rw [putL_in _ a (by rw [hset]; exact hn) (fun q hq => by
          have : q.1 ∈ (DV.set c (dc, a'.eval (.tmp dc))).map (·.1) := List.mem_map.2 ⟨q, hq, rfl⟩
          rw [hset] at this
          obtain ⟨u, hu, hue⟩ := List.mem_map.1 this
          rw [<- hue]; exact hsz u hu) p hp]
        obtain ⟨j, hj⟩ := List.mem_iff_getElem?.1 hp
        by_cases hjc : c = j
        · subst hjc
          rw [List.getElem?_set_self hcl] at hj
          rw [<- Option.some.inj hj]
        · rw [List.getElem?_set_ne hjc] at hj
          exact hV j p (Ne.symm hjc) hj (hall j (List.getElem?_eq_some_iff.1 hj).1)
    have hfin := hd _ _ hRc
    rw [<- e] at hfin
    refine StepG.mk hog (Oper.wp_mono (fun a2 w2 h2 => hK _ _ (.inl ⟨by simp, fun j hj => ?_, h2⟩)) hfin)
    show (j == DV.length || s j) = true
    rw [hall j hj]; simp
  · rcases hI with ⟨-, -, h⟩ | ⟨h, -⟩
    · exact h
    · rw [hall DV.length (by omega)] at h; cases h
theorem StepG.callE {ops:Array Oper} {o:Oper} {K:Act->World->Prop} {a:Act} {w:World} {d f:Nat} {args:Array Value} {R:Value->World->Prop} (hg:Region.wanted o (yielded ops a.tmps)=true) (hd:o.dst=some d) (h:(execOp a.eval o).run P w=.ok (.enter f args) w)
  (hc:Calls P f args w fun e w'=>∃y,e=.returned y/\R y w') (hK:∀y w',R y w'->K (a.put (some d) y) w'):StepG P ops Q o K a w:=by
 unfold StepG;rw[if_pos hg];unfold Oper.wp;rw[h,Oper.upon_enter];refine hc.mono ?_;rintro e w' ⟨y,rfl,hR⟩;rw[hd];exact hK y w' hR
theorem dpc {o:Oper} {DV:List (Nat × Value)} {a:Act} {c:Nat} (hdep:∀e∈o.after,Region.binds .any e=true->e.on≠c->∀q,DV[e.on]?=some q->a.eval (.tmp q.1)=q.2) (j:Edge) (hj:j∈o.after) (hc:j.on≠c) {t:Nat} {v:Value} (hb:Region.binds .any j=true) (hD:DV[j.on]?=some (t,v)):a.eval (.tmp t)=v/\a.tmps[t]?.getD undef=v :=
 ⟨hdep j hj hb hc _ hD,eval_get (hdep j hj hb hc _ hD)⟩
theorem mvCi {ops:Array Oper} {o:Oper} {a0:Act} {S:World->Prop} {X:Prop} {k c:Nat} {DV:List (Nat × Value)} {p:Nat × Value} {t:Nat} (hk:¬k=c) (ho:o.op=.move (.tmp t)) (hg:o.guard=none) (hd:o.dst=some p.1) (hD:(DV.all fun p=>p.1 != t)=true) (h0:a0.eval (.tmp t)=p.2) :
  if k=c then X else ∀a w',Agree a0 DV a->(∀e∈o.after,Region.binds .any e=true->e.on≠c->∀q,DV[e.on]?=some q->a.eval (.tmp q.1)=q.2)->S w'->∀K:Act->World->Prop,K (a.put (some p.1) p.2) w'->StepG P ops Q o K a w':=by
 rw[if_neg hk];exact fun _ _ hA _ _ _ hK=>StepG.move ho (wanted_none hg) hd ((hA.out _ hD).trans h0) hK
end
open Go.ChangeMaps Go.Maps
def InInt (i:Int):Prop:=-9223372036854775808<=i/\i<=9223372036854775807
/-- the entries: keys that are ints, no two alike; f tells what is found -/
def EntOf (l:List MapEntry) (f:Int->Option Value):Prop :=
 (∀e∈l,∃i,e.key=.int .i64 i/\InInt i)/\l.Pairwise (fun a b=>a.key≠b.key)/\∀i v,f i=some v↔∃e∈l,e.key=.int .i64 i/\e.val=v
/-- the stamps of the entries: below the clock, no two alike -/
def Stamps (l:List MapEntry) (c:Nat):Prop:=(∀e∈l,e.born < c)/\(l.map (·.born)).Nodup
def MapIs (w:World) (b:Nat) (f:Int->Option Value):Prop:=∃es clock,w.heap[b]?=some (.map es clock)/\EntOf es.toList f/\Stamps es.toList clock
theorem stamps_push {l:List MapEntry} {c:Nat} (h:Stamps l c) (k v:Value):Stamps (l ++ [⟨k,v,c⟩]) (c+1):=by
 obtain⟨h1,h2⟩:=h;refine⟨fun e he=>?_,?_⟩
 ·
  rcases List.mem_append.1 he with he | he
  · have:=h1 e he; omega
  · rw[List.mem_singleton.1 he]; exact Nat.lt_succ_self c
 ·
  rw[List.map_append,List.nodup_append];refine⟨h2,by simp,fun a ha b hb=>?_⟩;obtain⟨e,he,rfl⟩:=List.mem_map.1 ha;have h3:=h1 e he;have h4:b=c:=by simpa using hb
  omega
theorem stamps_set {l:List MapEntry} {c:Nat} (h:Stamps l c) {n:Nat} {e0:MapEntry} (hn:l[n]?=some e0) (k v:Value):Stamps (l.set n { e0 with key:=k,val:=v }) c:=by
 obtain⟨h1,h2⟩:=h;have e1:(l.set n { e0 with key:=k,val:=v }).map (·.born)=l.map (·.born):=by
  rw[List.map_set];obtain⟨hl,he⟩:=List.getElem?_eq_some_iff.1 hn;refine List.ext_getElem? fun m=>?_
  by_cases hnm:n=m
  · subst hnm;rw[List.getElem?_set_self (by rw[List.length_map]; exact hl),List.getElem?_map,hn];rfl
  · rw[List.getElem?_set_ne hnm]
 refine⟨fun e he=>?_,by rw[e1]; exact h2⟩;rcases List.mem_or_eq_of_mem_set he with he | he
 · exact h1 e he
 · rw[he]; exact h1 e0 (List.mem_of_getElem? hn)
theorem stamps_sub {l l':List MapEntry} {c:Nat} (h:Stamps l c) (hs:l'.Sublist l):Stamps l' c :=
 ⟨fun e he=>h.1 e (hs.subset he),h.2.sublist (hs.map _)⟩
theorem MapIs.lt {w:World} {b:Nat} {f:Int->Option Value} (h:MapIs w b f):b < w.heap.size:=by
 obtain⟨es,clock,hb,-⟩:=h;exact blk_lt hb
theorem MapIs.of_block {w w':World} {b:Nat} {f:Int->Option Value} (h:MapIs w b f) (hb:w'.heap[b]?=w.heap[b]?):MapIs w' b f:=by
 obtain⟨es,clock,h1,h2⟩:=h;exact⟨es,clock,hb.trans h1,h2⟩
theorem mapIs_new (w:World):MapIs (w.alloc (.map #[] 0)) w.heap.size (fun _=>none) :=
 ⟨#[],0,blk_new w _,⟨by simp,by simp,by simp⟩,⟨by simp,by simp⟩⟩
theorem wf_int {i:Int} (h:InInt i):(Lit.int .i64 i).wf=true:=by
 obtain⟨h1,h2⟩:=h;simp[Lit.wf,IntKind.min,IntKind.max,IntKind.signed,IntKind.bits];omega
theorem ent_push {l:List MapEntry} {f:Int->Option Value} (h:EntOf l f) {i:Int} (hi:InInt i) (hn:∀e∈l,e.key≠.int .i64 i) (v:Value) (c:Nat):EntOf (l ++ [⟨.int .i64 i,v,c⟩]) (fun j=>if j=i then some v else f j):=by
 obtain⟨h1,h2,h3⟩:=h;refine⟨?_,?_,?_⟩
 ·
  intro e he;rcases List.mem_append.1 he with he | he
  · exact h1 e he
  · rw[List.mem_singleton.1 he]; exact⟨i,rfl,hi⟩
 · rw[List.pairwise_append];refine⟨h2,by simp,?_⟩;intro a ha b hb;rw[List.mem_singleton.1 hb];exact hn a ha
 ·
  intro j u;dsimp only
  by_cases hj:j=i
  ·
   subst hj;rw[if_pos rfl];constructor
   · intro h; exact⟨_,List.mem_append_right _ (List.mem_singleton.2 rfl),rfl,Option.some.inj h⟩
   ·
    rintro ⟨e,he,e1,e2⟩;rcases List.mem_append.1 he with he | he
    · exact absurd e1 (hn e he)
    · rw[List.mem_singleton.1 he]at e2; rw[<-e2]
  ·
   rw[if_neg hj,h3];constructor
   · rintro ⟨e,he,h⟩; exact⟨e,List.mem_append_left _ he,h⟩
   ·
    rintro ⟨e,he,e1,e2⟩;rcases List.mem_append.1 he with he | he
    · exact⟨e,he,e1,e2⟩
    · rw[List.mem_singleton.1 he]at e1;simp at e1;exact absurd e1.symm hj
theorem ent_modify {l:List MapEntry} {f:Int->Option Value} (h:EntOf l f) {i:Int} (hi:InInt i) {n:Nat} {e0:MapEntry} (hn:l[n]?=some e0) (he0:e0.key=.int .i64 i) (v:Value) :
  EntOf (l.set n { e0 with key:=.int .i64 i,val:=v }) (fun j=>if j=i then some v else f j):=by
 obtain⟨h1,h2,h3⟩:=h;have hlt:=(List.getElem?_eq_some_iff.1 hn).1;have hmem:∀e,e∈l.set n { e0 with key:=.int .i64 i,val:=v }↔(e = { e0 with key:=.int .i64 i,val:=v }∨(e∈l/\e.key≠.int .i64 i)):=by
  intro e;constructor
  ·
   intro he;obtain⟨m,hm⟩:=List.mem_iff_getElem?.1 he
   by_cases hne:n=m
   · subst hne;rw[List.getElem?_set_self hlt]at hm; exact .inl (Option.some.inj hm).symm
   ·
    rw[List.getElem?_set_ne hne]at hm;refine .inr ⟨List.mem_of_getElem? hm,?_⟩;intro hk2;obtain⟨hm1,hm2⟩:=List.getElem?_eq_some_iff.1 hm;obtain⟨hn1,hn2⟩:=List.getElem?_eq_some_iff.1 hn;have hp:=List.pairwise_iff_getElem.1 h2;rcases Nat.lt_or_gt_of_ne hne with h | h
    · exact hp n m hn1 hm1 h (by rw[hm2,hn2,he0,hk2])
    · exact hp m n hm1 hn1 h (by rw[hm2,hn2,he0,hk2])
  ·
   rintro (rfl | ⟨he,hke⟩)
   · exact List.mem_iff_getElem?.2 ⟨n,List.getElem?_set_self hlt⟩
   · obtain⟨m,hm⟩:=List.mem_iff_getElem?.1 he;refine List.mem_iff_getElem?.2 ⟨m,?_⟩;rw[List.getElem?_set_ne,hm];rintro rfl;rw[hn]at hm;exact hke (by rw[<-Option.some.inj hm]; exact he0)
 refine⟨?_,?_,?_⟩
 ·
  intro e he;rcases (hmem e).1 he with rfl | ⟨he,-⟩
  · exact⟨i,rfl,hi⟩
  · exact h1 e he
 ·
  have hkeys:(l.set n { e0 with key:=.int .i64 i,val:=v }).map (·.key)=l.map (·.key):=by
   rw[List.map_set];refine List.ext_getElem? fun m=>?_
   by_cases hnm:n=m
   · subst hnm;rw[List.getElem?_set_self (by rw[List.length_map]; exact hlt),List.getElem?_map,hn];simp[he0]
   · rw[List.getElem?_set_ne hnm]
  have:=List.pairwise_map.2 h2;rw[<-hkeys]at this;exact List.pairwise_map.1 this
 ·
  intro j u;dsimp only
  by_cases hj:j=i
  ·
   subst hj;rw[if_pos rfl];constructor
   · intro h; exact⟨_,(hmem _).2 (.inl rfl),rfl,Option.some.inj h⟩
   ·
    rintro ⟨e,he,e1,e2⟩;rcases (hmem e).1 he with rfl | ⟨-,hne⟩
    · rw[<-e2]
    · exact absurd e1 hne
  ·
   rw[if_neg hj,h3];constructor
   · rintro ⟨e,he,e1,e2⟩;refine⟨e,(hmem e).2 (.inr ⟨he,?_⟩),e1,e2⟩;rw[e1]; intro h; simp at h; exact hj h
   ·
    rintro ⟨e,he,e1,e2⟩;rcases (hmem e).1 he with rfl | ⟨he,-⟩
    · simp at e1; exact absurd e1.symm hj
    · exact⟨e,he,e1,e2⟩
theorem ent_erase {l:List MapEntry} {f:Int->Option Value} (h:EntOf l f) {i:Int} {n:Nat} {e0:MapEntry} (hn:l[n]?=some e0) (he0:e0.key=.int .i64 i):EntOf (l.eraseIdx n) (fun j=>if j=i then none else f j):=by
 obtain⟨h1,h2,h3⟩:=h;have hsub:(l.eraseIdx n).Sublist l:=List.eraseIdx_sublist _ _;have hlt:=(List.getElem?_eq_some_iff.1 hn).1;have hmem:∀e,e∈l.eraseIdx n↔(e∈l/\e.key≠.int .i64 i):=by
  intro e;rw[List.mem_eraseIdx_iff_getElem?];constructor
  ·
   rintro ⟨m,hne,hm⟩;refine⟨List.mem_of_getElem? hm,?_⟩;intro hk2;obtain⟨hm1,hm2⟩:=List.getElem?_eq_some_iff.1 hm;obtain⟨hn1,hn2⟩:=List.getElem?_eq_some_iff.1 hn;have hp:=List.pairwise_iff_getElem.1 h2;rcases Nat.lt_or_gt_of_ne hne with h | h
   · exact hp m n hm1 hn1 h (by rw[hm2,hn2,he0,hk2])
   · exact hp n m hn1 hm1 h (by rw[hm2,hn2,he0,hk2])
  · rintro ⟨he,hke⟩;obtain⟨m,hm⟩:=List.mem_iff_getElem?.1 he;refine⟨m,?_,hm⟩;rintro rfl;rw[hn]at hm;exact hke (by rw[<-Option.some.inj hm]; exact he0)
 refine⟨fun e he=>h1 e (hsub.subset he),h2.sublist hsub,?_⟩;intro j u;dsimp only
 by_cases hj:j=i
 ·
  subst hj;rw[if_pos rfl];constructor
  · intro h; cases h
  · rintro ⟨e,he,e1,-⟩;exact absurd e1 ((hmem e).1 he).2
 ·
  rw[if_neg hj,h3];constructor
  · rintro ⟨e,he,e1,e2⟩;refine⟨e,(hmem e).2 ⟨he,?_⟩,e1,e2⟩;rw[e1]; intro h; simp at h; exact hj h
  · rintro ⟨e,he,e1,e2⟩;exact⟨e,((hmem e).1 he).1,e1,e2⟩
section
variable {P : Program} {k : TypeId} (hk : P.underlying k = some (.int .i64))
include hk
theorem ent_find {l:List MapEntry} {f:Int->Option Value} (h:EntOf l f) (w:World) {i:Int} (hi:InInt i) :
  ((Instr.findKey k (.int .i64 i) l).run P w=.ok none w/\f i=none/\∀e∈l,e.key≠.int .i64 i) ∨
  ∃j e,(Instr.findKey k (.int .i64 i) l).run P w=.ok (some (j,e.val)) w/\l[j]?=some e/\e.key=.int .i64 i/\f i=some e.val:=by
 obtain⟨h1,h2,h3⟩:=h;rcases (int_keyed hk).find w (keyOf_int_mk hk (wf_int hi)) l (fun e he=>by
  obtain⟨j,ej,hj⟩:=h1 e he;exact⟨_,by rw[ej]; exact keyOf_int_mk hk (wf_int hj)⟩) with ⟨r1,r2⟩ | ⟨j,e,r1,r2,r3⟩
 ·
  refine .inl ⟨r1,?_,r2⟩;cases hf:f i with
  | none=>rfl
  | some v =>
   obtain⟨e,he,hek,-⟩:=(h3 i v).1 hf;exact absurd hek (r2 e he)
 · exact .inr ⟨j,e,r1,r2,r3,(h3 i e.val).2 ⟨e,List.mem_of_getElem? r2,r3,rfl⟩⟩
theorem MapIs.look {w:World} {b:Nat} {f:Int->Option Value} (h:MapIs w b f) {t e:TypeId} (ht:P.underlying t=some (.map k e)) {z:Value} (hz:(zeroValue e).run P w=.ok z w) {i:Int} (hi:InInt i) (c:Bool) :
  (Instr.lookup t (.map (some b)) (.int .i64 i) c).run P w=.ok (if c then .tuple #[(f i).getD z,.bool (f i).isSome] else (f i).getD z) w:=by
 obtain⟨es,clock,hb,h,-⟩:=h;have hkey:=keyOf_int_mk hk (wf_int hi);rcases ent_find hk h w hi with ⟨r1,r2,-⟩ | ⟨j,e0,r1,r2,r3,r4⟩
 · rw[r2];cases c <;> simp[Instr.lookup,run_underlying ht,MapKept.run_getObj_map hb,(int_keyed hk).check w _ hkey,r1,hz,Result.andThen]
 · rw[r4];cases c <;> simp[Instr.lookup,run_underlying ht,MapKept.run_getObj_map hb,(int_keyed hk).check w _ hkey,r1,Result.andThen]
/-- m[i] = v -/
theorem MapIs.put {w:World} {b:Nat} {f:Int->Option Value} (h:MapIs w b f) {t e:TypeId} (ht:P.underlying t=some (.map k e)) {i:Int} (hi:InInt i) (v:Value) :
  ∃o,(Instr.mapUpdate t (.map (some b)) (.int .i64 i) v).run P w=.ok () (setBlock w b o)/\MapIs (setBlock w b o) b (fun j=>if j=i then some v else f j):=by
 obtain⟨es,clock,hb,h,hsp⟩:=h;have hkey:=keyOf_int_mk hk (wf_int hi);have hnew:∀o:Obj,(setBlock w b o).heap[b]?=some o:=fun o=>(MapKept.heap_set hb).1;rcases ent_find hk h w hi with ⟨r1,r2,r3⟩ | ⟨j,e0,r1,r2,r3,r4⟩
 ·
  refine⟨.map (es.push ⟨.int .i64 i,v,clock⟩) (clock+1),?_,?_⟩
  · simp[Instr.mapUpdate,run_underlying ht,MapKept.run_getObj_map hb,(int_keyed hk).check w false hkey,r1,MapKept.run_setObj_map _ hb,Result.andThen,setBlock]
  · exact⟨_,_,hnew _,by rw[Array.toList_push]; exact ent_push h hi r3 v clock,by rw[Array.toList_push]; exact stamps_push hsp _ _⟩
 ·
  have hst:=(int_keyed hk).stays w hkey;have hj:es[j]?=some e0:=by rw[<-Array.getElem?_toList]; exact r2
  refine⟨.map (es.modify j fun x=>{ x with key:=.int .i64 i,val:=v }) clock,?_,?_⟩
  · simp[Instr.mapUpdate,run_underlying ht,MapKept.run_getObj_map hb,(int_keyed hk).check w false hkey,r1,hj,r3,hst,MapKept.run_setObj_map _ hb,Result.andThen,setBlock]
  ·
   refine⟨_,_,hnew _,?_⟩;have e1:(es.modify j fun x=>{ x with key:=.int .i64 i,val:=v }).toList=es.toList.set j { e0 with key:=.int .i64 i,val:=v }:=by
    refine List.ext_getElem? fun m=>?_;rw[Array.getElem?_toList,Array.getElem?_modify]
    by_cases hjm:j=m
    · subst hjm;have:=(List.getElem?_eq_some_iff.1 r2).1;rw[List.getElem?_set_self this,if_pos rfl,hj]; rfl
    · rw[List.getElem?_set_ne hjm,if_neg hjm,Array.getElem?_toList]
   rw[e1];exact⟨ent_modify h hi r2 r3 v,stamps_set hsp r2 _ _⟩
/-- delete(m, i) -/
theorem MapIs.drop {w:World} {b:Nat} {f:Int->Option Value} (h:MapIs w b f) {t e ty:TypeId} (ht:P.underlying t=some (.map k e)) {i:Int} (hi:InInt i) :
  ∃o,(Builtin.delete_ #[t,k] ty #[.map (some b),.int .i64 i]).run P w=.ok (.tuple #[]) (setBlock w b o)/\MapIs (setBlock w b o) b (fun j=>if j=i then none else f j):=by
 obtain⟨es,clock,hb,h,hsp⟩:=h;have hkey:=keyOf_int_mk hk (wf_int hi);have hnew:∀o:Obj,(setBlock w b o).heap[b]?=some o:=fun o=>(MapKept.heap_set hb).1;rcases ent_find hk h w hi with ⟨r1,r2,r3⟩ | ⟨j,e0,r1,r2,r3,r4⟩
 ·
  refine⟨.map es clock,?_,?_⟩
  · simp[Builtin.delete_,run_underlying ht,MapKept.run_getObj_map hb,(int_keyed hk).check w _ hkey,r1,MapKept.run_setObj_map _ hb,Result.andThen,setBlock]
  ·
   refine⟨_,_,hnew _,?_⟩;have:(fun j=>if j=i then none else f j)=f:=by
    funext j
    by_cases hj:j=i
    · rw[if_pos hj,hj,r2]
    · rw[if_neg hj]
   rw[this]; exact⟨h,hsp⟩
 ·
  have hjs:j < es.size:=by simpa using (List.getElem?_eq_some_iff.1 r2).1
  refine⟨.map (es.eraseIdxIfInBounds j) clock,?_,?_⟩
  · simp[Builtin.delete_,run_underlying ht,MapKept.run_getObj_map hb,(int_keyed hk).check w _ hkey,r1,MapKept.run_setObj_map _ hb,Result.andThen,setBlock]
  ·
   refine⟨_,_,hnew _,?_⟩;have e1:(es.eraseIdxIfInBounds j).toList=es.toList.eraseIdx j:=by
    unfold Array.eraseIdxIfInBounds;rw[dif_pos hjs];simp
   rw[e1];exact⟨ent_erase h r2 r3,stamps_sub hsp (List.eraseIdx_sublist _ _)⟩
end
theorem BelX.setBlk {bs:List Nat} {w w':World} (h:BelX bs w w') {b:Nat} (hb:b∈bs) (o:Obj):BelX bs w (setBlock w' b o) :=
 ⟨h.os,h.tape,h.output,by have:=h.size; simp[setBlock]; exact this,fun k hk hn=>by
  have e:(setBlock w' b o).heap[k]?=w'.heap[k]?:=by
   simp only[setBlock];rw[Array.getElem?_setIfInBounds,if_neg];intro e;exact hn (by rw[<-e]; exact hb)
  exact e.trans (h.block k hk hn)⟩
end Go.Proofs.YtaffkceklkdokaaGreatDoor
/- Sets of places as Bool functions: the smallest and the greatest one, shelves and spots; what a further place, or one less, does to them. -/
namespace Go.Proofs.YtaffkceklkdokaaGreatDoor.RK
/-- the number of places of an order -/
def R:Nat->Nat
 | 0=>2
 | k+1=>R k * R k
theorem R_pos:∀k,2<=R k
 | 0=>Nat.le_refl _
 | k+1=>by
  have h:=R_pos k;have:2 * 2<=R k * R k:=Nat.mul_le_mul h h;rw[R]; omega
abbrev S:=Nat->Bool
def Supp (k:Nat) (m:S):Prop:=∀x,m x=true->x < R k
def Emp (m:S):Prop:=∀x,m x=false
def IsMin (m:S) (a:Nat):Prop:=m a=true/\∀x,m x=true->a<=x
def IsMax (m:S) (b:Nat):Prop:=m b=true/\∀x,m x=true->x<=b
theorem IsMin.unique {m:S} {a b:Nat} (h:IsMin m a) (h':IsMin m b):a=b:=Nat.le_antisymm (h.2 b h'.1) (h'.2 a h.1)
theorem IsMax.unique {m:S} {a b:Nat} (h:IsMax m a) (h':IsMax m b):a=b:=Nat.le_antisymm (h'.2 a h.1) (h.2 b h'.1)
theorem not_emp {m:S} (h:¬Emp m):∃x,m x=true:=by
 rcases Classical.em (∃x,m x=true) with h1 | h1
 · exact h1
 ·
  exfalso; apply h; intro x;cases hx:m x
  · rfl
  · exact absurd ⟨x,hx⟩ h1
theorem exists_min {m:S} (h:¬Emp m):∃a,IsMin m a:=by
 obtain⟨x,hx⟩:=not_emp h;have:∀n x,x<=n->m x=true->∃a,IsMin m a:=by
  intro n
  induction n with
  | zero =>
   intro x hxn hx;exact⟨x,hx,fun y _=>by omega⟩
  | succ n ih =>
   intro x hxn hx;rcases Classical.em (∃y,y < x/\m y=true) with ⟨y,hy,hy'⟩ | h1
   · exact ih y (by omega) hy'
   ·
    exact⟨x,hx,fun y hy=>by
     rcases Nat.lt_or_ge y x with h2 | h2
     · exact absurd ⟨y,h2,hy⟩ h1
     · exact h2⟩
 exact this x x (Nat.le_refl _) hx
theorem exists_max {m:S} {k:Nat} (hs:Supp k m) (h:¬Emp m):∃b,IsMax m b:=by
 obtain⟨x,hx⟩:=not_emp h;have:∀n x,R k-x<=n->m x=true->∃b,IsMax m b:=by
  intro n
  induction n with
  | zero =>
   intro x hxn hx;have:=hs x hx;omega
  | succ n ih =>
   intro x hxn hx;rcases Classical.em (∃y,x < y/\m y=true) with ⟨y,hy,hy'⟩ | h1
   · have:=hs x hx;exact ih y (by omega) hy'
   ·
    exact⟨x,hx,fun y hy=>by
     rcases Nat.lt_or_ge x y with h2 | h2
     · exact absurd ⟨y,h2,hy⟩ h1
     · exact h2⟩
 exact this _ x (Nat.le_refl _) hx
/-- with a further place, and with one less -/
def ins (m:S) (x:Nat):S:=fun y=>decide (y=x) || m y
theorem ins_iff (m:S) (x y:Nat):ins m x y=true↔y=x∨m y=true:=by unfold ins; simp
theorem ext_iff {m n:S} (h:∀x,m x=true↔n x=true):m=n:=by
 funext x
 have:=h x;cases hm:m x <;> cases hn:n x <;> simp_all
theorem ins_same {m:S} {x:Nat} (h:m x=true):ins m x=m:=ext_iff fun y=>by
 rw[ins_iff];constructor
 ·
  rintro (rfl | h1)
  · exact h
  · exact h1
 · exact .inr
theorem ins_supp {k:Nat} {m:S} (h:Supp k m) {x:Nat} (hx:x < R k):Supp k (ins m x):=fun y hy=>by
 rcases (ins_iff m x y).1 hy with rfl | h1
 · exact hx
 · exact h y h1
/-- the spots in a shelf, but for the smallest place; the shelves -/
def spot (k:Nat) (m:S) (a s:Nat):S:=fun y=>decide (y < R k) && (m (s * R k+y) && !decide (s * R k+y=a))
def shelves (k:Nat) (m:S) (a:Nat):S:=fun s=>decide (s < R k) && (List.range (R k)).any (spot k m a s)
theorem spot_iff (k:Nat) (m:S) (a s y:Nat):spot k m a s y=true↔y < R k/\m (s * R k+y)=true/\s * R k+y≠a:=by unfold spot; simp
theorem shelves_iff (k:Nat) (m:S) (a s:Nat):shelves k m a s=true↔s < R k/\∃y,spot k m a s y=true:=by
 unfold shelves;simp only[Bool.and_eq_true,decide_eq_true_eq,List.any_eq_true,List.mem_range];constructor
 · rintro ⟨h1,y,-,h2⟩; exact⟨h1,y,h2⟩
 · rintro ⟨h1,y,h2⟩; exact⟨h1,y,((spot_iff k m a s y).1 h2).1,h2⟩
theorem spot_supp (k:Nat) (m:S) (a s:Nat):Supp k (spot k m a s):=fun y hy=>((spot_iff k m a s y).1 hy).1
theorem shelves_supp (k:Nat) (m:S) (a:Nat):Supp k (shelves k m a):=fun s hs=>((shelves_iff k m a s).1 hs).1
theorem shelf_none {k:Nat} {m:S} {a s:Nat} (h:shelves k m a s=false) (hs:s < R k):Emp (spot k m a s):=fun y=>by
 cases hy:spot k m a s y
 · rfl
 · have:=(shelves_iff k m a s).2 ⟨hs,y,hy⟩;rw[h]at this; cases this
theorem split_lt {k x:Nat} (h:x < R (k+1)):x / R k < R k/\x % R k < R k:=by
 have:=R_pos k;exact⟨(Nat.div_lt_iff_lt_mul (by omega)).2 h,Nat.mod_lt _ (by omega)⟩
theorem join_split (k x:Nat):x / R k * R k+x % R k=x:=by rw[Nat.mul_comm]; exact Nat.div_add_mod x (R k)
theorem split_join {k s y:Nat} (hy:y < R k):(s * R k+y) / R k=s/\(s * R k+y) % R k=y:=by
 have:=R_pos k;constructor
 · rw[Nat.mul_comm,Nat.mul_add_div (by omega),Nat.div_eq_of_lt hy,Nat.add_zero]
 · rw[Nat.mul_comm,Nat.mul_add_mod,Nat.mod_eq_of_lt hy]
theorem join_eq {k s y x:Nat} (hy:y < R k):s * R k+y=x↔s=x / R k/\y=x % R k:=by
 constructor
 · rintro rfl;obtain⟨h1,h2⟩:=split_join (s:=s) hy;rw[h1,h2]; exact⟨rfl,rfl⟩
 · rintro ⟨rfl,rfl⟩; exact join_split k x
/-- a place other than the smallest one stands in its shelf -/
theorem mem_iff {k:Nat} {m:S} (hs:Supp (k+1) m) {a x:Nat} (hx:x≠a):m x=true↔shelves k m a (x / R k)=true/\spot k m a (x / R k) (x % R k)=true:=by
 have hr:=R_pos k;constructor
 · intro h;have hl:=split_lt (hs x h);have h1:spot k m a (x / R k) (x % R k)=true:=(spot_iff _ _ _ _ _).2 ⟨hl.2,by rw[join_split]; exact h,by rw[join_split]; exact hx⟩;exact⟨(shelves_iff _ _ _ _).2 ⟨hl.1,_,h1⟩,h1⟩
 · rintro ⟨-,h⟩;have:=((spot_iff _ _ _ _ _).1 h).2.1;rw[join_split]at this;exact this
/-- a set with the places of m but a, and y more: the spots and shelves have y more -/
theorem spot_ins {k:Nat} {m n:S} {a a' y:Nat} (h:∀x,(n x=true/\x≠a')↔((m x=true/\x≠a)∨x=y)) (s:Nat) :
  spot k n a' s=if s=y / R k then ins (spot k m a s) (y % R k) else spot k m a s:=by
 refine ext_iff fun z=>?_;have hr:=R_pos k;rw[spot_iff,h]
 by_cases hs:s=y / R k
 ·
  rw[if_pos hs,ins_iff,spot_iff];constructor
  ·
   rintro ⟨h1,h2 | h2⟩
   · exact .inr ⟨h1,h2⟩
   · exact .inl ((join_eq h1).1 h2).2
  ·
   rintro (h1 | ⟨h1,h2⟩)
   ·
    have:z < R k:=by rw[h1]; exact Nat.mod_lt _ (by omega)
    exact⟨this,.inr ((join_eq this).2 ⟨hs,h1⟩)⟩
   · exact⟨h1,.inl h2⟩
 ·
  rw[if_neg hs,spot_iff];constructor
  ·
   rintro ⟨h1,h2 | h2⟩
   · exact⟨h1,h2⟩
   · exact absurd ((join_eq h1).1 h2).1 hs
  · rintro ⟨h1,h2⟩; exact⟨h1,.inl h2⟩
theorem shelves_ins {k:Nat} {m n:S} {a a' y:Nat} (hy:y < R (k+1)) (h:∀x,(n x=true/\x≠a')↔((m x=true/\x≠a)∨x=y)) :
  shelves k n a'=ins (shelves k m a) (y / R k):=by
 refine ext_iff fun s=>?_;have hl:=split_lt hy;rw[shelves_iff,ins_iff,shelves_iff,spot_ins h s]
 by_cases hs:s=y / R k
 ·
  rw[if_pos hs];constructor
  · intro _; exact .inl hs
  · intro _; exact⟨by rw[hs]; exact hl.1,y % R k,(ins_iff _ _ _).2 (.inl rfl)⟩
 ·
  rw[if_neg hs];constructor
  · exact .inr
  ·
   rintro (h1 | h1)
   · exact absurd h1 hs
   · exact h1
/-- a further place: the smallest one, and which place stands in the shelves -/
theorem ins_low {m:S} {a x:Nat} (ha:IsMin m a) (hx:x < a):IsMin (ins m x) x/\∀z,(ins m x z=true/\z≠x)↔((m z=true/\z≠a)∨z=a):=by
 refine⟨⟨(ins_iff _ _ _).2 (.inl rfl),fun y hy=>?_⟩,fun z=>?_⟩
 ·
  rcases (ins_iff _ _ _).1 hy with rfl | h
  · exact Nat.le_refl _
  · have:=ha.2 y h; omega
 ·
  rw[ins_iff];constructor
  ·
   rintro ⟨h1 | h1,h2⟩
   · exact absurd h1 h2
   ·
    by_cases e:z=a
    · exact .inr e
    · exact .inl ⟨h1,e⟩
  ·
   rintro (⟨h1,h2⟩ | rfl)
   · have:=ha.2 z h1;exact⟨.inr h1,by omega⟩
   · exact⟨.inr ha.1,by omega⟩
theorem ins_high {m:S} {a x:Nat} (ha:IsMin m a) (hx:¬x < a) (hm:m x=false):IsMin (ins m x) a/\∀z,(ins m x z=true/\z≠a)↔((m z=true/\z≠a)∨z=x):=by
 refine⟨⟨(ins_iff _ _ _).2 (.inr ha.1),fun y hy=>?_⟩,fun z=>?_⟩
 ·
  rcases (ins_iff _ _ _).1 hy with rfl | h
  · omega
  · exact ha.2 y h
 ·
  rw[ins_iff];have hxa:x≠a:=by rintro rfl; rw[ha.1]at hm; cases hm
  constructor
  ·
   rintro ⟨h1 | h1,h2⟩
   · exact .inr h1
   · exact .inl ⟨h1,h2⟩
  ·
   rintro (⟨h1,h2⟩ | rfl)
   · exact⟨.inr h1,h2⟩
   · exact⟨.inl rfl,hxa⟩
theorem ins_max {m:S} {b x:Nat} (hb:IsMax m b):IsMax (ins m x) (max b x):=by
 refine⟨?_,fun y hy=>?_⟩
 ·
  rw[ins_iff];rcases Nat.le_total b x with h | h
  · left; omega
  · right; rw[Nat.max_eq_left h]; exact hb.1
 ·
  rcases (ins_iff _ _ _).1 hy with rfl | h
  · omega
  · have:=hb.2 y h; omega
end Go.Proofs.YtaffkceklkdokaaGreatDoor.RK
/- Sets of places: what one less does; the next place and the work of finding it; the shape as a text; the list. -/
namespace Go.Proofs.YtaffkceklkdokaaGreatDoor.RK
/-- the smallest and the greatest place, reckoned -/
def mn (k:Nat) (m:S):Option Nat:=(List.range (R k)).find? m
def mx (k:Nat) (m:S):Option Nat:=(List.range (R k)).reverse.find? m
theorem mn_none {k:Nat} {m:S} (hs:Supp k m):mn k m=none↔Emp m:=by
 unfold mn;rw[List.find?_eq_none];constructor
 ·
  intro h x;cases hx:m x
  · rfl
  · exact absurd hx (h x (List.mem_range.2 (hs x hx)))
 · intro h x _ hx;rw[h x]at hx; cases hx
theorem mn_some {k:Nat} {m:S} (hs:Supp k m) {a:Nat}:mn k m=some a↔IsMin m a:=by
 constructor
 ·
  intro h;have hma:m a=true:=by
   unfold mn at h;exact List.find?_some h
  obtain⟨c,hc⟩:=exists_min (m:=m) (fun he=>by rw[he a]at hma; cases hma);unfold mn at h;rw[List.find?_eq_some_iff_getElem]at h;obtain⟨-,i,hi,hia,hall⟩:=h;rw[List.getElem_range]at hia;subst hia;refine⟨hma,fun x hx=>?_⟩;rcases Nat.lt_or_ge x i with h2 | h2
  · have:=hall x h2;rw[List.getElem_range,hx]at this;cases this
  · exact h2
 ·
  intro h;cases hq:mn k m with
  | none =>
   have:=(mn_none hs).1 hq a;rw[h.1]at this; cases this
  | some c =>
   have hmc:m c=true:=by
    unfold mn at hq;exact List.find?_some hq
   unfold mn at hq;rw[List.find?_eq_some_iff_getElem]at hq;obtain⟨-,i,hi,hia,hall⟩:=hq;rw[List.getElem_range]at hia;subst hia
   congr 1
   refine Nat.le_antisymm ?_ (h.2 i hmc);rcases Nat.lt_or_ge a i with h2 | h2
   · have:=hall a h2;rw[List.getElem_range,h.1]at this;cases this
   · exact h2
theorem mx_none {k:Nat} {m:S} (hs:Supp k m):mx k m=none↔Emp m:=by
 unfold mx;rw[List.find?_eq_none];constructor
 ·
  intro h x;cases hx:m x
  · rfl
  · exact absurd hx (h x (List.mem_reverse.2 (List.mem_range.2 (hs x hx))))
 · intro h x _ hx;rw[h x]at hx; cases hx
theorem mx_some {k:Nat} {m:S} (hs:Supp k m) {b:Nat}:mx k m=some b↔IsMax m b:=by
 have key:∀c,mx k m=some c->IsMax m c:=by
  intro c hq;have hmc:m c=true:=by
   unfold mx at hq;exact List.find?_some hq
  unfold mx at hq;rw[List.find?_eq_some_iff_getElem]at hq;obtain⟨-,i,hi,hia,hall⟩:=hq;rw[List.getElem_reverse,List.getElem_range]at hia;rw[List.length_reverse,List.length_range]at hi;rw[List.length_range]at hia;refine⟨hmc,fun x hx=>?_⟩;have hxr:=hs x hx;rcases Nat.lt_or_ge c x with h2 | h2
  · have:=hall (R k-1-x) (by omega);rw[List.getElem_reverse,List.getElem_range,List.length_range,show R k-1-(R k-1-x)=x by omega,hx]at this;cases this
  · exact h2
 constructor
 · exact key b
 ·
  intro h;cases hq:mx k m with
  | none =>
   have:=(mx_none hs).1 hq b;rw[h.1]at this; cases this
  | some c=>rw[IsMax.unique (key c hq) h]
/-- the next place -/
def IsNext (m:S) (x n:Nat):Prop:=(m n=true/\x < n)/\∀z,m z=true->x < z->n<=z
/-- the list -/
def lst (k:Nat) (m:S):List Nat:=(List.range (R k)).filter m
end Go.Proofs.YtaffkceklkdokaaGreatDoor.RK
/- Ascending lists of places: the list of a set; a further place, one less, the neighbors, the count. -/
namespace Go.Proofs.YtaffkceklkdokaaGreatDoor.RK
theorem IsNext.unique {m:S} {x n n':Nat} (h:IsNext m x n) (h':IsNext m x n'):n=n':=Nat.le_antisymm (h.2 n' h'.1.1 h'.1.2) (h'.2 n h.1.1 h.1.2)
end Go.Proofs.YtaffkceklkdokaaGreatDoor.RK
/- The shape of a set as a text, and what reading a text gives. -/
namespace Go.Proofs.YtaffkceklkdokaaGreatDoor.RK
def dec (n:Nat):List UInt8:=Lib.itoa n
/-- the shape as a text -/
def shT : Nat -> S -> List UInt8
  | 0, m => match mn 0 m, mx 0 m with
    | some a, some b => dec a ++ 58 :: dec b
    | _, _ => [45]
  | k + 1, m => match mn (k + 1) m, mx (k + 1) m with
    | some a, some b => dec a ++ 58 :: (dec b ++ 40 :: ((if mn k (shelves k m a) = none then [] else shT k (shelves k m a)) ++
        ((List.range (R k)).flatMap (fun s => if shelves k m a s = true then 124 :: (dec s ++ 58 :: shT k (spot k m a s)) else []) ++ [41])))
    | _, _ => [45]
/-- a number of one to three digits at the beginning -/
def isD (c:UInt8):Bool:=decide (48<=c.toNat) && decide (c.toNat<=57)
def numL (l:List UInt8):Option (Nat × List UInt8) :=
 if 1<=(l.takeWhile isD).length/\(l.takeWhile isD).length<=3 then some ((l.takeWhile isD).foldl (fun n c=>10 * n+(c.toNat-48)) 0,l.dropWhile isD) else none
/-- a character taken off the beginning -/
def skipL (c:UInt8):List UInt8->Option (List UInt8)
 | d :: l=>if d=c then some l else none
 | []=>none
/-- the spots, while a bar comes next -/
def rdL (rec:List UInt8->Option (List Nat × List UInt8)) (r:Nat):Nat->List Nat->List UInt8->Option (List Nat × List UInt8)
 | 0,_,_=>none
 | f+1,out,l=>match skipL 124 l with
  | some l1=>match numL l1 with
   | some (s,l2)=>match skipL 58 l2 with
    | some l3=>match rec l3 with
     | some (ys,l4)=>rdL rec r f (out ++ ys.map (fun y=>s * r+y)) l4
     | none=>none
    | none=>none
   | none=>none
  | none=>match skipL 41 l with
   | some l1=>some (out,l1)
   | none=>none
/-- two numbers with a colon between -/
def twoL (l:List UInt8):Option (Nat × Nat × List UInt8):=match numL l with
 | some (x,l1)=>match skipL 58 l1 with
  | some l2=>match numL l2 with
   | some (y,l3)=>some (x,y,l3)
   | none=>none
  | none=>none
 | none=>none
/-- what reading a shape of an order gives: places, and what follows -/
def rd:Nat->List UInt8->Option (List Nat × List UInt8)
 | 0,l=>match skipL 45 l with
  | some l1=>some ([],l1)
  | none=>match twoL l with
   | some (x,y,l1)=>some ([x,y],l1)
   | none=>none
 | k+1,l=>match skipL 45 l with
  | some l1=>some ([],l1)
  | none=>match twoL l with
   | some (x,_,l1)=>match skipL 40 l1 with
    | some l2=>match skipL 41 l2 with
     | some l3=>some ([x],l3)
     | none=>match rd k l2 with
      | some (_,l3)=>rdL (rd k) (R k) (l3.length+1) [x] l3
      | none=>none
    | none=>none
   | none=>none
/-- the set of a list -/
def setOf (l:List Nat):S:=fun x=>l.contains x
end Go.Proofs.YtaffkceklkdokaaGreatDoor.RK
/- Reading the text of a shape gives the places of its set. -/
namespace Go.Proofs.YtaffkceklkdokaaGreatDoor.RK
theorem R_le {k:Nat} (h:k<=3):R k<=256:=by
 rcases (by omega:k=0∨k=1∨k=2∨k=3) with rfl | rfl | rfl | rfl <;> decide
theorem ends_or {k:Nat} {m:S} (hs:Supp k m):(Emp m/\mn k m=none/\mx k m=none)∨∃a b,IsMin m a/\IsMax m b/\mn k m=some a/\mx k m=some b:=by
 by_cases h:Emp m
 · exact .inl ⟨h,(mn_none hs).2 h,(mx_none hs).2 h⟩
 · obtain⟨a,ha⟩:=exists_min h;obtain⟨b,hb⟩:=exists_max hs h;exact .inr ⟨a,b,ha,hb,(mn_some hs).2 ha,(mx_some hs).2 hb⟩
end Go.Proofs.YtaffkceklkdokaaGreatDoor.RK
/- An ascending list parted into shelves and spots; the reference's shape, size and work on ascending lists. -/
namespace Go.Proofs.YtaffkceklkdokaaGreatDoor.RK
end Go.Proofs.YtaffkceklkdokaaGreatDoor.RK
/- The shape and the work of finding the next place, told by ascending lists, as the reference reckons them. -/
namespace Go.Proofs.YtaffkceklkdokaaGreatDoor.RK
end Go.Proofs.YtaffkceklkdokaaGreatDoor.RK
/- What next hands back, as the program reckons it: the next place, or none. -/
namespace Go.Proofs.YtaffkceklkdokaaGreatDoor.RK
end Go.Proofs.YtaffkceklkdokaaGreatDoor.RK
/- How a value of the rack's shapes lies in memory: the set that it represents, and the blocks that it owns. -/
namespace Go.Proofs.YtaffkceklkdokaaGreatDoor
open Go.RowKit Go.ChangeMaps
/-- the numbers of the types: the empty shape, a pair, a pointer to a tree, a tree -/
structure Ty where
 e:TypeId
 p:TypeId
 t:TypeId
 r:TypeId
section
variable (T : Ty)
def vE:Value:=.iface T.e (.agg #[])
def vP (a b:Nat):Value:=.iface T.p (.agg #[.int .i64 a,.int .i64 b])
def vT (g:Nat):Value:=.iface T.t (.pointer (some ⟨g,0,none⟩))
end
/-- but for the blocks of F, what was there is as it was -/
structure BelP (F:Nat->Prop) (w w':World):Prop where
 os:w'.os=w.os
 tape:w'.tape=w.tape
 output:w'.output=w.output
 size:w.heap.size<=w'.heap.size
 block:∀k,k < w.heap.size->¬F k->w'.heap[k]?=w.heap[k]?
theorem BelP.refl (F:Nat->Prop) (w:World):BelP F w w:=⟨rfl,rfl,rfl,Nat.le_refl _,fun _ _ _=>rfl⟩
theorem BelP.trans {F G:Nat->Prop} {w w' w2:World} (h:BelP F w w') (h':BelP G w' w2) (hG:∀b,b < w.heap.size->G b->F b):BelP F w w2 :=
 ⟨h'.os.trans h.os,h'.tape.trans h.tape,h'.output.trans h.output,Nat.le_trans h.size h'.size,fun k hk hn=>(h'.block k (Nat.lt_of_lt_of_le hk h.size) (fun hg=>hn (hG k hk hg))).trans (h.block k hk hn)⟩
theorem BelP.mono {F G:Nat->Prop} {w w':World} (h:BelP F w w') (hG:∀b,b < w.heap.size->F b->G b):BelP G w w' :=
 ⟨h.os,h.tape,h.output,h.size,fun k hk hn=>h.block k hk (fun hf=>hn (hG k hk hf))⟩
theorem BelP.ofBelow {w w':World} (h:Below w.heap.size w w'):BelP (fun _=>False) w w':=⟨h.os,h.tape,h.output,h.size,fun k hk _=>h.block k hk⟩
theorem BelP.ofX {bs:List Nat} {w w':World} (h:BelX bs w w'):BelP (fun b=>b∈bs) w w':=⟨h.os,h.tape,h.output,h.size,fun k hk hn=>h.block k hk hn⟩
theorem BelP.below {F:Nat->Prop} {n:Nat} {w0 w w':World} (h:BelP F w w') (hb:Below n w0 w) (hn:n<=w.heap.size) (hF:∀b,F b->n<=b):Below n w0 w' :=
 hb.trans ⟨h.os,h.tape,h.output,h.size,fun k hk=>h.block k (by omega) (fun hm=>by have:=hF k hm; omega)⟩
/-- what the map of a tree holds -/
def spotsF (k:Nat) (m:RK.S) (a:Nat) (sp:Nat->Value):Int->Option Value:=fun i=>if 0<=i/\RK.shelves k m a i.toNat=true then some (sp i.toNat) else none
/-- the blocks of a tree lie apart -/
def Apart (g bm:Nat) (Fs:Nat->Prop) (Fp:Nat->Nat->Prop):Prop :=
 g≠bm/\¬Fs g/\¬Fs bm/\(∀s,¬Fp s g/\¬Fp s bm)/\(∀s b,Fs b->¬Fp s b)/\∀s s' b,s≠s'->Fp s b->¬Fp s' b
/-- value v represents the set m of the order k, and owns the blocks of F -/
def Rep (T : Ty) : Nat -> World -> Value -> RK.S -> (Nat -> Prop) -> Prop
  | 0, _, v, m, F => RK.Supp 0 m /\ (∀ b, ¬ F b) /\ ((RK.Emp m /\ v = vE T) ∨ ∃ a b, RK.IsMin m a /\ RK.IsMax m b /\ v = vP T a b)
  | k + 1, w, v, m, F => RK.Supp (k + 1) m /\ ((RK.Emp m /\ v = vE T /\ ∀ b, ¬ F b) ∨ ∃ (a b g bm : Nat) (sv : Value) (Fs : Nat -> Prop) (sp : Nat -> Value) (Fp : Nat -> Nat -> Prop), RK.IsMin m a /\ RK.IsMax m b /\ v = vT T g /\
      w.heap[g]? = some (.cells #[.int .i64 a, .int .i64 b, .int .i64 ((k : Int) + 1), sv, .map (some bm)] T.r (0, 0)) /\ MapIs w bm (spotsF k m a sp) /\ Rep T k w sv (RK.shelves k m a) Fs /\
      (∀ s, RK.shelves k m a s = true -> Rep T k w (sp s) (RK.spot k m a s) (Fp s)) /\ (∀ s b, Fp s b -> RK.shelves k m a s = true) /\ Apart g bm Fs Fp /\ ∀ b, F b ↔ (b = g ∨ b = bm ∨ Fs b ∨ ∃ s, Fp s b))
theorem Rep.supp {T:Ty} {k:Nat} {w:World} {v:Value} {m:RK.S} {F:Nat->Prop} (h:Rep T k w v m F):RK.Supp k m:=by
 cases k with
 | zero=>exact h.1
 | succ k=>exact h.1
theorem Rep.frame {T:Ty}:∀(k:Nat) {w w':World} {v:Value} {m:RK.S} {F:Nat->Prop},Rep T k w v m F->(∀b,F b->w'.heap[b]?=w.heap[b]?)->Rep T k w' v m F
 | 0,_,_,_,_,_,h,_=>h
 | k+1,w,w',v,m,F,h,hw=>by
  obtain⟨h0,h1 | ⟨a,b,g,bm,sv,Fs,sp,Fp,h1,h2,h3,h4,h5,h6,h7,h8,h9,h10⟩⟩:=h
  · exact⟨h0,.inl h1⟩
  ·
   refine⟨h0,.inr ⟨a,b,g,bm,sv,Fs,sp,Fp,h1,h2,h3,?_,?_,?_,?_,h8,h9,h10⟩⟩
   · exact(hw g ((h10 g).2 (.inl rfl))).trans h4
   · exact h5.of_block (hw bm ((h10 bm).2 (.inr (.inl rfl))))
   · exact Rep.frame k h6 fun b hb=>hw b ((h10 b).2 (.inr (.inr (.inl hb))))
   · exact fun s hs=>Rep.frame k (h7 s hs) fun b hb=>hw b ((h10 b).2 (.inr (.inr (.inr ⟨s,hb⟩))))
theorem Rep.lt {T:Ty}:∀(k:Nat) {w:World} {v:Value} {m:RK.S} {F:Nat->Prop},Rep T k w v m F->∀b,F b->b < w.heap.size
 | 0,_,_,_,_,h,b,hb=>absurd hb (h.2.1 b)
 | k+1,w,v,m,F,h,x,hx=>by
  obtain⟨h0,h1 | ⟨a,b,g,bm,sv,Fs,sp,Fp,h1,h2,h3,h4,h5,h6,h7,h8,h9,h10⟩⟩:=h
  · exact absurd hx (h1.2.2 x)
  ·
   rcases (h10 x).1 hx with rfl | rfl | h | ⟨s,h⟩
   · exact blk_lt h4
   · exact h5.lt
   · exact Rep.lt k h6 x h
   · exact Rep.lt k (h7 s (h8 s x h)) x h
theorem Rep.kept {T:Ty} {k:Nat} {w w':World} {v:Value} {m:RK.S} {F G:Nat->Prop} (h:Rep T k w v m F) (hb:BelP G w w') (hd:∀b,F b->¬G b):Rep T k w' v m F :=
 h.frame k fun b hF=>hb.block b (h.lt k b hF) (hd b hF)
theorem Rep.below {T:Ty} {k:Nat} {w w':World} {v:Value} {m:RK.S} {F:Nat->Prop} (h:Rep T k w v m F) (hb:Below w.heap.size w w'):Rep T k w' v m F :=
 h.kept (BelP.ofBelow hb) fun _ _ hf=>hf
theorem rep_empty (T:Ty) (k:Nat) (w:World) {m:RK.S} (hm:RK.Emp m):Rep T k w (vE T) m (fun _=>False):=by
 have hs:RK.Supp k m:=fun x hx=>by rw[hm x]at hx; cases hx
 cases k with
 | zero=>exact⟨hs,fun _ h=>h,.inl ⟨hm,rfl⟩⟩
 | succ k=>exact⟨hs,.inl ⟨hm,rfl,fun _ h=>h⟩⟩
/-- empty, or with a smallest and a greatest place -/
theorem Rep.cases {T:Ty} {k:Nat} {w:World} {v:Value} {m:RK.S} {F:Nat->Prop} (h:Rep T k w v m F):(RK.Emp m/\v=vE T)∨∃a b,RK.IsMin m a/\RK.IsMax m b/\((k=0/\v=vP T a b)∨∃g o c d,v=vT T g/\w.heap[g]?=some (.cells #[.int .i64 a,.int .i64 b,o,c,d] T.r (0,0))):=by
 cases k with
 | zero =>
  obtain⟨-,-,h1 | ⟨a,b,h1,h2,h3⟩⟩:=h
  · exact .inl h1
  · exact .inr ⟨a,b,h1,h2,.inl ⟨rfl,h3⟩⟩
 | succ k =>
  obtain⟨-,h1 | ⟨a,b,g,bm,sv,Fs,sp,Fp,h1,h2,h3,h4,-⟩⟩:=h
  · exact .inl ⟨h1.1,h1.2.1⟩
  · exact .inr ⟨a,b,h1,h2,.inr ⟨g,_,_,_,h3,h4⟩⟩
open Go.RowKit Go.ChangeMaps
theorem spotsF_ins {k:Nat} {m n:RK.S} {a a' y:Nat} (hy:y < RK.R (k+1)) (h:∀x,(n x=true/\x≠a')↔((m x=true/\x≠a)∨x=y)) (sp:Nat->Value) (v:Value) :
  (fun j=>if j=((y / RK.R k:Nat):Int) then some v else spotsF k m a sp j)=spotsF k n a' (fun u=>if u=y / RK.R k then v else sp u):=by
 funext j
 unfold spotsF;rw[RK.shelves_ins hy h]
 by_cases hj:j=((y / RK.R k:Nat):Int)
 ·
  have e:j.toNat=y / RK.R k:=by rw[hj]; exact Int.toNat_natCast _
  rw[if_pos hj,e,if_pos ⟨by rw[hj]; exact Int.natCast_nonneg _,(RK.ins_iff _ _ _).2 (.inl rfl)⟩];dsimp only;rw[if_pos rfl]
 ·
  rw[if_neg hj]
  by_cases h0:0<=j
  ·
   have e:j.toNat≠y / RK.R k:=fun h=>hj (by rw[<-h,Int.toNat_of_nonneg h0])
   by_cases hs:RK.shelves k m a j.toNat=true
   · rw[if_pos ⟨h0,hs⟩,if_pos ⟨h0,(RK.ins_iff _ _ _).2 (.inr hs)⟩];dsimp only;rw[if_neg e]
   ·
    rw[if_neg (fun q=>hs q.2),if_neg (fun q=>by
     rcases (RK.ins_iff _ _ _).1 q.2 with q | q
     · exact e q
     · exact hs q)]
  · rw[if_neg (fun q=>h0 q.1),if_neg (fun q=>h0 q.1)]
/-- a further place y among those in the shelves -/
theorem rep_ins {T:Ty} {k:Nat} {w w2 w3 w4:World} {m n:RK.S} {a a' b' g bm y:Nat} {sv' ov':Value} {Fs Fs' Fo':Nat->Prop} {sp:Nat->Value} {Fp:Nat->Nat->Prop}
  (hn:RK.Supp (k+1) n) (hy:y < RK.R (k+1)) (hset:∀x,(n x=true/\x≠a')↔((m x=true/\x≠a)∨x=y)) (hmin:RK.IsMin n a') (hmax:RK.IsMax n b')
  (hsp:∀s,RK.shelves k m a s=true->Rep T k w (sp s) (RK.spot k m a s) (Fp s)) (hFp:∀s b,Fp s b->RK.shelves k m a s=true) (hap:Apart g bm Fs Fp) (hgw:g < w.heap.size) (hbw:bm < w.heap.size)
  (hB:BelP (fun c=>c=g∨c=bm∨Fs c∨Fp (y / RK.R k) c) w w4)
  (h2:w.heap.size<=w2.heap.size) (hsv:Rep T k w2 sv' (RK.ins (RK.shelves k m a) (y / RK.R k)) Fs') (hFs':∀c,Fs' c->Fs c∨w.heap.size<=c) (hB2:BelP (fun c=>c=g∨c=bm∨Fp (y / RK.R k) c) w2 w4)
  (hov:Rep T k w3 ov' (RK.ins (RK.spot k m a (y / RK.R k)) (y % RK.R k)) Fo') (hFo':∀c,Fo' c->Fp (y / RK.R k) c∨w2.heap.size<=c) (hB3:BelP (fun c=>c=g∨c=bm) w3 w4)
  (hg4:w4.heap[g]?=some (.cells #[.int .i64 a',.int .i64 b',.int .i64 ((k:Int)+1),sv',.map (some bm)] T.r (0,0)))
  (hm4:MapIs w4 bm (fun j=>if j=((y / RK.R k:Nat):Int) then some ov' else spotsF k m a sp j)) :
  ∃F',Rep T (k+1) w4 (vT T g) n F'/\∀c,F' c->(c=g∨c=bm∨Fs c∨∃u,Fp u c)∨w.heap.size<=c:=by
 obtain⟨p1,p2,p3,p4,p5,p6⟩:=hap;have hFpw:∀u c,Fp u c->c < w.heap.size:=fun u c hc=>(hsp u (hFp u c hc)).lt k c hc;have hFs2:∀c,Fs' c->c < w2.heap.size:=fun c hc=>hsv.lt k c hc;have hFs_g:∀c,Fs' c->c≠g/\c≠bm/\∀u,¬Fp u c:=fun c hc=>by
  rcases hFs' c hc with h | h
  ·
   refine⟨?_,?_,fun u=>p5 u c h⟩
   · rintro rfl; exact p2 h
   · rintro rfl; exact p3 h
  · refine⟨by omega,by omega,fun u hu=>?_⟩;have:=hFpw u c hu;omega
 have hFo_g:∀c,Fo' c->c≠g/\c≠bm/\¬Fs' c/\∀u,u≠y / RK.R k->¬Fp u c:=fun c hc=>by
  rcases hFo' c hc with h | h
  ·
   refine⟨?_,?_,fun h'=>(hFs_g c h').2.2 _ h,fun u hu=>?_⟩
   · rintro rfl; exact(p4 _).1 h
   · rintro rfl; exact(p4 _).2 h
   · exact p6 _ u c (Ne.symm hu) h
  ·
   refine⟨by omega,by omega,fun h'=>?_,fun u _ hu=>?_⟩
   · have:=hFs2 c h'; omega
   · have:=hFpw u c hu; omega
 have esh:=RK.shelves_ins (a:=a) (a':=a') hy hset;refine⟨fun c=>c=g∨c=bm∨Fs' c∨∃u,(if u=y / RK.R k then Fo' else Fp u) c,⟨hn,.inr ⟨a',b',g,bm,sv',Fs',fun u=>if u=y / RK.R k then ov' else sp u,fun u=>if u=y / RK.R k then Fo' else Fp u,hmin,hmax,rfl,hg4,?_,?_,?_,?_,?_,fun c=>Iff.rfl⟩⟩,?_⟩
 · rw[<-spotsF_ins hy hset]; exact hm4
 ·
  rw[esh];exact hsv.kept hB2 fun c hc=>by
   obtain⟨q1,q2,q3⟩:=hFs_g c hc;rintro (h | h | h)
   · exact q1 h
   · exact q2 h
   · exact q3 _ h
 ·
  intro u hu;dsimp only;rw[RK.spot_ins hset u]
  by_cases he:u=y / RK.R k
  ·
   rw[if_pos he,if_pos he,if_pos he,he];exact hov.kept hB3 fun c hc=>by
    obtain⟨q1,q2,-⟩:=hFo_g c hc;rintro (h | h)
    · exact q1 h
    · exact q2 h
  ·
   rw[if_neg he,if_neg he,if_neg he];rw[esh]at hu;have hu':RK.shelves k m a u=true:=by
    rcases (RK.ins_iff _ _ _).1 hu with h | h
    · exact absurd h he
    · exact h
   exact(hsp u hu').kept hB fun c hc=>by
    rintro (rfl | rfl | h | h)
    · exact(p4 u).1 hc
    · exact(p4 u).2 hc
    · exact p5 u c h hc
    · exact p6 _ u c (Ne.symm he) h hc
 ·
  intro u c hc;try dsimp only at hc
  rw[esh]
  by_cases he:u=y / RK.R k
  · exact(RK.ins_iff _ _ _).2 (.inl he)
  · rw[if_neg he]at hc;exact(RK.ins_iff _ _ _).2 (.inr (hFp u c hc))
 ·
  refine⟨p1,fun h=>(hFs_g g h).1 rfl,fun h=>(hFs_g bm h).2.1 rfl,fun u=>?_,fun u c hc=>?_,fun u u' c huu hc=>?_⟩
  ·
   try dsimp only
   by_cases he:u=y / RK.R k
   · rw[if_pos he]; exact⟨fun h=>(hFo_g g h).1 rfl,fun h=>(hFo_g bm h).2.1 rfl⟩
   · rw[if_neg he]; exact p4 u
  ·
   try dsimp only
   by_cases he:u=y / RK.R k
   · rw[if_pos he]; exact fun h=>(hFo_g c h).2.2.1 hc
   · rw[if_neg he]; exact(hFs_g c hc).2.2 u
  ·
   try dsimp only at hc ⊢
   by_cases he:u=y / RK.R k
   · rw[if_pos he]at hc;rw[if_neg (fun h=>huu (he.trans h.symm))];exact(hFo_g c hc).2.2.2 u' (fun h=>huu (he.trans h.symm))
   ·
    rw[if_neg he]at hc
    by_cases he':u'=y / RK.R k
    · rw[if_pos he'];exact fun h=>(hFo_g c h).2.2.2 u he hc
    · rw[if_neg he']; exact p6 u u' c huu hc
 ·
  rintro c (h | h | h | ⟨u,h⟩)
  · exact .inl (.inl h)
  · exact .inl (.inr (.inl h))
  ·
   rcases hFs' c h with h | h
   · exact .inl (.inr (.inr (.inl h)))
   · exact .inr h
  ·
   by_cases he:u=y / RK.R k
   ·
    rw[if_pos he]at h;rcases hFo' c h with h | h
    · exact .inl (.inr (.inr (.inr ⟨_,h⟩)))
    · exact .inr (by omega)
   · rw[if_neg he]at h;exact .inl (.inr (.inr (.inr ⟨u,h⟩)))
open Go.RowKit Go.ChangeMaps
/-- a new tree of one place -/
theorem rep_one {T:Ty} {k:Nat} {w:World} {m:RK.S} {x g bm:Nat} (hm:∀y,m y=true↔y=x) (hx:x < RK.R (k+1)) (hgb:g≠bm)
  (hg:w.heap[g]?=some (.cells #[.int .i64 x,.int .i64 x,.int .i64 ((k:Int)+1),vE T,.map (some bm)] T.r (0,0))) (hb:MapIs w bm (fun _=>none)):Rep T (k+1) w (vT T g) m (fun c=>c=g∨c=bm):=by
 have hs:RK.Supp (k+1) m:=fun y hy=>by rw[(hm y).1 hy]; exact hx
 have he:RK.Emp (RK.shelves k m x):=fun s=>by
  cases h:RK.shelves k m x s
  · rfl
  · obtain⟨-,y,hy⟩:=(RK.shelves_iff _ _ _ _).1 h;obtain⟨-,h1,h2⟩:=(RK.spot_iff _ _ _ _ _).1 hy;exact absurd ((hm _).1 h1) h2
 refine⟨hs,.inr ⟨x,x,g,bm,vE T,fun _=>False,fun _=>vE T,fun _ _=>False,⟨(hm x).2 rfl,fun y hy=>by rw[(hm y).1 hy]; exact Nat.le_refl _⟩,⟨(hm x).2 rfl,fun y hy=>by rw[(hm y).1 hy]; exact Nat.le_refl _⟩,rfl,hg,?_,rep_empty T k w he,?_,?_,?_,?_⟩⟩
 ·
  have e:spotsF k m x (fun _=>vE T)=fun _=>none:=by
   funext j
   unfold spotsF;rw[if_neg (fun q=>by rw[he j.toNat]at q; cases q.2)]
  rw[e]; exact hb
 · intro s h; rw[he s]at h; cases h
 · intro s b h; exact h.elim
 · exact⟨hgb,fun h=>h,fun h=>h,fun _=>⟨fun h=>h,fun h=>h⟩,fun _ _ _ h=>h,fun _ _ _ _ _ h=>h⟩
 ·
  intro c;constructor
  ·
   rintro (h | h)
   · exact .inl h
   · exact .inr (.inl h)
  ·
   rintro (h | h | h | ⟨s,h⟩)
   · exact .inl h
   · exact .inr h
   · exact h.elim
   · exact h.elim
end Go.Proofs.YtaffkceklkdokaaGreatDoor
