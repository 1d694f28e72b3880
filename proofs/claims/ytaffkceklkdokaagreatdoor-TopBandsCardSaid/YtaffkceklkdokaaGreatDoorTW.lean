/- A statement whose order is open, inside a fence or a round, whose operations only read: each operation's value is told ahead. -/
import Derived.OrdersIn
import Derived.Test.YtaffkceklkdokaaGreatDoorZ1
namespace Go.Proofs.YtaffkceklkdokaaGreatDoor
open Go
open Go.RowKit
section
variable {F : Fence} {n : Nat} {P : Program} {Q : Exit -> Act -> World -> Prop}
def StepR (F:Fence) (P:Program) (a0:Act) (w0:World) (DV:List (Nat × Value)) (o:Oper) (p:Nat × Value):Prop :=
 o.dst=some p.1/\o.guard=none/\∀a,Agree a0 DV a->(∀e∈o.after,Region.binds .any e=true->∀q,DV[e.on]?=some q->a.eval (.tmp q.1)=q.2) ->
  (∀f,o.about P w0 a.eval=some f->F.fn f)/\(o.semAt F.round a.eval).run P w0=.ok (.value p.2) w0
def StepsR (F:Fence) (P:Program) (a0:Act) (w0:World) (DV:List (Nat × Value)):List Oper->List (Nat × Value)->Prop
 | [],[]=>True
 | o :: l,p :: r=>StepR F P a0 w0 DV o p/\StepsR F P a0 w0 DV l r
 | _,_=>False
theorem StepsR.get {a0:Act} {w0:World} {DV:List (Nat × Value)}:∀{l:List Oper} {r:List (Nat × Value)} {k:Nat} {o:Oper},StepsR F P a0 w0 DV l r->l[k]?=some o->∃p,r[k]?=some p/\StepR F P a0 w0 DV o p
 | [],_,_,_,_,h=>by simp at h
 | _ :: _,[],_,_,h,_=>h.elim
 | o' :: l,p :: r,0,o,h,hk=>by
  obtain rfl:o'=o:=by simpa using hk
  exact⟨p,rfl,h.1⟩
 | o' :: l,p :: r,k+1,o,h,hk=>by
  obtain⟨p',h1,h2⟩:=StepsR.get (k:=k) h.2 (by simpa using hk);exact⟨p',by simpa using h1,h2⟩
theorem act_all {a0 a:Act} {DV:List (Nat × Value)} (hn:(DV.map (·.1)).Nodup) (hsz:∀p∈DV,p.1 < a0.tmps.size) (hA:Agree a0 DV a) (hV:∀(j:Nat) (p:Nat × Value),DV[j]?=some p->a.eval (.tmp p.1)=p.2):a=putL a0 DV:=by
 refine act_ext (by rw[putL_size]; exact hA.size) (by rw[putL_defers]; exact hA.defers) fun t=>?_
 by_cases ht:∀p∈DV,p.1≠t
 · rw[putL_out DV a0 t ht]; exact hA.out t (all_ne.2 ht)
 ·
  obtain⟨p,hp⟩:∃p,p∈DV/\p.1=t:=by
   apply Classical.byContradiction;intro h;exact ht fun p hp e=>h ⟨p,hp,e⟩
  obtain⟨hp,rfl⟩:=hp;rw[putL_in DV a0 hn hsz p hp];obtain⟨j,hj⟩:=List.mem_iff_getElem?.1 hp;exact hV j p hj
theorem wpAnyIn_vals {ops:Array Oper} {a0:Act} {w0:World} {DV:List (Nat × Value)} (hdag:dagI 0 ops.toList=true) (hn:(DV.map (·.1)).Nodup) (hsz0:∀p∈DV,p.1 < a0.tmps.size) (hlen:DV.length=ops.size) (hs:StepsR F P a0 w0 DV ops.toList DV) (hd:Q .normal (putL a0 DV) w0) :
  ∀(fuel:Nat) (listed:Array Bool) (a:Act),listed.size=ops.size->listed.toList.countP (· == false)=fuel->Agree a0 DV a->(∀(j:Nat) (p:Nat × Value),DV[j]?=some p->listed.getD j true=true->a.eval (.tmp p.1)=p.2)->wpAnyIn F n P .any ops Q fuel listed a w0:=by
 have hready:∀listed:Array Bool,listed.size=ops.size->Region.ready .any ops listed = []->∀j,j < ops.size->listed.getD j true=true:=by
  intro listed hsz hr;apply Decidable.byContradiction;intro hne;obtain⟨j,hj,h1,h2⟩:=unlisted_exists listed ops.size hne;have hg:ops.toList[j]?=some ops[j]:=by simp[hj]
  have hb:=dagI.get ops.toList 0 j ops[j] hdag hg;have:=mem_ready' (md:=.any) hj h1 (fun e he hbb=>h2 _ (by have:=hb e he hbb; omega)) (fun e he hbb=>by have:=hb e he hbb; omega);rw[hr]at this;cases this
 have hend:∀(listed:Array Bool) (a:Act),(∀j,j < ops.size->listed.getD j true=true)->Agree a0 DV a->(∀(j:Nat) (p:Nat × Value),DV[j]?=some p->listed.getD j true=true->a.eval (.tmp p.1)=p.2)->Q .normal a w0:=by
  intro listed a hall hA hV;rw[act_all hn hsz0 hA fun j p hj=>hV j p hj (hall j (by have:=(List.getElem?_eq_some_iff.1 hj).1; omega))];exact hd
 intro fuel
 induction fuel with
 | zero =>
  intro listed a hsz hc hA hV;have hall:∀j,j < ops.size->listed.getD j true=true:=by
   intro j hj;cases e:listed.getD j true
   ·
    have hmem:false∈listed.toList:=by
     have hj':j < listed.size:=by omega
     simp[hj']at e;rw[<-e];exact Array.mem_toList_iff.2 (Array.getElem_mem hj')
    have:=List.countP_eq_zero.1 hc false hmem;simp at this
   · rfl
  refine⟨?_,hend listed a hall hA hV⟩;unfold Region.ready;rw[List.filter_eq_nil_iff];intro i hi;rw[hall i (List.mem_range.1 hi)];simp
 | succ fuel ih =>
  intro listed a hsz hc hA hV;refine⟨fun hr=>hend listed a (hready listed hsz hr) hA hV,fun i hi=>?_⟩;obtain⟨hun,o,ho,hall⟩:=mem_ready.1 hi;have hun':listed.getD i true=false:=hun;have hg:ops.toList[i]?=some o:=by simpa using ho
  obtain⟨p,hp,hdst,hgd,hrun⟩:=hs.get hg;obtain⟨h1,h2⟩:=hrun a hA fun e he hb q hq=>hV e.on q hq (by
   have h2:=hall e he hb;rcases Nat.lt_or_ge e.on listed.size with h3 | h3
   · simp[h3]at h2 ⊢; exact h2
   · simp[Array.getElem?_eq_none h3])
  unfold wpOpIn;simp only[ho];rw[if_pos (by simp[Region.wanted,hgd])];unfold Oper.wpIn;refine⟨h1,?_⟩;rw[h2,Oper.uponIn_value,hdst];refine ih _ _ (by simpa using hsz) (by have:=countP_set listed i hun'; omega) ⟨fun t ht=>?_,?_,?_⟩ fun j q hq hj=>?_
  · rw[eval_put_other (all_ne.1 ht p (List.mem_of_getElem? hp))];exact hA.out t ht
  · rw[put_size]; exact hA.size
  · rw[put_defers]; exact hA.defers
  ·
   by_cases hji:j=i
   · subst hji;rw[hp]at hq;obtain rfl:=Option.some.inj hq;exact eval_put_same (by rw[hA.size]; exact hsz0 p (List.mem_of_getElem? hp)) _
   ·
    rw[eval_put_other (nodup_get hn hp hq (Ne.symm hji))];rw[getD_set]at hj;have:(j == i)=false:=by simpa using hji
    rw[this,Bool.false_or]at hj;exact hV j q hq hj
theorem wpIn_region_vals {id:Nat} {l:List Oper} {a:Act} {w:World} (hm:P.follows .mixedOrders=true) (hdag:dagI 0 l=true) (DV:List (Nat × Value)) (hlen:DV.length=l.length) (hn:(DV.map (·.1)).Nodup)
  (N:Nat) (hN:a.tmps.size=N) (hN2:(DV.all fun p=>decide (p.1 < N))=true) (hs:StepsR F P a w.drew DV l DV) (hd:Q .normal (putL a DV) w.drew):(Code.region id l.toArray true).wpIn F n P Q a w:=by
 have hsz:∀p∈DV,p.1 < a.tmps.size:=fun p hp=>by
  have:=List.all_eq_true.1 hN2 p hp;rw[hN]; simpa using this
 refine wpIn_region_any hm (wpAnyIn_vals (a0:=a) (w0:=w.drew) hdag hn hsz (by simpa using hlen) hs hd _ _ a (by simp) (by simp[List.countP_replicate]) ⟨fun _ _=>rfl,rfl,rfl⟩ fun j p hj hl=>?_);have:=(List.getElem?_eq_some_iff.1 hj).1;have hj':j < l.length:=by omega
 simp[hj']at hl
theorem with_actIn {c:Code} {a:Act} {w:World} (h:∀a0,a0=a->c.wpIn F n P Q a0 w):c.wpIn F n P Q a w:=h a rfl
theorem about_plain {o:Oper} {w:World} {ρ : Operand->Value} (h:∀c,o.op≠.call c):∀f,o.about P w ρ = some f->F.fn f:=by
 intro f hf;unfold Oper.about at hf;cases ho:o.op <;> simp only[ho]at hf <;> first | cases hf | exact absurd ho (h _)
end
open Go
open Go.RowKit
section
variable {F : Fence} {n : Nat} {P : Program} {Q : Exit -> Act -> World -> Prop}
def StepsL (F:Fence) (P:Program) (a0:Act) (w0:World) (DV:List (Nat × Value)):List Oper->List (Nat × Value)->Prop
 | [_],[]=>True
 | o :: l,p :: r=>StepR F P a0 w0 DV o p/\StepsL F P a0 w0 DV l r
 | _,_=>False
theorem StepsL.get {a0:Act} {w0:World} {DV:List (Nat × Value)}:∀{l:List Oper} {r:List (Nat × Value)} {k:Nat} {o:Oper},StepsL F P a0 w0 DV l r->l[k]?=some o->k < r.length->∃p,r[k]?=some p/\StepR F P a0 w0 DV o p
 | _,[],_,_,_,_,hk=>by simp at hk
 | [],_ :: _,_,_,_,h,_=>by simp at h
 | [o'],p :: r,0,o,h,hl,_=>by
  obtain rfl:o'=o:=by simpa using hl
  exact⟨p,rfl,h.1⟩
 | [_],_ :: _,k+1,_,_,hl,_=>by simp at hl
 | o' :: _ :: _,p :: r,0,o,h,hl,_=>by
  obtain rfl:o'=o:=by simpa using hl
  exact⟨p,rfl,h.1⟩
 | _ :: o2 :: l,p :: r,k+1,o,h,hl,hk=>by
  obtain⟨p',h1,h2⟩:=StepsL.get (k:=k) h.2 (by simpa using hl) (by simpa using hk);exact⟨p',by simpa using h1,h2⟩
theorem wpAnyIn_done {ops:Array Oper} {listed:Array Bool} {a:Act} {w:World} (h:∀j,j < ops.size->listed.getD j true=true) (hq:Q .normal a w):∀fuel,wpAnyIn F n P .any ops Q fuel listed a w
 | 0=>by
  refine⟨?_,hq⟩;unfold Region.ready;rw[List.filter_eq_nil_iff];intro i hi;rw[h i (List.mem_range.1 hi)];simp
 | fuel+1=>by
  refine⟨fun _=>hq,fun i hi=>?_⟩;obtain⟨hun,o,ho,-⟩:=mem_ready.1 hi;have hlt:i < ops.size:=(Array.getElem?_eq_some_iff.1 ho).1;have hun':listed.getD i true=false:=hun;rw[h i hlt]at hun';cases hun'
/-- the operations that an operation waits for -/
def ancI (l:List Oper):Nat->Nat->List Nat
 | 0,_=>[]
 | f+1,k=>match l[k]? with
  | none=>[]
  | some o=>(o.after.toList.filter (Region.binds .any)).flatMap fun e=>e.on :: ancI l f e.on
/-- what is listed is closed -/
def ClI (ops:Array Oper) (listed:Array Bool):Prop:=∀(k:Nat) (o:Oper),ops[k]?=some o->listed.getD k true=true->∀e∈o.after,Region.binds .any e=true->listed.getD e.on true=true
theorem anc_listed {ops:Array Oper} {listed:Array Bool} (hc:ClI ops listed):∀(f k:Nat),(∀o,ops[k]?=some o->∀e∈o.after,Region.binds .any e=true->listed.getD e.on true=true)->∀j∈ancI ops.toList f k,listed.getD j true=true
 | 0,_,_,j,hj=>by simp[ancI]at hj
 | f+1,k,hk,j,hj=>by
  unfold ancI at hj;cases hl:ops.toList[k]? with
  | none=>rw[hl]at hj; simp at hj
  | some o =>
   rw[hl]at hj;have ho:ops[k]?=some o:=by simpa using hl
   simp only[List.mem_flatMap,List.mem_filter]at hj;obtain⟨e,⟨he,hb⟩,hj⟩:=hj;have he':e∈o.after:=Array.mem_toList_iff.1 he;have h1:=hk o ho e he' hb;rcases List.mem_cons.1 hj with rfl | hj
   · exact h1
   · exact anc_listed hc f e.on (fun o2 ho2=>hc e.on o2 ho2 h1) j hj
theorem wpAnyIn_last {ops:Array Oper} {a0:Act} {w0:World} {DV:List (Nat × Value)} (ot:Oper) (hot:ops[DV.length]?=some ot) (hog:ot.guard=none)
  (hlast:((List.range DV.length).all fun j=>(ancI ops.toList DV.length DV.length).contains j)=true)
  (hdag:dagI 0 ops.toList=true) (hn:(DV.map (·.1)).Nodup) (hsz0:∀p∈DV,p.1 < a0.tmps.size) (hlen:DV.length+1=ops.size) (hs:StepsL F P a0 w0 DV ops.toList DV) (hd:ot.wpIn F n P (putL a0 DV) w0 (fun a w=>Q .normal a w) Q) :
  ∀(fuel:Nat) (listed:Array Bool) (a:Act),listed.size=ops.size->listed.toList.countP (· == false)=fuel->listed.getD DV.length true=false->ClI ops listed->Agree a0 DV a->(∀(j:Nat) (p:Nat × Value),DV[j]?=some p->listed.getD j true=true->a.eval (.tmp p.1)=p.2)->wpAnyIn F n P .any ops Q fuel listed a w0:=by
 have hready:∀listed:Array Bool,listed.size=ops.size->Region.ready .any ops listed = []->∀j,j < ops.size->listed.getD j true=true:=by
  intro listed hsz hr;apply Decidable.byContradiction;intro hne;obtain⟨j,hj,h1,h2⟩:=unlisted_exists listed ops.size hne;have hg:ops.toList[j]?=some ops[j]:=by simp[hj]
  have hb:=dagI.get ops.toList 0 j ops[j] hdag hg;have:=mem_ready' (md:=.any) hj h1 (fun e he hbb=>h2 _ (by have:=hb e he hbb; omega)) (fun e he hbb=>by have:=hb e he hbb; omega);rw[hr]at this;cases this
 intro fuel
 induction fuel with
 | zero =>
  intro listed a hsz hc hL hCl hA hV;have hmem:false∈listed.toList:=by
   have hj':DV.length < listed.size:=by omega
   simp[hj']at hL;rw[<-hL];exact Array.mem_toList_iff.2 (Array.getElem_mem hj')
  have:=List.countP_eq_zero.1 hc false hmem;simp at this
 | succ fuel ih =>
  intro listed a hsz hc hL hCl hA hV;refine⟨fun hr=>?_,fun i hi=>?_⟩
  · rw[hready listed hsz hr DV.length (by omega)]at hL;cases hL
  obtain⟨hun,o,ho,hall⟩:=mem_ready.1 hi;have hun':listed.getD i true=false:=hun;have hg:ops.toList[i]?=some o:=by simpa using ho
  have hlt:i < ops.size:=(Array.getElem?_eq_some_iff.1 ho).1;have hall':∀e∈o.after,Region.binds .any e=true->listed.getD e.on true=true:=fun e he hb=>by
   have h2:=hall e he hb;rcases Nat.lt_or_ge e.on listed.size with h3 | h3
   · simp[h3]at h2 ⊢; exact h2
   · simp[Array.getElem?_eq_none h3]
  by_cases hiL:i=DV.length
  ·
   subst hiL;rw[hot]at ho;obtain rfl:=Option.some.inj ho;have hothers:∀j,j < DV.length->listed.getD j true=true:=fun j hj=>by
    have h1:=List.all_eq_true.1 hlast j (List.mem_range.2 hj);refine anc_listed hCl _ DV.length (fun o2 ho2=>?_) j (List.contains_iff_mem.1 h1);rw[hot]at ho2;obtain rfl:=Option.some.inj ho2;exact hall'
   have ha:a=putL a0 DV:=act_all hn hsz0 hA fun j p hj=>hV j p hj (hothers j (List.getElem?_eq_some_iff.1 hj).1);unfold wpOpIn;simp only[hot];rw[if_pos (by simp[Region.wanted,hog])];rw[ha];refine Oper.wpIn_mono (fun a2 w2 h2=>wpAnyIn_done (fun j hj=>?_) h2 _) hd;rw[getD_set]
   by_cases hj2:j=DV.length
   · subst hj2; simp
   · rw[hothers j (by omega)]; simp
  ·
   obtain⟨p,hp,hdst,hgd,hrun⟩:=hs.get hg (by omega);obtain⟨h1,h2⟩:=hrun a hA fun e he hb q hq=>hV e.on q hq (hall' e he hb);unfold wpOpIn;simp only[ho];rw[if_pos (by simp[Region.wanted,hgd])];unfold Oper.wpIn;refine⟨h1,?_⟩;rw[h2,Oper.uponIn_value,hdst];refine ih _ _ (by simpa using hsz) (by have:=countP_set listed i hun'; omega) ?_ (fun k o2 ho2 hk e he hb=>?_) ⟨fun t ht=>?_,?_,?_⟩ fun j q hq hj=>?_
   ·
    rw[getD_set];have:(DV.length == i)=false:=by simp; omega
    rw[this,Bool.false_or];exact hL
   ·
    rw[getD_set]at hk ⊢
    by_cases hki:k=i
    · subst hki;rw[ho]at ho2;obtain rfl:=Option.some.inj ho2;rw[hall' e he hb,Bool.or_true]
    ·
     have h5:(k == i)=false:=by simpa using hki
     rw[h5,Bool.false_or]at hk;rw[hCl k o2 ho2 hk e he hb,Bool.or_true]
   · rw[eval_put_other (all_ne.1 ht p (List.mem_of_getElem? hp))];exact hA.out t ht
   · rw[put_size]; exact hA.size
   · rw[put_defers]; exact hA.defers
   ·
    by_cases hji:j=i
    · subst hji;rw[hp]at hq;obtain rfl:=Option.some.inj hq;exact eval_put_same (by rw[hA.size]; exact hsz0 p (List.mem_of_getElem? hp)) _
    ·
     rw[eval_put_other (nodup_get hn hp hq (Ne.symm hji))];rw[getD_set]at hj;have:(j == i)=false:=by simpa using hji
     rw[this,Bool.false_or]at hj;exact hV j q hq hj
theorem wpIn_region_last {id:Nat} {l:List Oper} {a:Act} {w:World} (hm:P.follows .mixedOrders=true) (hdag:dagI 0 l=true) (DV:List (Nat × Value)) (hlen:DV.length+1=l.length) (hn:(DV.map (·.1)).Nodup) (ot:Oper) (hot:l[DV.length]?=some ot) (hog:ot.guard=none)
  (hlast:((List.range DV.length).all fun j=>(ancI l DV.length DV.length).contains j)=true)
  (N:Nat) (hN:a.tmps.size=N) (hN2:(DV.all fun p=>decide (p.1 < N))=true) (hs:StepsL F P a w.drew DV l DV) (hd:ot.wpIn F n P (putL a DV) w.drew (fun a w=>Q .normal a w) Q):(Code.region id l.toArray true).wpIn F n P Q a w:=by
 have hsz:∀p∈DV,p.1 < a.tmps.size:=fun p hp=>by
  have:=List.all_eq_true.1 hN2 p hp;rw[hN]; simpa using this
 refine wpIn_region_any hm (wpAnyIn_last (a0:=a) (w0:=w.drew) ot (by simpa using hot) hog hlast hdag hn hsz (by simpa using hlen) hs hd _ _ a (by simp) (by simp[List.countP_replicate]) (by
  have:DV.length < l.length:=by omega
  simp[this]) (fun k o ho hk=>by
  have:k < l.length:=by have:=(Array.getElem?_eq_some_iff.1 ho).1; simpa using this
  simp[this]at hk) ⟨fun _ _=>rfl,rfl,rfl⟩ fun j p hj hl=>?_)
 have:=(List.getElem?_eq_some_iff.1 hj).1;have hj':j < l.length:=by omega
 simp[hj']at hl
end
end Go.Proofs.YtaffkceklkdokaaGreatDoor
