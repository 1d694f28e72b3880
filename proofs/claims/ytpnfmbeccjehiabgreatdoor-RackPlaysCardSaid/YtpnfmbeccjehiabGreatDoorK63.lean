/- What the reference's Next, Before and Count come to. -/
import Derived.Test.YtpnfmbeccjehiabGreatDoorQ10
import Derived.Test.YtpnfmbeccjehiabGreatDoorK47
import Derived.Test.YtpnfmbeccjehiabGreatDoorZC
import Derived.Test.YtpnfmbeccjehiabGreatDoorZE
namespace Go.Proofs.YtpnfmbeccjehiabGreatDoor
open Go.RowKit Go.Proofs.YtpnfmbeccjehiabGreatDoorW.PrintWords Go.Proofs.YtpnfmbeccjehiabGreatDoorW.PrintLast Go.Proofs.YtpnfmbeccjehiabGreatDoorW.PrintMore
def nextL:List Nat->Int->Int × Bool
 | [],_=>(0,false)
 | y :: l,x=>if (y:Int) > x then ((y:Int),true) else nextL l x
def befL:List Nat->Int->Int × Bool
 | [],_=>(0,false)
 | y :: l,x=>if (y:Int) < x then ((y:Int),true) else befL l x
theorem next_from (L:List Nat) (x:Int) (hL:L.length<=1000):∀(d i K:Nat),i+d=L.length->d < K->PR.remouldref07_Next.l0 K (zs L) x (i:Int)=some (nextL (L.drop i) x):=by
 intro d;have hz:=zs_len L
 induction d with
 | zero =>
  intro i K hi hK;obtain⟨K,rfl⟩:∃m,K=m+1:=⟨K-1,by omega⟩
  have c1:¬(i:Int) < ((zs L).length:Int):=by omega
  rw[PR.remouldref07_Next.l0,if_neg c1,List.drop_of_length_le (by omega)];rfl
 | succ d ih =>
  intro i K hi hK;obtain⟨K,rfl⟩:∃m,K=m+1:=⟨K-1,by omega⟩
  obtain⟨y,hy⟩:∃y,L[i]?=some y:=⟨L[i]'(by omega),by simp[show i < L.length by omega]⟩
  have hyl:=(List.getElem?_eq_some_iff.1 hy).1;have c1:(i:Int) < ((zs L).length:Int):=by omega
  have hi2:=ih (i+1) K (by omega) (by omega);rw[PR.remouldref07_Next.l0,if_pos c1,if_pos (Int.natCast_nonneg i),rd_zs hy,List.drop_eq_getElem_cons hyl,(List.getElem?_eq_some_iff.1 hy).2,nextL]
  by_cases e:(y:Int) > x
  · rw[if_pos e,if_pos e]
  · rw[if_neg e,if_neg e,wrap_s (by omega)];exact hi2
theorem next_ev (L:List Nat) (x:Int) (hL:L.length<=1000):PR.remouldref07_Next.f (L.length+1) (zs L) x=some (nextL L x) :=
 next_from L x hL L.length 0 _ (Nat.zero_add _) (Nat.lt_succ_self _)
theorem before_from (L:List Nat) (x:Int) (hL:L.length<=1000):∀(j K:Nat),j<=L.length->j < K->PR.remouldref07_Before.l0 K (zs L) x ((j:Int)-1)=some (befL (L.take j).reverse x):=by
 intro j;have hz:=zs_len L
 induction j with
 | zero =>
  intro K hi hK;obtain⟨K,rfl⟩:∃m,K=m+1:=⟨K-1,by omega⟩
  have c1:¬((0:Nat):Int)-1>=0:=by omega
  rw[PR.remouldref07_Before.l0,if_neg c1];rfl
 | succ j ih =>
  intro K hi hK;obtain⟨K,rfl⟩:∃m,K=m+1:=⟨K-1,by omega⟩
  obtain⟨y,hy⟩:∃y,L[j]?=some y:=⟨L[j]'(by omega),by simp[show j < L.length by omega]⟩
  have e1:((j+1:Nat):Int)-1=(j:Int):=by omega
  have c1:(j:Int)>=0:=Int.natCast_nonneg j;have c2:(j:Int) < ((zs L).length:Int):=by omega
  have hi2:=ih K (by omega) (by omega);have e2:wrap64 ((j:Int)-1)=(j:Int)-1:=by unfold wrap64; omega
  rw[e1,PR.remouldref07_Before.l0,if_pos c1,if_pos (Int.natCast_nonneg j),if_pos c2,rd_zs hy,List.take_add_one,hy,Option.toList_some,List.reverse_append,List.reverse_singleton,List.singleton_append,befL]
  by_cases e:(y:Int) < x
  · rw[if_pos e,if_pos e]
  · rw[if_neg e,if_neg e,e2];exact hi2
theorem before_ev (L:List Nat) (x:Int) (hL:L.length<=1000):PR.remouldref07_Before.f (L.length+1) (zs L) x=some (befL L.reverse x):=by
 have h:=before_from L x hL L.length (L.length+1) (Nat.le_refl _) (Nat.lt_succ_self _);rw[List.take_of_length_le (Nat.le_refl _)]at h;unfold PR.remouldref07_Before.f;have e2:wrap64 (((zs L).length:Int)-1)=(L.length:Int)-1:=by rw[zs_len]; unfold wrap64; omega
 rw[e2];exact h
theorem nextL_spec (x:Int):∀(L:List Nat),RK.Asc L->(nextL L x=(0,false)/\∀y∈L,¬x < (y:Int))∨∃y∈L,nextL L x=((y:Int),true)/\x < (y:Int)/\∀z∈L,x < (z:Int)->y<=z
 | [],_=>.inl ⟨rfl,fun y h=>by cases h⟩
 | y :: l,ha=>by
  obtain⟨h1,h2⟩:=List.pairwise_cons.1 ha;rw[nextL]
  by_cases e:(y:Int) > x
  ·
   rw[if_pos e];refine .inr ⟨y,List.mem_cons_self,rfl,e,fun z hz _=>?_⟩;rcases List.mem_cons.1 hz with rfl | hz
   · exact Nat.le_refl _
   · exact Nat.le_of_lt (h1 z hz)
  ·
   rw[if_neg e];rcases nextL_spec x l h2 with ⟨a,b⟩ | ⟨t,t1,t2,t3,t4⟩
   ·
    refine .inl ⟨a,fun z hz=>?_⟩;rcases List.mem_cons.1 hz with rfl | hz
    · exact e
    · exact b z hz
   ·
    refine .inr ⟨t,List.mem_cons_of_mem _ t1,t2,t3,fun z hz hx=>?_⟩;rcases List.mem_cons.1 hz with rfl | hz
    · exact absurd hx e
    · exact t4 z hz hx
theorem befL_spec (x:Int):∀(L:List Nat),L.Pairwise (fun a b=>b < a)->(befL L x=(0,false)/\∀y∈L,¬(y:Int) < x)∨∃y∈L,befL L x=((y:Int),true)/\(y:Int) < x/\∀z∈L,(z:Int) < x->z<=y
 | [],_=>.inl ⟨rfl,fun y h=>by cases h⟩
 | y :: l,ha=>by
  obtain⟨h1,h2⟩:=List.pairwise_cons.1 ha;rw[befL]
  by_cases e:(y:Int) < x
  ·
   rw[if_pos e];refine .inr ⟨y,List.mem_cons_self,rfl,e,fun z hz _=>?_⟩;rcases List.mem_cons.1 hz with rfl | hz
   · exact Nat.le_refl _
   · exact Nat.le_of_lt (h1 z hz)
  ·
   rw[if_neg e];rcases befL_spec x l h2 with ⟨a,b⟩ | ⟨t,t1,t2,t3,t4⟩
   ·
    refine .inl ⟨a,fun z hz=>?_⟩;rcases List.mem_cons.1 hz with rfl | hz
    · exact e
    · exact b z hz
   ·
    refine .inr ⟨t,List.mem_cons_of_mem _ t1,t2,t3,fun z hz hx=>?_⟩;rcases List.mem_cons.1 hz with rfl | hz
    · exact absurd hx e
    · exact t4 z hz hx
namespace RK
theorem nextL_in {k:Nat} {m:S} (hs:Supp k m) (x:Nat):nextL (lst k m) (x:Int)=(if (nxv k m x).2=true then ((nxv k m x).1:Int) else 0,(nxv k m x).2):=by
 have hsp:=nxv_spec k hs x;rcases nextL_spec (x:Int) (lst k m) (lst_asc k m) with ⟨a,b⟩ | ⟨y,h1,h2,h3,h4⟩
 ·
  have hn:(nxv k m x).2=false:=by
   cases e:(nxv k m x).2 with
   | false=>rfl
   | true =>
    have h:=hsp.1 e;have:=b _ ((mem_lst hs _).2 h.1.1);have:=h.1.2;omega
  rw[a,hn];rfl
 ·
  have hN:IsNext m x y:=⟨⟨(mem_lst hs y).1 h1,by omega⟩,fun z hz hx=>h4 z ((mem_lst hs z).2 hz) (by omega)⟩
  cases e:(nxv k m x).2 with
  | false=>exact False.elim (hN.not_none (hsp.2 e))
  | true=>rw[h2,(hsp.1 e).unique hN]; rfl
theorem nextL_min {k:Nat} {m:S} (hs:Supp k m) {a:Nat} (ha:IsMin m a):nextL (lst k m) (-1)=((a:Int),true):=by
 rcases nextL_spec (-1) (lst k m) (lst_asc k m) with ⟨-,b⟩ | ⟨y,h1,h2,h3,h4⟩
 · exact absurd (by omega) (b a ((mem_lst hs a).2 ha.1))
 · have h5:=h4 a ((mem_lst hs a).2 ha.1) (by omega);have h6:=ha.2 y ((mem_lst hs y).1 h1);rw[h2,show y=a by omega]
theorem lst_desc (k:Nat) (m:S):(lst k m).reverse.Pairwise (fun a b=>b < a):=List.pairwise_reverse.2 (lst_asc k m)
theorem befL_in {k:Nat} {m:S} (hs:Supp k m) (x:Nat):befL (lst k m).reverse (x:Int)=(if (bfv m x).2=true then ((bfv m x).1:Int) else 0,(bfv m x).2):=by
 rcases befL_spec (x:Int) _ (lst_desc k m) with ⟨a,b⟩ | ⟨y,h1,h2,h3,h4⟩
 ·
  have hn:bfv m x=(0,false):=bfv_none fun z hz=>by
   cases e:m z with
   | false=>rfl
   | true =>
    have:=b z (List.mem_reverse.2 ((mem_lst hs z).2 e));omega
  rw[a,hn];rfl
 ·
  have hn:bfv m x=(y,true):=bfv_some ((mem_lst hs y).1 (List.mem_reverse.1 h1)) (by omega) fun z z1 z2=>by
   cases e:m z with
   | false=>rfl
   | true =>
    have:=h4 z (List.mem_reverse.2 ((mem_lst hs z).2 e)) (by omega);omega
  rw[h2,hn];rfl
theorem befL_max {k:Nat} {m:S} (hs:Supp k m) {b:Nat} (hb:IsMax m b):befL (lst k m).reverse (R k:Int)=((b:Int),true):=by
 have hbR:=hs b hb.1;rcases befL_spec (R k:Int) _ (lst_desc k m) with ⟨-,h⟩ | ⟨y,h1,h2,h3,h4⟩
 · exact absurd (by omega) (h b (List.mem_reverse.2 ((mem_lst hs b).2 hb.1)))
 · have h5:=h4 b (List.mem_reverse.2 ((mem_lst hs b).2 hb.1)) (by omega);have h6:=hb.2 y ((mem_lst hs y).1 (List.mem_reverse.1 h1));rw[h2,show y=b by omega]
end RK
def cntL:List Nat->Int->Int->Nat
 | [],_,_=>0
 | y :: l,lo,hi=>(if lo<=(y:Int)/\(y:Int)<=hi then 1 else 0)+cntL l lo hi
theorem count_from (L:List Nat) (lo hi:Int) (hL:L.length<=1000):∀(d i K n:Nat),i+d=L.length->d < K->n<=i->PR.remouldref07_Count.l0 K (zs L) lo hi (n:Int) (i:Int)=some ((n+cntL (L.drop i) lo hi:Nat):Int):=by
 intro d;have hz:=zs_len L
 induction d with
 | zero =>
  intro i K n hi2 hK hn;obtain⟨K,rfl⟩:∃m,K=m+1:=⟨K-1,by omega⟩
  have c1:¬(i:Int) < ((zs L).length:Int):=by omega
  rw[PR.remouldref07_Count.l0,if_neg c1,List.drop_of_length_le (by omega)];rfl
 | succ d ih =>
  intro i K n hi2 hK hn;obtain⟨K,rfl⟩:∃m,K=m+1:=⟨K-1,by omega⟩
  obtain⟨y,hy⟩:∃y,L[i]?=some y:=⟨L[i]'(by omega),by simp[show i < L.length by omega]⟩
  have hyl:=(List.getElem?_eq_some_iff.1 hy).1;have c1:(i:Int) < ((zs L).length:Int):=by omega
  have h1:=ih (i+1) K n (by omega) (by omega) (by omega);have h2:=ih (i+1) K (n+1) (by omega) (by omega) (by omega);have hw:=wrap_s (i:=n) (by omega);have hw2:=wrap_s (i:=i) (by omega);rw[PR.remouldref07_Count.l0,if_pos c1,if_pos (Int.natCast_nonneg i),rd_zs hy,List.drop_eq_getElem_cons hyl,(List.getElem?_eq_some_iff.1 hy).2,cntL,hw,hw2]
  by_cases e1:(y:Int)>=lo
  ·
   rw[if_pos e1]
   by_cases e2:(y:Int)<=hi
   · rw[if_pos e2,if_pos ⟨e1,e2⟩,h2,Nat.add_assoc]
   · rw[if_neg e2,if_neg (fun h=>e2 h.2),Nat.zero_add];exact h1
  · rw[if_neg e1,if_neg (fun h=>e1 h.1),Nat.zero_add];exact h1
theorem count_ev (L:List Nat) (lo hi:Int) (hL:L.length<=1000):PR.remouldref07_Count.f (L.length+1) (zs L) lo hi=some ((cntL L lo hi:Nat):Int):=by
 have h:=count_from L lo hi hL L.length 0 (L.length+1) 0 (Nat.zero_add _) (Nat.lt_succ_self _) (Nat.le_refl _);rw[Nat.zero_add]at h;exact h
namespace RK
theorem cntL_sum (m:S) (lo hi:Int):∀n,cntL ((List.range n).filter m) lo hi=sumN (fun y=>if m y=true/\lo<=(y:Int)/\(y:Int)<=hi then 1 else 0) n
 | 0=>rfl
 | n+1=>by
  have happ:∀(l l':List Nat),cntL (l ++ l') lo hi=cntL l lo hi+cntL l' lo hi:=by
   intro l l'
   induction l with
   | nil=>simp[cntL]
   | cons y l ih=>rw[List.cons_append,cntL,cntL,ih,Nat.add_assoc]
  rw[List.range_succ,List.filter_append,happ,cntL_sum m lo hi n,sumN]
  congr 1
  cases e:m n with
  | true=>simp[e,cntL]
  | false=>simp[e,cntL]
theorem sum_window (g:Nat->Nat) (lo N:Nat):∀n,lo+n<=N->sumN (fun y=>if lo<=y/\y < lo+n then g y else 0) N=sumN (fun i=>g (lo+i)) n
 | 0,_=>sumN_zero N fun t _=>by rw[if_neg (by omega)]
 | n+1,h=>by
  have h1:=sumN_upd (f:=fun y=>if lo<=y/\y < lo+n then g y else 0) (g:=fun y=>if lo<=y/\y < lo+(n+1) then g y else 0) (s:=lo+n) (c:=g (lo+n)) (fun t ht=>by
   by_cases e:lo<=t/\t < lo+n
   · rw[if_pos e,if_pos (by omega)]
   · rw[if_neg e,if_neg (by omega)]) (by rw[if_pos (⟨by omega,by omega⟩:lo<=lo+n/\lo+n < lo+(n+1)),if_neg (fun h:lo<=lo+n/\lo+n < lo+n=>absurd h.2 (Nat.lt_irrefl _)),Nat.zero_add]) N
  rw[h1,sum_window g lo N n (by omega),if_pos (by omega),sumN]
theorem cn_sum (m:S) (lo:Nat):∀n,cn m lo n=sumN (fun i=>if m (lo+i)=true then 1 else 0) n
 | 0=>rfl
 | n+1=>by rw[cn,cn_sum m lo n,sumN]
theorem cntL_in {k:Nat} {m:S} {lo hi:Nat} (hhi:hi < R k) (hlo:lo < R k):cntL (lst k m) (lo:Int) (hi:Int)=cn m lo (hi+1-lo):=by
 unfold lst;rw[cntL_sum,cn_sum,<-sum_window (fun y=>if m y=true then 1 else 0) lo (R k) (hi+1-lo) (by omega)];refine sumN_congr _ fun y _=>?_
 by_cases e:lo<=y/\y < lo+(hi+1-lo)
 ·
  rw[if_pos e]
  by_cases e2:m y=true
  · rw[if_pos e2,if_pos ⟨e2,by omega,by omega⟩]
  · rw[if_neg e2,if_neg (fun h=>e2 h.1)]
 · rw[if_neg e,if_neg (fun h=>e (by omega))]
end RK
end Go.Proofs.YtpnfmbeccjehiabGreatDoor
