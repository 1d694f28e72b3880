/- What the reference's Work comes to. -/
import Derived.Test.YtpnfmbeccjehiabGreatDoorK63
set_option maxHeartbeats 2000000
namespace Go.Proofs.YtpnfmbeccjehiabGreatDoor
open Go.RowKit Go.Proofs.YtpnfmbeccjehiabGreatDoorW.PrintWords Go.Proofs.YtpnfmbeccjehiabGreatDoorW.PrintLast Go.Proofs.YtpnfmbeccjehiabGreatDoorW.PrintMore
theorem wrap_one {n:Nat} (h:n<=1000):wrap64 (1+(n:Int))=((1+n:Nat):Int):=by
 unfold wrap64;omega
theorem work_from {k:Nat} (hk:k<=3) (x:Nat) (hxb:x<=1000000) (sp:Nat->RK.S) (hsup:∀u,RK.Supp k (sp u)) (M:RK.S) (K0 res:Nat) (L:List Nat) (hL:L.length<=1000)
  (hne:∀u∈L,¬RK.Emp (sp u))
  (hin:∀l,RK.IsMax (sp (x / RK.R k)) l->x % RK.R k < l->res=1+RK.wk k (sp (x / RK.R k)) (x % RK.R k))
  (hout:(∀l,x / RK.R k∈L->RK.IsMax (sp (x / RK.R k)) l->¬x % RK.R k < l)->res=1+RK.wk k M (x / RK.R k))
  (ihs:∀u,∀K,K0<=K->PR.remouldref07_Work.f K (zs (RK.lst k (sp u))) (k:Int) ((x % RK.R k:Nat):Int)=some ((RK.wk k (sp u) (x % RK.R k):Nat):Int))
  (ihM:∀K,K0<=K->PR.remouldref07_Work.f K (zs L) (k:Int) ((x / RK.R k:Nat):Int)=some ((RK.wk k M (x / RK.R k):Nat):Int)) :
  ∀(d i K:Nat),i+d=L.length->K0+d < K->(∀l,x / RK.R k∈L.take i->RK.IsMax (sp (x / RK.R k)) l->¬x % RK.R k < l) ->
  PR.remouldref07_Work.l0 K ((k+1:Nat):Int) (x:Int) (RK.R k:Int) (zs L) (L.map fun u=>zs (RK.lst k (sp u))) (i:Int)=some ((res:Nat):Int):=by
 intro d;have hzL:=zs_len L;have hw:wrap64 (((k+1:Nat):Int)-1)=(k:Int):=wrap_p (by omega);have hr0:=RK.R_pos k;have hR:=RK.R_le hk;have hr:¬(RK.R k:Int)=0:=by omega
 have ht:=tdiv_n x (RK.R k) hxb;have hm:=tmod_n x (RK.R k)
 induction d with
 | zero =>
  intro i K hi hK hprev;obtain⟨K,rfl⟩:∃m,K=m+1:=⟨K-1,by omega⟩
  have c1:¬(i:Int) < ((zs L).length:Int):=by omega
  have hb:=(RK.wk_bound k M (x / RK.R k)).2;have ho:=hout (by rw[List.take_of_length_le (by omega)]at hprev; exact hprev);rw[PR.remouldref07_Work.l0,if_neg c1,if_neg hr,hw,ht,ihM K (by omega),Option.bind_some,wrap_one (by omega),ho]
 | succ d ihd =>
  intro i K hi hK hprev;obtain⟨K,rfl⟩:∃m,K=m+1:=⟨K-1,by omega⟩
  obtain⟨u,hu⟩:∃u,L[i]?=some u:=⟨L[i]'(by omega),by simp[show i < L.length by omega]⟩
  have hul:=(List.getElem?_eq_some_iff.1 hu).1;have c1:(i:Int) < ((zs L).length:Int):=by omega
  have c6:(i:Int) < ((L.map fun u=>zs (RK.lst k (sp u))).length:Int):=by rw[List.length_map]; omega
  have hr1:PR.rd_L1 (L.map fun u=>zs (RK.lst k (sp u))) (i:Int)=zs (RK.lst k (sp u)):=by simp[PR.rd_L1,List.getD,hu]
  have hst:=wrap_s (i:=i) (by omega);have hnext:(∀l,u=x / RK.R k->RK.IsMax (sp (x / RK.R k)) l->¬x % RK.R k < l)->PR.remouldref07_Work.l0 K ((k+1:Nat):Int) (x:Int) (RK.R k:Int) (zs L) (L.map fun u=>zs (RK.lst k (sp u))) ((i+1:Nat):Int)=some ((res:Nat):Int):=fun h=>by
   refine ihd (i+1) K (by omega) (by omega) fun l hl hmx=>?_;rw[List.take_add_one,hu,Option.toList_some]at hl;rcases List.mem_append.1 hl with hl | hl
   · exact hprev l hl hmx
   · exact h l (List.mem_singleton.1 hl).symm hmx
  rw[PR.remouldref07_Work.l0,if_pos c1,if_pos (Int.natCast_nonneg i),if_neg hr,rd_zs hu,ht,hr1,hm,hw,hst]
  by_cases e:u=x / RK.R k
  ·
   subst e;have hnE:=hne _ (List.mem_of_getElem? hu);obtain⟨l,hl⟩:=RK.exists_max (hsup (x / RK.R k)) hnE;have hla:=RK.lst_last (hsup (x / RK.R k)) hl;have hll:=RK.lst_len k (sp (x / RK.R k));have hl0:0 < (RK.lst k (sp (x / RK.R k))).length:=List.length_pos_of_mem ((RK.mem_lst (hsup _) l).2 hl.1);obtain⟨q,hq⟩:∃q,(RK.lst k (sp (x / RK.R k))).length=q+1:=⟨(RK.lst k (sp (x / RK.R k))).length-1,by omega⟩
   have hzq:=zs_len (RK.lst k (sp (x / RK.R k)));rw[hq]at hla hzq;rw[Nat.add_sub_cancel]at hla;have hwq:=wrap_p (n:=q) (by omega);have c3:(q:Int) < ((q+1:Nat):Int):=by omega
   rw[if_pos rfl,if_pos c6,hzq,hwq,if_pos (Int.natCast_nonneg q),if_pos c3,rd_zs hla]
   by_cases e2:x % RK.R k < l
   · have hb:=(RK.wk_bound k (sp (x / RK.R k)) (x % RK.R k)).2;rw[if_pos (Int.ofNat_lt.2 e2),ihs _ K (by omega),Option.bind_some,wrap_one (by omega),hin l hl e2]
   · rw[if_neg (fun h=>e2 (Int.ofNat_lt.1 h))];exact hnext fun l2 _ hl2=>by rw[hl2.unique hl]; exact e2
  · rw[if_neg (fun h=>e (Int.ofNat_inj.1 h))];exact hnext fun l2 h _=>absurd h e
theorem work_f:∀(k:Nat),k<=3->∃K0,∀(m:RK.S),RK.Supp k m->∀x,x < RK.R k->∀K,K0<=K->PR.remouldref07_Work.f K (zs (RK.lst k m)) (k:Int) (x:Int)=some ((RK.wk k m x:Nat):Int)
 | 0,hk=>by
  refine⟨2,fun m hs x hx K hK=>?_⟩;obtain⟨K,rfl⟩:∃m,K=m+2:=⟨K-2,by omega⟩
  rw[PR.remouldref07_Work.f,if_pos (show((0:Nat):Int)=0 from rfl),PR.remouldref07_Work.j0,if_pos rfl];rfl
 | k+1,hk=>by
  obtain⟨K0,ih⟩:=work_f k (by omega);obtain⟨K1,hK1⟩:∃K1,K1=K0+2000:=⟨_,rfl⟩
  refine⟨K1,fun m hs x hx K hK=>?_⟩;obtain⟨K,rfl⟩:∃m,K=m+2:=⟨K-2,by omega⟩
  have hk0:¬((k+1:Nat):Int)=0:=by omega
  rcases RK.ends_or hs with ⟨he,-⟩ | ⟨a,b,ha,hb,-⟩
  · rw[PR.remouldref07_Work.f,if_neg hk0,(RK.lst_emp hs).2 he,if_pos (by simp[zs]),PR.remouldref07_Work.j0,if_pos rfl,RK.wk_one hs (.inr (.inl he))];rfl
  ·
   have hR:=RK.R_le hk;have hlen:=RK.lst_len (k+1) m;have hlk:=RK.lst_len k (RK.shelves k m a);have hRk:=RK.R_le (k:=k) (by omega);have hl0:=(List.getElem?_eq_some_iff.1 (RK.lst_first hs ha)).1;have hz:=zs_len (RK.lst (k+1) m);have c0:¬((zs (RK.lst (k+1) m)).length:Int)=0:=by omega
   have c1:(0:Int) < ((zs (RK.lst (k+1) m)).length:Int):=by omega
   have r0:rd (zs (RK.lst (k+1) m)) (0:Int)=(a:Int):=rd_zs (RK.lst_first hs ha);obtain⟨d1,d2⟩:=RK.split_lt hx;rw[PR.remouldref07_Work.f,if_neg hk0,if_neg c0,if_pos c1,r0,PR.remouldref07_Work.j0]
   by_cases hxa:x < a
   · rw[if_pos (decide_eq_true (Int.ofNat_lt.2 hxa)),RK.wk_one hs (.inr (.inr ⟨a,ha,hxa⟩))];rfl
   ·
    have hw:wrap64 (((k+1:Nat):Int)-1)=(k:Int):=wrap_p (by omega);have hpl:PR.remouldref07_Places.f K (k:Int)=some (RK.R k:Int):=leO_up (f:=fun K=>PR.remouldref07_Places.f K (k:Int)) (fun K=>PR.remouldref07_Places.mono _ K) (places_f (by omega)) K (by omega);rw[if_neg (fun h=>hxa (Int.ofNat_lt.1 (of_decide_eq_true h))),hw,hpl,Option.bind_some,shelves_f hk hs ha (by omega),Option.bind_some];have h3:K0+(RK.lst k (RK.shelves k m a)).length < K:=by omega
    have h5:(RK.lst k (RK.shelves k m a)).length<=1000:=by omega
    exact work_from (by omega) x (by omega) (RK.spot k m a) (fun u=>RK.spot_supp k m a u) (RK.shelves k m a) K0 (RK.wk (k+1) m x) (RK.lst k (RK.shelves k m a)) h5
     (fun u hu=>RK.shelf_some ((RK.mem_lst (RK.shelves_supp k m a) u).1 hu))
     (fun l hl h=>RK.wk_in hs ha hxa hl h)
     (fun h=>RK.wk_out hs ha hxa fun l hl=>h l ((RK.mem_lst (RK.shelves_supp k m a) _).2 ((RK.shelves_iff k m a _).2 ⟨d1,l,hl.1⟩)) hl)
     (fun u K hK=>ih _ (RK.spot_supp k m a u) _ d2 K hK) (fun K hK=>ih _ (RK.shelves_supp k m a) _ d1 K hK) _ 0 K (Nat.zero_add _) h3 (fun l h=>by simp at h)
end Go.Proofs.YtpnfmbeccjehiabGreatDoor
