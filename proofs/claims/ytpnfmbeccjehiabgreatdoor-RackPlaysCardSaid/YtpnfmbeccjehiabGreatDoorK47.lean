/- What the reference's Digits, shelves and Shape come to. -/
import Derived.Test.YtpnfmbeccjehiabGreatDoorQ4
import Derived.Test.YtpnfmbeccjehiabGreatDoorZ7
set_option maxHeartbeats 4000000
namespace Go.Proofs.YtpnfmbeccjehiabGreatDoor
open Go.RowKit Go.Proofs.YtpnfmbeccjehiabGreatDoorW.PrintWords Go.Proofs.YtpnfmbeccjehiabGreatDoorW.PrintLast Go.Proofs.YtpnfmbeccjehiabGreatDoorW.PrintMore
theorem leO_up {α : Type} {f : Nat -> Option α} (h : ∀ k, LeO (f k) (f (k + 1))) {k0 : Nat} {r : α} (h0 : f k0 = some r) : ∀ k, k0 <= k -> f k = some r := by
  intro k hk
  induction k with
  | zero => obtain rfl : k0 = 0 := by omega
            exact h0
  | succ k ih =>
    rcases Nat.lt_or_eq_of_le hk with h1 | h1
    · exact h k r (ih (by omega))
    · rw [<- h1]; exact h0
theorem dig_fin:∀a:Fin 256,PR.remouldref07_Digits.f 3 ((a:Nat):Int)=some ⟨(RK.dec a).toArray⟩:=by decide +kernel
theorem digits_f {a:Nat} (ha:a < 256) {k:Nat} (hk:3<=k):PR.remouldref07_Digits.f k (a:Int)=some ⟨(RK.dec a).toArray⟩ :=
 leO_up (f:=fun k=>PR.remouldref07_Digits.f k (a:Int)) (fun k=>PR.remouldref07_Digits.mono _ k) (dig_fin ⟨a,ha⟩) k hk
namespace RK
theorem grp_len (r:Nat):∀l,(grp r l).length<=l.length/\∀p∈grp r l,p.2.length<=l.length:=by
 refine fun l=>snoc_ind (P:=fun l=>(grp r l).length<=l.length/\∀p∈grp r l,p.2.length<=l.length) ?_ ?_ l
 · exact⟨by simp[grp],fun p hp=>by simp[grp]at hp⟩
 ·
  intro l z ⟨i1,i2⟩;rw[grp_snoc];rcases List.eq_nil_or_concat (grp r l) with hg | ⟨g0,q,hg⟩
  · rw[hg];unfold grpStep;simp only[List.getLast?_nil];exact⟨by simp,fun p hp=>by rw[List.mem_singleton.1 hp]; simp⟩
  ·
   obtain⟨u,ys⟩:=q;rw[List.concat_eq_append]at hg;rw[hg]at i1 i2 ⊢;unfold grpStep;simp only[List.getLast?_concat];have j2:=i2 (u,ys) (List.mem_append_right _ (List.mem_singleton.2 rfl));simp only[List.length_append,List.length_cons,List.length_nil]at i1 ⊢;dsimp only at j2
   split
   ·
    rw[List.dropLast_concat];refine⟨by simp; omega,fun p hp=>?_⟩;rcases List.mem_append.1 hp with hp | hp
    · have:=i2 p (List.mem_append_left _ hp); omega
    · rw[List.mem_singleton.1 hp]; simp; omega
   ·
    refine⟨by simp; omega,fun p hp=>?_⟩;rcases List.mem_append.1 hp with hp | hp
    · have:=i2 p hp; omega
    · rw[List.mem_singleton.1 hp]; simp
end RK
def g1 (g:List (Nat × List Nat)):List Int:=zs (g.map (·.1))
def g2 (g:List (Nat × List Nat)):List (List Int):=g.map fun p=>zs p.2
theorem g1_snoc (g:List (Nat × List Nat)) (u:Nat) (ys:List Nat):g1 (g ++ [(u,ys)])=g1 g ++ [(u:Int)]:=by simp[g1,zs]
theorem g2_snoc (g:List (Nat × List Nat)) (u:Nat) (ys:List Nat):g2 (g ++ [(u,ys)])=g2 g ++ [zs ys]:=by simp[g2]
theorem g1_len (g:List (Nat × List Nat)):(g1 g).length=g.length:=by simp[g1,zs]
theorem g2_len (g:List (Nat × List Nat)):(g2 g).length=g.length:=by simp[g2]
theorem wrap_p {n:Nat} (h:n<=4000000):wrap64 (((n+1:Nat):Int)-1)=(n:Int):=by
 unfold wrap64;omega
theorem rdL_last (A:List (List Int)) (x:List Int):PR.rd_L1 (A ++ [x]) (A.length:Int)=x:=by simp[PR.rd_L1,List.getD]
theorem set_last (A:List (List Int)) (x y:List Int):(A ++ [x]).set A.length y=A ++ [y]:=by simp
theorem tdiv_n (z r:Nat) (hz:z<=1000000):wrap64 (Int.tdiv (z:Int) (r:Int))=((z / r:Nat):Int):=by
 have h1:Int.tdiv (z:Int) (r:Int)=((z / r:Nat):Int):=by simp[Int.tdiv]
 have h2:z / r<=z:=Nat.div_le_self _ _;rw[h1];generalize z / r=q at h2 ⊢;unfold wrap64;omega
theorem tmod_n (z r:Nat):Int.tmod (z:Int) (r:Int)=((z % r:Nat):Int):=by simp[Int.tmod]
theorem shelves_from {r:Nat} (hr:0 < r) (c:Nat) (l:List Nat) (hl:l.length<=1000) (hb:∀z∈l,z<=1000000):∀(d i K:Nat),i+d=l.length->d < K ->
  PR.remouldref07_shelves.l0 K (zs (c :: l)) (r:Int) (g1 (RK.grp r (l.take i))) (g2 (RK.grp r (l.take i))) ((i+1:Nat):Int)=some (g1 (RK.grp r l),g2 (RK.grp r l)):=by
 intro d
 induction d with
 | zero =>
  intro i K hi hK;obtain⟨K,rfl⟩:∃m,K=m+1:=⟨K-1,by omega⟩
  have hz:=zs_len (c :: l);rw[List.length_cons]at hz;simp only[PR.remouldref07_shelves.l0];rw[if_neg (by omega),List.take_of_length_le (by omega)]
 | succ d ih =>
  intro i K hi hK;obtain⟨K,rfl⟩:∃m,K=m+1:=⟨K-1,by omega⟩
  have hz:=zs_len (c :: l);rw[List.length_cons]at hz;obtain⟨z,hzi⟩:∃z,l[i]?=some z:=⟨l[i]'(by omega),by simp[show i < l.length by omega]⟩
  have hzb:=hb z (List.mem_of_getElem? hzi);have hrd:rd (zs (c :: l)) ((i+1:Nat):Int)=(z:Int):=rd_zs (by simpa using hzi);have hlt:(l.take i).length<=1000:=by rw[List.length_take]; omega
  have hr0:¬(r:Int)=0:=by omega
  have hst:=wrap_s (i:=i+1) (by omega);have h01:(0:Int)<=((i+1:Nat):Int):=by omega
  have hlt1:((i+1:Nat):Int) < ((zs (c :: l)).length:Int):=by omega
  have hih:=ih (i+1) K (by omega) (by omega);clear ih;rw[List.take_add_one,hzi,Option.toList_some,RK.grp_snoc]at hih;obtain⟨b1,b2⟩:=RK.grp_len r (l.take i);rw[PR.remouldref07_shelves.l0,if_pos hlt1];simp only[hrd,tdiv_n z r hzb,tmod_n,hst,if_pos h01,if_neg hr0];have HIH:=Lib.hid hih;clear hih hrd hst h01 hlt1 hr0;rcases List.eq_nil_or_concat (RK.grp r (l.take i)) with hg | ⟨g0,q,hg⟩
  ·
   have hih:=HIH.out;rw[hg]at hih ⊢;rw[<-hih];have e1:wrap64 (0:Int)=0:=by unfold wrap64; omega
   simp[g1,g2,zs,RK.grpStep,PR.rd_L1,e1]
  ·
   obtain⟨u,ys⟩:=q;rw[List.concat_eq_append]at hg;rw[hg]at b1 b2 ⊢;have j2:=b2 (u,ys) (List.mem_append_right _ (List.mem_singleton.2 rfl));simp only[List.length_append,List.length_cons,List.length_nil]at b1;dsimp only at j2;rw[g1_snoc,g2_snoc];have n1:((g1 g0 ++ [(u:Int)]).length)=g0.length+1:=by rw[List.length_append,g1_len]; rfl
   have n2:((g2 g0 ++ [zs ys]).length)=g0.length+1:=by rw[List.length_append,g2_len]; rfl
   have w1:=wrap_p (n:=g0.length) (by omega);have hru:rd (g1 g0 ++ [(u:Int)]) (g0.length:Int)=(u:Int):=rd_at (by rw[<-g1_len g0]; simp);have hrl:PR.rd_L1 (g2 g0 ++ [zs ys]) (g0.length:Int)=zs ys:=by rw[<-g2_len g0]; exact rdL_last _ _
   have hzy:=zs_len ys;rw[n1,if_neg (by omega),w1,if_pos (by omega),if_pos (by omega),hru];have hih:=HIH.out;rw[hg]at hih;unfold RK.grpStep at hih;simp only[List.getLast?_concat]at hih
   by_cases e:u=z / r
   · rw[if_pos (by rw[e]),n2,w1,if_pos (by omega),if_pos (by omega),hrl,if_pos (by omega),Int.toNat_natCast];rw[if_pos e,List.dropLast_concat,g1_snoc,g2_snoc]at hih;rw[<-hih,<-g2_len g0,set_last];simp[zs]
   ·
    rw[if_neg (by omega),if_pos (by omega),n2,if_pos (by omega)];rw[if_neg e,g1_snoc,g2_snoc,g1_snoc,g2_snoc]at hih;have n3:((g2 g0 ++ [zs ys] ++ [[]]).length)=g0.length+2:=by rw[List.length_append,n2]; rfl
    have w2:=wrap_p (n:=g0.length+1) (by omega);have hrl2:PR.rd_L1 (g2 g0 ++ [zs ys] ++ [[]]) ((g0.length+1:Nat):Int) = []:=by rw[<-n2]; exact rdL_last _ _
    simp only[Option.bind_some];rw[n3,w2,if_pos (by omega),if_pos (by omega),hrl2,if_pos (by simp),Int.toNat_natCast,<-n2,set_last,<-hih];simp[zs]
theorem shelves_f {k:Nat} (hk:k+1<=3) {m:RK.S} (hs:RK.Supp (k+1) m) {a:Nat} (ha:RK.IsMin m a) {K:Nat} (hK:1000<=K) :
  PR.remouldref07_shelves.f K (zs (RK.lst (k+1) m)) ((k+1:Nat):Int)=some (zs (RK.lst k (RK.shelves k m a)),(RK.lst k (RK.shelves k m a)).map fun u=>zs (RK.lst k (RK.spot k m a u))):=by
 have hR:=RK.R_le hk;have hR0:=RK.R_pos k;have hlen:=RK.lst_len (k+1) m;have hg:=RK.grp_lst hs ha;have hw:wrap64 (((k+1:Nat):Int)-1)=(k:Int):=wrap_p (by omega);have hp:PR.remouldref07_Places.f K (k:Int)=some (RK.R k:Int):=leO_up (f:=fun K=>PR.remouldref07_Places.f K (k:Int)) (fun K=>PR.remouldref07_Places.mono _ K) (places_f (by omega)) K (by omega);unfold PR.remouldref07_shelves.f;rw[hw,hp];simp only[Option.bind_some];have hall:∀z∈RK.lst (k+1) m,z<=1000000:=fun z hz=>by
  have:=hs z ((RK.mem_lst hs z).1 hz); omega
 cases hl:RK.lst (k+1) m with
 | nil =>
  have:=(RK.lst_emp hs).1 hl a;rw[ha.1]at this; cases this
 | cons c l =>
  rw[hl]at hlen hg hall;rw[List.tail_cons]at hg;rw[List.length_cons]at hlen;have h:=shelves_from (r:=RK.R k) (by omega) c l (by omega) (fun z hz=>hall z (List.mem_cons_of_mem _ hz)) l.length 0 K (by omega) (by omega);rw[List.take_zero,hg]at h
  simpa[g1,g2,RK.grp,zs,Function.comp_def]using h
/-- the reference's shape of a set is its text -/
theorem shape_from {k:Nat} (T:List UInt8) (hT:T.length<=1000000) (hk:k<=3) (sp:Nat->RK.S) (K0:Nat) (hK0:3<=K0) (L:List Nat) (hL:L.length<=1000)
  (ih:∀u∈L,u < 256/\∀K,K0<=K->PR.remouldref07_Shape.f K (zs (RK.lst k (sp u))) (k:Int)=some ⟨(RK.shT k (sp u)).toArray⟩) :
  ∀(d i K:Nat) (x:List UInt8),i+d=L.length->K0+d < K->x ++ ((L.drop i).flatMap (fun u=>124 :: (RK.dec u ++ 58 :: RK.shT k (sp u))) ++ [41])=T ->
  PR.remouldref07_Shape.l0 K ((k+1:Nat):Int) ⟨x.toArray⟩ (zs L) (L.map fun u=>zs (RK.lst k (sp u))) (i:Int)=some ⟨T.toArray⟩:=by
 intro d;have hzL:=zs_len L
 induction d with
 | zero =>
  intro i K x hi hK hx;obtain⟨K,rfl⟩:∃m,K=m+1:=⟨K-1,by omega⟩
  rw[List.drop_of_length_le (by omega)]at hx;simp only[List.flatMap_nil,List.nil_append]at hx;simp only[PR.remouldref07_Shape.l0];have hxl:x.length<=1000000:=by have h:=congrArg List.length hx; simp at h; omega
  have c2:(⟨x.toArray⟩:ByteArray).size+1<=9223372036854775807:=by rw[str_size]; omega
  rw[if_neg (by omega),if_pos c2,<-hx];exact congrArg some (str_app x [41])
 | succ d ihd =>
  intro i K x hi hK hx;obtain⟨K,rfl⟩:∃m,K=m+1:=⟨K-1,by omega⟩
  obtain⟨u,hu⟩:∃u,L[i]?=some u:=⟨L[i]'(by omega),by simp[show i < L.length by omega]⟩
  obtain⟨hu1,hu2⟩:=ih u (List.mem_of_getElem? hu);have hul:=(List.getElem?_eq_some_iff.1 hu).1;rw[List.drop_eq_getElem_cons hul,(List.getElem?_eq_some_iff.1 hu).2,List.flatMap_cons]at hx;have hx2:(x ++ (124 :: (RK.dec u ++ 58 :: RK.shT k (sp u)))) ++ ((L.drop (i+1)).flatMap (fun u=>124 :: (RK.dec u ++ 58 :: RK.shT k (sp u))) ++ [41])=T:=by rw[<-hx]; simp
  have hxl:x.length+1+(RK.dec u).length+1+(RK.shT k (sp u)).length<=1000000:=by
   have h:=congrArg List.length hx2;simp only[List.length_append,List.length_cons,List.length_nil]at h;omega
  have hrd:rd (zs L) (i:Int)=(u:Int):=rd_zs hu;have hr1:PR.rd_L1 (L.map fun u=>zs (RK.lst k (sp u))) (i:Int)=zs (RK.lst k (sp u)):=by simp[PR.rd_L1,List.getD,hu]
  have hw:wrap64 (((k+1:Nat):Int)-1)=(k:Int):=wrap_p (by omega);have hst:=wrap_s (i:=i) (by omega);have HR:=Lib.hid (ihd (i+1) K (x ++ (124 :: (RK.dec u ++ 58 :: RK.shT k (sp u)))) (by omega) (by omega) hx2);have HU2:=Lib.hid (hu2 K (by omega));clear ihd ih hu2 hx hx2;have a1:(⟨x.toArray⟩:ByteArray) ++ (⟨#[124]⟩:ByteArray)=⟨(x ++ [124]).toArray⟩:=str_app x [124];have a2:(⟨(x ++ [124]).toArray⟩:ByteArray) ++ (⟨(RK.dec u).toArray⟩:ByteArray)=⟨(x ++ [124] ++ RK.dec u).toArray⟩:=str_app _ _;have a3:(⟨(x ++ [124] ++ RK.dec u).toArray⟩:ByteArray) ++ (⟨#[58]⟩:ByteArray)=⟨(x ++ [124] ++ RK.dec u ++ [58]).toArray⟩:=str_app _ [58];have a4:(⟨(x ++ [124] ++ RK.dec u ++ [58]).toArray⟩:ByteArray) ++ (⟨(RK.shT k (sp u)).toArray⟩:ByteArray)=⟨(x ++ (124 :: (RK.dec u ++ 58 :: RK.shT k (sp u)))).toArray⟩:=by
   rw[str_app]; congr 2; simp
  have c1:(i:Int) < ((zs L).length:Int):=by omega
  have c2:(⟨x.toArray⟩:ByteArray).size+1<=9223372036854775807:=by rw[str_size]; omega
  have c3:(0:Int)<=(i:Int):=Int.natCast_nonneg i;have c4:(⟨(x ++ [124]).toArray⟩:ByteArray).size+(⟨(RK.dec u).toArray⟩:ByteArray).size<=9223372036854775807:=by rw[str_size,str_size]; simp only[List.length_append,List.length_cons,List.length_nil]; omega
  have c5:(⟨(x ++ [124] ++ RK.dec u).toArray⟩:ByteArray).size+1<=9223372036854775807:=by rw[str_size]; simp only[List.length_append,List.length_cons,List.length_nil]; omega
  have c6:(i:Int) < ((L.map fun u=>zs (RK.lst k (sp u))).length:Int):=by rw[List.length_map]; omega
  have c7:(⟨(x ++ [124] ++ RK.dec u ++ [58]).toArray⟩:ByteArray).size+(⟨(RK.shT k (sp u)).toArray⟩:ByteArray).size<=9223372036854775807:=by rw[str_size,str_size]; simp only[List.length_append,List.length_cons,List.length_nil]; omega
  rw[PR.remouldref07_Shape.l0,if_pos c1,if_pos c2,if_pos c3,hrd,digits_f hu1 (by omega)];simp only[Option.bind_some,a1,a2,a3];rw[if_pos c4,if_pos c5,if_pos c6,hr1,hw,HU2.out];simp only[Option.bind_some,a4];rw[if_pos c7,hst];exact HR.out
theorem dec_small {a:Nat} (h:a < 256):(RK.dec a).length<=3:=(RK.dec_facts h).2.2.1
theorem shape_pre {k:Nat} (hk:k<=3) {m:RK.S} (hs:RK.Supp k m) {a b:Nat} (ha:RK.IsMin m a) (hb:RK.IsMax m b) {K:Nat} (hK:3<=K) :
  PR.remouldref07_Shape.f (K+1) (zs (RK.lst k m)) (k:Int)=if (k:Int)=0 then some ⟨(RK.dec a ++ [58] ++ RK.dec b).toArray⟩ else if ((zs (RK.lst k m)).length:Int)=1 then some ⟨(RK.dec a ++ [58] ++ RK.dec b ++ [40,41]).toArray⟩ else
   (PR.remouldref07_shelves.f K (zs (RK.lst k m)) (k:Int)).bind fun q=>(PR.remouldref07_Shape.f K q.1 (wrap64 ((k:Int)-1))).bind fun t=>if (⟨(RK.dec a ++ [58] ++ RK.dec b ++ [40]).toArray⟩:ByteArray).size+t.size<=9223372036854775807 then PR.remouldref07_Shape.l0 K (k:Int) (⟨(RK.dec a ++ [58] ++ RK.dec b ++ [40]).toArray⟩ ++ t) q.1 q.2 0 else none:=by
 have hR:=RK.R_le hk;have hf:=RK.lst_first hs ha;have hl:=RK.lst_last hs hb;have hl0:=(List.getElem?_eq_some_iff.1 hf).1;have hlen:=RK.lst_len k m;have ha2:=hs a ha.1;have hb2:=hs b hb.1;have hda:=dec_small (a:=a) (by omega);have hdb:=dec_small (a:=b) (by omega);obtain⟨q,hq⟩:∃q,(RK.lst k m).length=q+1:=⟨(RK.lst k m).length-1,by omega⟩
 rw[hq,Nat.add_sub_cancel]at hl;have hz:=zs_len (RK.lst k m);rw[hq]at hz;have w1:=wrap_p (n:=q) (by omega);have r0:rd (zs (RK.lst k m)) (0:Int)=(a:Int):=rd_zs hf;have r1:rd (zs (RK.lst k m)) (q:Int)=(b:Int):=rd_zs hl;have a1:(⟨(RK.dec a).toArray⟩:ByteArray) ++ (⟨#[58]⟩:ByteArray)=⟨(RK.dec a ++ [58]).toArray⟩:=str_app _ [58];have a2:(⟨(RK.dec a ++ [58]).toArray⟩:ByteArray) ++ (⟨(RK.dec b).toArray⟩:ByteArray)=⟨(RK.dec a ++ [58] ++ RK.dec b).toArray⟩:=str_app _ _;have a3:(⟨(RK.dec a ++ [58] ++ RK.dec b).toArray⟩:ByteArray) ++ (⟨#[40,41]⟩:ByteArray)=⟨(RK.dec a ++ [58] ++ RK.dec b ++ [40,41]).toArray⟩:=str_app _ [40,41];have a4:(⟨(RK.dec a ++ [58] ++ RK.dec b).toArray⟩:ByteArray) ++ (⟨#[40]⟩:ByteArray)=⟨(RK.dec a ++ [58] ++ RK.dec b ++ [40]).toArray⟩:=str_app _ [40];have s1:(⟨(RK.dec a).toArray⟩:ByteArray).size+1<=9223372036854775807:=by rw[str_size]; omega
 have s2:(⟨(RK.dec a ++ [58]).toArray⟩:ByteArray).size+(⟨(RK.dec b).toArray⟩:ByteArray).size<=9223372036854775807:=by rw[str_size,str_size]; simp; omega
 have s3:(⟨(RK.dec a ++ [58] ++ RK.dec b).toArray⟩:ByteArray).size+2<=9223372036854775807:=by rw[str_size]; simp; omega
 have s4:(⟨(RK.dec a ++ [58] ++ RK.dec b).toArray⟩:ByteArray).size+1<=9223372036854775807:=by omega
 rw[PR.remouldref07_Shape.f];rw[hz,w1,if_neg (by omega),if_pos (by omega),r0,r1,digits_f (by omega) hK];simp only[Option.bind_some,a1];rw[if_pos s1,if_pos (by omega),if_pos (by omega),digits_f (by omega) hK];simp only[Option.bind_some,a2,a3,a4];rw[if_pos s2,if_pos s3];simp only[if_pos s4]
theorem shape_emp {k:Nat} {m:RK.S} (hs:RK.Supp k m) (he:RK.Emp m) (K:Nat):PR.remouldref07_Shape.f (K+1) (zs (RK.lst k m)) (k:Int)=some ⟨(RK.shT k m).toArray⟩:=by
 rw[(RK.lst_emp hs).2 he,RK.shT_emp hs he,PR.remouldref07_Shape.f,if_pos (by simp[zs])]
theorem shape_f:∀(k:Nat),k<=3->∃K0,3<=K0/\∀(m:RK.S),RK.Supp k m->∀K,K0<=K->PR.remouldref07_Shape.f K (zs (RK.lst k m)) (k:Int)=some ⟨(RK.shT k m).toArray⟩
 | 0,hk=>by
  refine⟨4,by omega,fun m hs K hK=>?_⟩;obtain⟨K,rfl⟩:∃m,K=m+1:=⟨K-1,by omega⟩
  rcases RK.ends_or hs with ⟨he,-⟩ | ⟨a,b,ha,hb,-⟩
  · exact shape_emp hs he K
  · rw[shape_pre hk hs ha hb (by omega),if_pos (show((0:Nat):Int)=0 from rfl),RK.shT_zero hs ha hb];simp
 | k+1,hk=>by
  obtain⟨K0,h3,ih⟩:=shape_f k (by omega);refine⟨K0+2000,by omega,fun m hs K hK=>?_⟩;obtain⟨K,rfl⟩:∃m,K=m+1:=⟨K-1,by omega⟩
  rcases RK.ends_or hs with ⟨he,-⟩ | ⟨a,b,ha,hb,-⟩
  · exact shape_emp hs he K
  ·
   have hR:=RK.R_le hk;have hlen:=RK.lst_len (k+1) m;have hlk:=RK.lst_len k (RK.shelves k m a);have hRk:=RK.R_le (k:=k) (by omega);have hT:(RK.shT (k+1) m).length<=1000000:=by have:=RK.shT_len (k+1) m hk hs; have:=RK.tL_le hk; omega
   have hone:=RK.lst_one hs ha;have hz:=zs_len (RK.lst (k+1) m);have hsT:=RK.shT_succ hs ha hb;rw[shape_pre hk hs ha hb (by omega),if_neg (by omega)]
   by_cases h1:(RK.lst (k+1) m).length=1
   · rw[if_pos (by omega),hsT,hone.1 h1];simp
   ·
    have hne:RK.lst k (RK.shelves k m a)≠[]:=fun h=>h1 (hone.2 h);rw[if_neg (by omega),shelves_f hk hs ha (by omega)];rw[if_neg hne]at hsT;have hw:wrap64 (((k+1:Nat):Int)-1)=(k:Int):=wrap_p (by omega);simp only[Option.bind_some];rw[hw,ih _ (RK.shelves_supp k m a) K (by omega)];simp only[Option.bind_some];have hle:(RK.dec a ++ [58] ++ RK.dec b ++ [40]).length+(RK.shT k (RK.shelves k m a)).length<=1000000:=by
     rw[hsT]at hT;simp only[List.length_append,List.length_cons,List.length_nil]at hT ⊢;omega
    rw[str_size,str_size,if_pos (by omega),str_app];refine shape_from (RK.shT (k+1) m) hT (by omega) (RK.spot k m a) K0 h3 (RK.lst k (RK.shelves k m a)) (by omega) (fun u hu=>⟨?_,fun K hK=>ih _ (RK.spot_supp k m a u) K hK⟩) _ 0 K _ (Nat.zero_add _) (by omega) ?_
    · have:=RK.shelves_supp k m a u ((RK.mem_lst (RK.shelves_supp k m a) u).1 hu); omega
    · rw[hsT,List.drop_zero]; simp
theorem refShape (k:Nat) (m:RK.S) (v:Value) (w:World) (hk:k<=3) (hs:RK.Supp k m) (hv:LI w v (zs (RK.lst k m))) :
  Calls Tryz.prog 12 #[v,.int .i64 (k:Int)] w fun e w'=>e=.returned (.string ⟨(RK.shT k m).toArray⟩)/\Below w.heap.size w w':=by
 obtain⟨A,c,rfl,h1,h2⟩:=hv;obtain⟨K0,-,h⟩:=shape_f k hk;exact PR.remouldref07_Shape.calls K0 A c (zs (RK.lst k m)) k _ w h2 h1 (h m hs K0 (Nat.le_refl _))
end Go.Proofs.YtpnfmbeccjehiabGreatDoor
