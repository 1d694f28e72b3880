/- rung returns a value of the ladder. -/
import Derived.Test.YtaffkceklkdokaaGreatDoorYE
import Derived.Test.YtaffkceklkdokaaGreatDoorYA
set_option maxRecDepth 100000
set_option maxHeartbeats 2000000
namespace Go.Proofs.YtaffkceklkdokaaGreatDoor.GG
open Go.RowKit
attribute [local go_sem ↓] Go.wp_at_zero Go.wp_at_succ
def fbs (j:Nat):List Value:=(List.range j).map fun i=>.int .i64 (GM.fb i)
theorem fbs_succ (j:Nat):fbs (j+1)=fbs j ++ [.int .i64 (GM.fb j)]:=by unfold fbs; rw[List.range_succ]; simp
theorem fbs_get (j i:Nat) (h:i < j):(fbs j)[i]?=some (.int .i64 (GM.fb i)):=by unfold fbs; simp[h]
theorem fb_mono (i m:Nat):GM.fb i<=GM.fb (i+m):=by
 induction m with
 | zero=>exact Int.le_refl _
 | succ m ih=>have:=GM.fb_pos (i+m); rw[<-Nat.add_assoc]; omega
theorem fb_small (j:Nat) (k:Int) (h:GM.fb j<=k) (hk:k<=4000000):j < 34:=by
 rcases Nat.lt_or_ge j 34 with h1 | h1
 · exact h1
 · have:=fb_mono 34 (j-34);rw[show 34+(j-34)=j by omega,GM.fb34]at this;omega
theorem pt_pu (m:Nat):GM.pt (m+40)=GM.pu m:=by
 unfold GM.pt;rw[if_neg (by omega),Nat.add_sub_cancel]
theorem rung_any (k:Int) (w:World) (h0:0<=k) (h1:k<=4000000) :
  Calls Tryz.prog 135 #[.int .i64 k] w fun e w'=>e=.returned (.agg #[.int .i64 (GM.gr 34 k).1,.int .i64 (GM.gr 34 k).2])/\Below w.heap.size w w':=by
 obtain⟨i0,hi,hz0,hz1,hz2⟩:=info_parts infoInt;obtain⟨R,hR⟩:∃R,(fl ((List.range 81).map GM.pt)).toArray=R:=⟨_,rfl⟩
 have HR:=Lib.hid hR;clear hR;go_enter Tryz.func135,Tryz.ntmps135;go_upto_region 2 with (first
  | (go_at_call 34; refine(newPowers_any _).mono ?_; rintro e w1 ⟨rfl,hb1⟩; rw[HR.out]; have R1:w1.heap[w.heap.size]?=some (.cells #[.int .i64 0,.int .i64 0] 43 (0,0)):=blk_call hb1 (by repeat (first | assumption | (with_reducible apply blk_set2) | (with_reducible apply blk_set1) | (with_reducible refine blk_far2 ?_ ?_; (first | omega | (simp; done) | (simp; omega))) | (with_reducible refine blk_far1 ?_ ?_; (first | omega | (simp; done) | (simp; omega))) | (with_reducible refine blk_new' _ _ ?_; (first | omega | (simp; done) | (simp; omega))) | (with_reducible refine blk_old ?_) | (with_reducible refine blk_drew ?_))); have B1:Below w.heap.size w w1:=bl_call (by repeat (first | exact Below.refl _ _ | exact Nat.le_refl _ | refine Below.alloc ?_ ?_ _ | refine Below.setCell ?_ ?_ _ | refine Below.drew ?_ | refine bl_drewN ?_ _ | (assumption) | refine bl_call ?_ (by assumption) ?_ | omega | (simp <;> omega))) hb1 (by simp); clear hb1)
  | (refine wpList_store_pows rfl (.tmp 3) (.tmp 8) rfl rfl (by rw[HR.out]; rfl) ?_; intro w2 hp hb2 hs2; have R2:=blk_call hb2 R1; have B2:=bl_call B1 hb2 (by have:=blk_lt R1; omega); have hP:=blk_lt R1; clear R1 B1 hb2; generalize w1.heap.size=P at hp hs2 hP ⊢)
  | fail)
 have hRz:=blk_lt R2;go_wp2_with fail;go_loopw [4,5] (fun v x wr=>∃j:Nat,x=.int .i64 (GM.fb (j+2))/\(j=0∨GM.fb (j+1)<=k)/\wr.ownsRow (P+1) 3 1 v (j+2) (fbs (j+2))/\Pows wr P/\wr.heap[w.heap.size]?=some (.cells #[.int .i64 0,.int .i64 0] 43 (0,0))/\Below w.heap.size w wr) (fun _ x _=>(k+1-intOf x).toNat)
 case atStart =>
  refine⟨0,rfl,.inl rfl,?_,blk_old hp,blk_old R2,(by repeat (first | exact Below.refl _ _ | exact Nat.le_refl _ | refine Below.alloc ?_ ?_ _ | refine Below.setCell ?_ ?_ _ | refine Below.drew ?_ | refine bl_drewN ?_ _ | (assumption) | refine bl_call ?_ (by assumption) ?_ | omega | (simp <;> omega)))⟩;exact World.ownsRow_lit (base:=P+1) (e:=3) (size:=1) w2 #[.int .i64 1,.int .i64 2] 2 (by omega) (by decide) rfl
 case round =>
  obtain⟨j,rfl,hj,ho,hp,R,B⟩:=hrel;have hps:=blk_lt hp;have hRs:=blk_lt R;have HP:=Lib.hid hp;have HRR:=Lib.hid R;have hfp:=(GM.fb_pos (j+2)).1;have hfp2:=(GM.fb_pos (j+2)).2;have hsum:GM.fb (j+3)=GM.fb (j+1)+GM.fb (j+2):=rfl;have hfp1:=(GM.fb_pos (j+1)).1;have hf12:GM.fb (j+1) < GM.fb (j+2):=(GM.fb_pos (j+1)).2;clear hp R
  by_cases hlt:GM.fb (j+2)<=k
  ·
   have hj34:=fb_small (j+2) k hlt h1;obtain⟨f1,hf1⟩:∃f,GM.fb (j+1)=f:=⟨_,rfl⟩
   obtain⟨f2,hf2⟩:∃f,GM.fb (j+2)=f:=⟨_,rfl⟩
   have es:=fbs_succ (j+2);have eg1:=fbs_get (j+3) (j+1) (by omega);have eg2:=fbs_get (j+3) (j+2) (by omega);have HJ:=Lib.hid hj;rw[hf1]at hsum hfp1 eg1 hf12;rw[hf2]at hsum hfp hfp2 hlt es eg2 hf12;rw[hsum]at hfp2;have HSUM:=Lib.hid hsum;have HF2:=Lib.hid hf2;have ES:=Lib.hid es;have EG1:=Lib.hid eg1;have EG2:=Lib.hid eg2;clear hj hsum hf1 es eg1 eg2;rw[hf2];clear hf2;go_upto_region 5 with (first
    | (at_builtin; refine wpList_append_lies _ rfl _ _ 22 rfl (P+1) 3 i0 (.int .i64 0) 1 8 Tryz.underlying22 hi hz0 hz1 hz2 rfl (by decide) _ _ _ rfl (ho.alloc _) ⟨wr.heap.size,0,none⟩ 1 1 [.int .i64 f2] rfl rfl (cell_one_new _ _ _) (one_cell _) (by decide) (by unfold maxLen; omega) (by omega) (by simp; omega) (wr.heap.size+1) (by simp) ?_; intro g3 p3 w3 m1 hgr hg hgl)
    | fail)
   have hgr':(wr.alloc (.cells #[.int .i64 f2] 3)).grownBy w3 u4.ownBlock:=hgr;clear hgr hg;have hob:∀b,u4.ownBlock=some b->P+1<=b:=fun b hb=>(ho.lt b hb).1;rw[<-ES.out]at m1;have hp3:Pows w3 P:=(hgr'.block P (by simp; omega) (fun h=>by have:=hob P h.symm; omega)).trans (blk_old HP.out);have R3:=(hgr'.block w.heap.size (by simp; omega) (fun h=>by have:=hob _ h.symm; omega)).trans (blk_old HRR.out);have B3:Below w.heap.size w w3:=Below.grown (B.alloc (by omega) _) hgr' (by simp; omega) (fun b hb=>by have:=hob b hb; omega);have e1:=(m1.cellAt (j+1) (by omega)).trans EG1.out;have e2:=(m1.cellAt (j+2) (by omega)).trans EG2.out;obtain⟨n,hn⟩:∃n,j+2+1=n:=⟨_,rfl⟩
   obtain⟨q1,hq1⟩:∃q,j+1=q:=⟨_,rfl⟩
   obtain⟨q2,hq2⟩:∃q,j+2=q:=⟨_,rfl⟩
   have i1:(n:Int)-2=q1:=by omega
   have i2:(n:Int)-1=q2:=by omega
   have i3:q1 < n:=by omega
   have i4:q2 < n:=by omega
   have i5:(n:Int)<=100:=by omega
   rw[hq1]at e1;rw[hq2]at e2;rw[hn];have HN:=Lib.hid hn;have HQ1:=Lib.hid hq1;have HQ2:=Lib.hid hq2;have HM1:=Lib.hid m1;have HP3:=Lib.hid hp3;have HR3:=Lib.hid R3;clear hn hq1 hq2 m1 hp3 R3 ho hgr' hob hj34 B HRR HP EG1 EG2;go_quiet (fail)
   go_wp2
   go_roundw
   case rel =>
    refine⟨j+1,by rw[show j+1+2=j+3 by omega,HSUM.out]; exact congrArg (Value.int .i64) (by omega),.inr (by rw[show j+1+1=j+2 by omega,HF2.out]; exact hlt),?_,HP3.out,HR3.out,bl_drewN B3 nq⟩;rw[<-HN.out];exact HM1.out
   case measure =>
    show(k+1-(f2+f1)).toNat < (k+1-f2).toNat;clear HN HQ1 HQ2 HM1 HP3 HR3 ES HF2 HSUM HJ e1 e2 B3 B2 R2 hp hgl;omega
  ·
   have hk:k < GM.fb (j+2):=by omega
   have hj34:j+2<=34:=by
    rcases hj with hj | hj
    · omega
    · have:=fb_small (j+1) k hj h1; omega
   have hgr:GM.gr 34 k=GM.gr (j+2) k:=by
    have:=GM.gr_le (34-(j+2)) (j+2) k h0 hk;rw[<-this,show j+2+(34-(j+2))=34 by omega]
   have HGR:=Lib.hid hgr;obtain⟨g3,p3,rfl,hg3,hg3'⟩:=World.ownsRow.form ho (by omega);clear hgr hfp hfp2 hsum hfp1 hf12 hj hlt;obtain⟨n,hn⟩:∃n,j+2=n:=⟨_,rfl⟩
   rw[hn]at ho HGR hj34 hk ⊢;have hk':¬GM.fb n<=k:=by omega
   have hn1:1<=n:=by omega
   clear hn;have ho:=ho;go_upto_region 9 with fail;obtain⟨O,hO⟩:∃O,O=wr.heap.size:=⟨_,rfl⟩
   obtain⟨w7,h7⟩:∃w7,w7=wr.alloc (.cells #[.int .i64 0,.int .i64 0] 43):=⟨_,rfl⟩
   rw[<-hO,<-h7];have R7:w7.heap[w.heap.size]?=some (.cells #[.int .i64 0,.int .i64 0] 43 (0,0)):=by rw[h7]; exact blk_old HRR.out
   have O7:w7.heap[O]?=some (.cells #[.int .i64 0,.int .i64 0] 43 (0,0)):=by rw[h7,hO]; exact blk_new _ _
   have B7:Below w.heap.size w w7:=by rw[h7]; exact B.alloc (by omega) _
   have hp7:Pows w7 P:=by rw[h7]; exact blk_old HP.out
   have ho7:w7.ownsRow (P+1) 3 1 (.slice (some ⟨g3,0,none⟩) n p3) n (fbs n):=by rw[h7]; exact ho.alloc _
   have hg3O:g3≠O:=by
    have:=(ho.lt g3 rfl).2;omega
   have hOg3:O≠g3:=hg3O.symm;have hPO:P≠O:=by omega
   have hRO:w.heap.size≠O:=by omega
   have hRO':w.heap.size<=O:=by omega
   have hg3P:=(ho.lt g3 rfl).1;clear h7 hO HRR B HP ho hps hRs hk hk' hg3' hg3;go_loopw [0,7] (fun kk x wr=>∃(m:Nat) (k' X Y:Int),kk=.int .i64 k'/\x=.int .i64 ((m:Int)-1)/\m<=n/\(0<=k'/\k'<=4000000)/\wr.heap[O]?=some (.cells #[.int .i64 X,.int .i64 Y] 43 (0,0))/\(-200000000 * ((n:Int)-m)<=X/\X<=200000000 * ((n:Int)-m)/\-200000000 * ((n:Int)-m)<=Y/\Y<=200000000 * ((n:Int)-m))/\Hid (GM.add (X,Y) (GM.gr m k')=GM.gr n k)/\Pows wr P/\wr.ownsRow (P+1) 3 1 (.slice (some ⟨g3,0,none⟩) n p3) n (fbs n)/\wr.heap[w.heap.size]?=some (.cells #[.int .i64 0,.int .i64 0] 43 (0,0))/\Below w.heap.size w wr) (fun _ x _=>(intOf x+1).toNat)
   case atStart=>exact⟨n,k,0,0,rfl,rfl,Nat.le_refl _,⟨h0,h1⟩,O7,by omega,Lib.hid (GM.zero_add _),hp7,ho7,R7,B7⟩
   case round =>
    obtain⟨m,k',X,Y,rfl,rfl,l1,⟨k1,k2⟩,XO,⟨x1,x2,x3,x4⟩,HS,hp,ho,R,B⟩:=hrel;rcases m with _ | i
    ·
     have hfin:GM.gr 34 k=(X,Y):=by
      rw[HGR.out,<-HS.out];exact GM.add_zero _
     have HF:=Lib.hid hfin;have hm1:¬(0:Int)<=((0:Nat):Int)-1:=by decide
     have c0:=row2_0 XO;have c1:=row2_1 XO;have d0:=row2_0 R;have d1:=row2_1 R;have f1:=row_f R;clear hfin XO R HS;go_wp2_with fail;exact bodyPost_ret (v:=.agg #[.int .i64 X,.int .i64 Y]) (by simp[results,Tryz.results135,go_sem, *]) rfl ⟨by rw[HF.out],(by repeat (first | exact Below.refl _ _ | exact Nat.le_refl _ | refine Below.alloc ?_ ?_ _ | refine Below.setCell ?_ ?_ _ | refine Below.drew ?_ | refine bl_drewN ?_ _ | (assumption) | refine bl_call ?_ (by assumption) ?_ | omega | (simp <;> omega)))⟩
    ·
     have hii:((i+1:Nat):Int)-1=i:=by omega
     rw[hii];have hi0:(0:Int)<=(i:Int):=by omega
     have hin:i < n:=by omega
     have hi34:i < 34:=by omega
     have c0:wr.cell? ⟨g3,i,none⟩=some (.int .i64 (GM.fb i)):=(ho.cellAt i (by omega)).trans (fbs_get n i hin);have hfp:=(GM.fb_pos i).1;have hgr:GM.gr (i+1) k'=if GM.fb i<=k' then ((GM.pu i).1+(GM.gr i (k'-GM.fb i)).1,(GM.pu i).2+(GM.gr i (k'-GM.fb i)).2) else GM.gr i k':=rfl
     rw[hgr]at HS;obtain⟨F,hF⟩:∃F,GM.fb i=F:=⟨_,rfl⟩
     rw[hF]at c0 hfp HS;have HHP:=Lib.hid hp;have HHO:=Lib.hid ho;have HHR:=Lib.hid R;have hPs:P < wr.heap.size:=blk_lt hp;have hws:w.heap.size < wr.heap.size:=blk_lt R;clear hp ho R hgr hF hii
     by_cases hlt:F<=k'
     ·
      rw[if_pos hlt]at HS;have hof:=fun wx h=>of_any P (i:Int) (i+40) wx h (by omega) (by omega);have hpb:=pt_bd ⟨i+40,by omega⟩;dsimp only at hpb;rw[pt_pu]at hpb hof;obtain⟨⟨px,py⟩,hpt⟩:∃p,GM.pu i=p:=⟨_,rfl⟩
      rw[hpt]at hof hpb HS;dsimp only at hof hpb HS;obtain⟨p1,p2,p3',p4⟩:=hpb;have HOF:=Lib.hid hof;clear hof hpt;have pblk6:=XO;clear XO;go_upto_region 13 with fail;have pblk6:wr.heap[O]?=some (.cells #[.int .i64 X,.int .i64 Y] 43 (0,0)):=by first | assumption | exact hblk6
      refine with_act fun a0 ha0=>?_;refine wp_region_inv (by kernel_rfl) (by kernel_rfl) (fun s a' w'=>∃v49 v50 v51 v52:Value,a'=putL a0 [(49,v49),(50,v50),(51,v51),(52,v52)]/\Hid ((s 0=true->v49=.agg #[.int .i64 X,.int .i64 Y])/\(s 1=true->v50=.int .i64 i)/\(s 2=true->v51=.agg #[.int .i64 px,.int .i64 py])/\(s 3=true->v52=.agg #[.int .i64 (X+px),.int .i64 (Y+py)])/\True)/\BelX [O] wr w'/\(∃(c0 c1:Value),w'.heap[O]?=some (.cells #[c0,c1] 43 (0,0))/\(s 4=true->c0=.int .i64 (X+px)/\c1=.int .i64 (Y+py))/\(s 4=false->c0=.int .i64 X/\c1=.int .i64 Y))/\(s 4=true->s 0=true/\s 1=true/\s 2=true/\s 3=true/\True)/\True) ?x1hzero ⟨?x1hs0,?x1hs1,?x1hs2,?x1hs3,?x1hs4,trivial⟩ ?x1hdone
      case x1hzero =>
       refine⟨a0.tmps.getD 49 undef,a0.tmps.getD 50 undef,a0.tmps.getD 51 undef,a0.tmps.getD 52 undef,?_,?_,?_,?_,?_,trivial⟩
       · simp only[putL,put_self]
       · exact Lib.hid ⟨fun h=>(by simp at h),fun h=>(by simp at h),fun h=>(by simp at h),fun h=>(by simp at h),trivial⟩
       · exact BelX.start _ _
       · exact⟨.int .i64 X,.int .i64 Y,pblk6,fun h=>(by simp at h),fun _=>⟨rfl,rfl⟩⟩
       · exact fun h=>(by simp at h)
      case x1hs0 =>
       intro s a' w' hsk hdep hI K hK;try dsimp only at hI hK
       obtain⟨v49,v50,v51,v52,hact,hR,hX,hP6,hQ6,_⟩:=hI;subst hact;have HK:=Lib.hid hK;clear hK;have kx0:=(show Pows w' P from(hX.block P hPs (by simp <;> omega)).trans HHP.out)
       obtain⟨b6_0,b6_1,pb6,pt6,pf6⟩:=hP6;have hs0:s 4=false:=Bool.eq_false_iff.2 fun h=>(by have:=hQ6 h; simp[hsk]at this)
       obtain⟨q6_0,q6_1⟩:=pf6 hs0;subst q6_0;subst q6_1;clear hs0;have kp6_0:=cell_of_row w' (O) 0 _ _ _ pb6;have kp6_1:=cell_of_row w' (O) 1 _ _ _ pb6;simp only[List.getElem?_toArray,List.getElem?_cons_zero,List.getElem?_cons_succ]at kp6_0 kp6_1;have kq6:∀o,w'.frozen? ⟨O,o,none⟩=false:=fun o=>frozen_of_row w' _ o _ _ pb6;have hPB6:=Lib.hid pb6;clear pb6;have hPT6:=Lib.hid pt6;clear pt6;have hPF6:=Lib.hid pf6;clear pf6;clear hdep;refine StepG.mk rfl ?_; rw[ha0]; simp only[putL,Act.put,sA_,sZ_,sS_];go_wp2_with fail;refine HK.out _ _ ?_;refine⟨(.agg #[.int .i64 X,.int .i64 Y]),v50,v51,v52,(by rw[ha0]; simp only[putL,Act.put,sA_,sZ_,sS_]),?_,?_,?_,?_,trivial⟩
       · obtain⟨h49,h50,h51,h52,_⟩:=hR.out;exact Lib.hid ⟨fun _=>rfl,h50,h51,h52,trivial⟩
       · exact hX
       · exact⟨_,_,hPB6.out,fun h=>hPT6.out (by simpa using h),fun h=>⟨rfl,rfl⟩⟩
       · exact fun h=>(by have h1:=hQ6 (by simpa using h); simp[h1])
      case x1hs1 =>
       intro s a' w' hsk hdep hI K hK;try dsimp only at hI hK
       obtain⟨v49,v50,v51,v52,hact,hR,hX,hP6,hQ6,_⟩:=hI;subst hact;have HK:=Lib.hid hK;clear hK;have kx0:=(show Pows w' P from(hX.block P hPs (by simp <;> omega)).trans HHP.out)
       obtain⟨b6_0,b6_1,pb6,pt6,pf6⟩:=hP6;have hs0:s 4=false:=Bool.eq_false_iff.2 fun h=>(by have:=hQ6 h; simp[hsk]at this)
       obtain⟨q6_0,q6_1⟩:=pf6 hs0;subst q6_0;subst q6_1;clear hs0;have kp6_0:=cell_of_row w' (O) 0 _ _ _ pb6;have kp6_1:=cell_of_row w' (O) 1 _ _ _ pb6;simp only[List.getElem?_toArray,List.getElem?_cons_zero,List.getElem?_cons_succ]at kp6_0 kp6_1;have kq6:∀o,w'.frozen? ⟨O,o,none⟩=false:=fun o=>frozen_of_row w' _ o _ _ pb6;have hPB6:=Lib.hid pb6;clear pb6;have hPT6:=Lib.hid pt6;clear pt6;have hPF6:=Lib.hid pf6;clear pf6;clear hdep;refine StepG.mk rfl ?_; rw[ha0]; simp only[putL,Act.put,sA_,sZ_,sS_];go_wp2_with fail;refine HK.out _ _ ?_;refine⟨v49,(.int .i64 i),v51,v52,(by rw[ha0]; simp only[putL,Act.put,sA_,sZ_,sS_]),?_,?_,?_,?_,trivial⟩
       · obtain⟨h49,h50,h51,h52,_⟩:=hR.out;exact Lib.hid ⟨h49,fun _=>rfl,h51,h52,trivial⟩
       · exact hX
       · exact⟨_,_,hPB6.out,fun h=>hPT6.out (by simpa using h),fun h=>⟨rfl,rfl⟩⟩
       · exact fun h=>(by have h1:=hQ6 (by simpa using h); simp[h1])
      case x1hs2 =>
       intro s a' w' hsk hdep hI K hK;try dsimp only at hI hK
       obtain⟨v49,v50,v51,v52,hact,hR,hX,hP6,hQ6,_⟩:=hI;subst hact;have HK:=Lib.hid hK;clear hK;have e50:=hR.out.2.1 (hdep ⟨1,.data⟩ (by simp) rfl);subst e50;have kx0:=(show Pows w' P from(hX.block P hPs (by simp <;> omega)).trans HHP.out)
       obtain⟨b6_0,b6_1,pb6,pt6,pf6⟩:=hP6;have hs0:s 4=false:=Bool.eq_false_iff.2 fun h=>(by have:=hQ6 h; simp[hsk]at this)
       obtain⟨q6_0,q6_1⟩:=pf6 hs0;subst q6_0;subst q6_1;clear hs0;have kp6_0:=cell_of_row w' (O) 0 _ _ _ pb6;have kp6_1:=cell_of_row w' (O) 1 _ _ _ pb6;simp only[List.getElem?_toArray,List.getElem?_cons_zero,List.getElem?_cons_succ]at kp6_0 kp6_1;have kq6:∀o,w'.frozen? ⟨O,o,none⟩=false:=fun o=>frozen_of_row w' _ o _ _ pb6;have hPB6:=Lib.hid pb6;clear pb6;have hPT6:=Lib.hid pt6;clear pt6;have hPF6:=Lib.hid pf6;clear pf6;clear hdep;refine StepG.mk rfl ?_; rw[ha0]; simp only[putL,Act.put,sA_,sZ_,sS_];go_wp2_with fail;refine((HOF.out _ kx0)).mono ?_;rintro e wn ⟨rfl,hb⟩;go_wp2_with fail;refine HK.out _ _ ?_;refine⟨v49,(.int .i64 i),(.agg #[.int .i64 px,.int .i64 py]),v52,(by rw[ha0]; simp only[putL,Act.put,sA_,sZ_,sS_]),?_,?_,?_,?_,trivial⟩
       · obtain⟨h49,h50,h51,h52,_⟩:=hR.out;exact Lib.hid ⟨h49,fun _=>rfl,fun _=>rfl,h52,trivial⟩
       · exact hX.call hb
       · exact⟨_,_,(hb.block _ (blk_lt hPB6.out)).trans hPB6.out,fun h=>hPT6.out (by simpa using h),fun h=>⟨rfl,rfl⟩⟩
       · exact fun h=>(by have h1:=hQ6 (by simpa using h); simp[h1])
      case x1hs3 =>
       intro s a' w' hsk hdep hI K hK;try dsimp only at hI hK
       obtain⟨v49,v50,v51,v52,hact,hR,hX,hP6,hQ6,_⟩:=hI;subst hact;have HK:=Lib.hid hK;clear hK;have e49:=hR.out.1 (hdep ⟨0,.data⟩ (by simp) rfl);subst e49;have e51:=hR.out.2.2.1 (hdep ⟨2,.data⟩ (by simp) rfl);subst e51;have kx0:=(show Pows w' P from(hX.block P hPs (by simp <;> omega)).trans HHP.out)
       obtain⟨b6_0,b6_1,pb6,pt6,pf6⟩:=hP6;have hs0:s 4=false:=Bool.eq_false_iff.2 fun h=>(by have:=hQ6 h; simp[hsk]at this)
       obtain⟨q6_0,q6_1⟩:=pf6 hs0;subst q6_0;subst q6_1;clear hs0;have kp6_0:=cell_of_row w' (O) 0 _ _ _ pb6;have kp6_1:=cell_of_row w' (O) 1 _ _ _ pb6;simp only[List.getElem?_toArray,List.getElem?_cons_zero,List.getElem?_cons_succ]at kp6_0 kp6_1;have kq6:∀o,w'.frozen? ⟨O,o,none⟩=false:=fun o=>frozen_of_row w' _ o _ _ pb6;have hPB6:=Lib.hid pb6;clear pb6;have hPT6:=Lib.hid pt6;clear pt6;have hPF6:=Lib.hid pf6;clear pf6;clear hdep;refine StepG.mk rfl ?_; rw[ha0]; simp only[putL,Act.put,sA_,sZ_,sS_];go_wp2_with fail;refine((plus_any _ _ _ _ _ (by omega) (by omega) (by omega) (by omega))).mono ?_;rintro e wn ⟨rfl,hb⟩;go_wp2_with fail;refine HK.out _ _ ?_;refine⟨(.agg #[.int .i64 X,.int .i64 Y]),v50,(.agg #[.int .i64 px,.int .i64 py]),(.agg #[.int .i64 (X+px),.int .i64 (Y+py)]),(by rw[ha0]; simp only[putL,Act.put,sA_,sZ_,sS_]),?_,?_,?_,?_,trivial⟩
       · obtain⟨h49,h50,h51,h52,_⟩:=hR.out;exact Lib.hid ⟨fun _=>rfl,h50,fun _=>rfl,fun _=>rfl,trivial⟩
       · exact hX.call hb
       · exact⟨_,_,(hb.block _ (blk_lt hPB6.out)).trans hPB6.out,fun h=>hPT6.out (by simpa using h),fun h=>⟨rfl,rfl⟩⟩
       · exact fun h=>(by have h1:=hQ6 (by simpa using h); simp[h1])
      case x1hs4 =>
       intro s a' w' hsk hdep hI K hK;try dsimp only at hI hK
       obtain⟨v49,v50,v51,v52,hact,hR,hX,hP6,hQ6,_⟩:=hI;subst hact;have HK:=Lib.hid hK;clear hK;have e52:=hR.out.2.2.2.1 (hdep ⟨3,.data⟩ (by simp) rfl);subst e52;have kx0:=(show Pows w' P from(hX.block P hPs (by simp <;> omega)).trans HHP.out)
       obtain⟨b6_0,b6_1,pb6,pt6,pf6⟩:=hP6;have hs0:s 4=false:=hsk;obtain⟨q6_0,q6_1⟩:=pf6 hs0;subst q6_0;subst q6_1;clear hs0;have kp6_0:=cell_of_row w' (O) 0 _ _ _ pb6;have kp6_1:=cell_of_row w' (O) 1 _ _ _ pb6;simp only[List.getElem?_toArray,List.getElem?_cons_zero,List.getElem?_cons_succ]at kp6_0 kp6_1;have kq6:∀o,w'.frozen? ⟨O,o,none⟩=false:=fun o=>frozen_of_row w' _ o _ _ pb6;have hPB6:=Lib.hid pb6;clear pb6;have hPT6:=Lib.hid pt6;clear pt6;have hPF6:=Lib.hid pf6;clear pf6;have hd0:s 0=true:=hdep ⟨0,.phase⟩ (by simp) rfl;have hd1:s 1=true:=hdep ⟨1,.phase⟩ (by simp) rfl;have hd2:s 2=true:=hdep ⟨2,.phase⟩ (by simp) rfl;have hd3:s 3=true:=hdep ⟨3,.data⟩ (by simp) rfl;clear hdep;refine StepG.mk rfl ?_; rw[ha0]; simp only[putL,Act.put,sA_,sZ_,sS_];go_wp2_with fail;refine HK.out _ _ ?_;refine⟨v49,v50,v51,(.agg #[.int .i64 (X+px),.int .i64 (Y+py)]),(by rw[ha0]; simp only[putL,Act.put,sA_,sZ_,sS_]),?_,?_,?_,?_,trivial⟩
       · obtain⟨h49,h50,h51,h52,_⟩:=hR.out;exact Lib.hid ⟨h49,h50,h51,fun _=>rfl,trivial⟩
       · exact((hX.setOld (p:=⟨O,0,none⟩) (by simp) _).setOld (p:=⟨O,1,none⟩) (by simp) _)
       · exact⟨_,_,blk_set2 hPB6.out,fun _=>⟨rfl,rfl⟩,fun h=>(by simp at h)⟩
       · exact fun _=>(by simp[hd0,hd1,hd2,hd3])
      intro s a' w8 hall hI;try dsimp only at hI
      obtain⟨v49,v50,v51,v52,hact,hR,hXR,hP6,hQ6,_⟩:=hI;subst hact;obtain⟨h49,h50,h51,h52,_⟩:=hR.out;clear hR;have e49:=h49 (hall 0 (by decide));subst e49;clear h49;have e50:=h50 (hall 1 (by decide));subst e50;clear h50;have e51:=h51 (hall 2 (by decide));subst e51;clear h51;have e52:=h52 (hall 3 (by decide));subst e52;clear h52;obtain⟨c0,c1,pblkR6,hpt,_⟩:=hP6;clear hQ6;obtain⟨es0,es1⟩:=hpt (hall 4 (by decide));subst es0;subst es1;clear hpt;try clear pblk6
      have pblk6:=pblkR6;clear pblkR6;clear hall;rw[ha0]; simp only[putL,Act.put,sA_,sZ_,sS_];clear ha0;have B8:Below w.heap.size w w8:=hXR.below (by first | assumption | exact(by repeat (first | exact Below.refl _ _ | exact Nat.le_refl _ | refine Below.alloc ?_ ?_ _ | refine Below.setCell ?_ ?_ _ | refine Below.drew ?_ | refine bl_drewN ?_ _ | (assumption) | refine bl_call ?_ (by assumption) ?_ | omega | (simp <;> omega)))) (by first | omega | (simp <;> omega)) (by simp <;> omega);have hp8:Pows w8 P:=(hXR.block P hPs (by simp <;> omega)).trans HHP.out;have ho8:=own_belX HHO.out hXR (by simp <;> omega);have R8:=(hXR.block _ (blk_lt HHR.out) (by simp <;> omega)).trans HHR.out;clear hXR;go_wp2_with fail
      go_roundw
      case rel =>
       refine⟨i,k'-F,X+px,Y+py,rfl,rfl,by omega,by omega,pblk6,by omega,Lib.hid ?_,hp8,ho8,R8,B8⟩;rw[<-HS.out];unfold GM.add
       ext <;> simp <;> omega
      case measure=>simp[intOf] <;> omega
     ·
      rw[if_neg hlt]at HS;go_wp2_with fail
      go_roundw
      case rel=>exact⟨i,k',X,Y,rfl,rfl,by omega,⟨k1,k2⟩,XO,by omega,HS,HHP.out,HHO.out,HHR.out,B⟩
      case measure=>simp[intOf] <;> omega
end Go.Proofs.YtaffkceklkdokaaGreatDoor.GG
/- Rung returns a value of the ladder, or ErrArg. -/
namespace Go.Proofs.YtaffkceklkdokaaGreatDoor.GG
open Go.RowKit
attribute [local go_sem ↓] Go.wp_at_zero Go.wp_at_succ
end Go.Proofs.YtaffkceklkdokaaGreatDoor.GG
