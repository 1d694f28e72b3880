/- Pieces of a set of up to six points: the walk. (Printed by mkt78.py.) -/
import Derived.Test.YtaffkceklkdokaaGreatDoorTU
import Derived.Test.YtaffkceklkdokaaGreatDoorTW
set_option maxRecDepth 100000
set_option maxHeartbeats 8000000
namespace Go.Proofs.YtaffkceklkdokaaGreatDoor
open Go.RowKit Go.Shelf
attribute [local go_sem] Oper.semAt_some
theorem own_belowP {base:Nat} {e:TypeId} {size:Nat} {v:Value} {n:Nat} {xs:List Value} {W W':World} (h:W.ownsRow base e size v n xs) (hb:Below W.heap.size W W'):W'.ownsRow base e size v n xs:=own_below h hb
theorem fold_ltn {n s:Nat} {c a:Nat->Nat} (hs:s < 2 ^ n):∀(l:List Nat) (m:Nat),m < 2 ^ n->l.foldl (addN s c a) m < 2 ^ n
 | [],_,h=>h
 | _ :: l,_,h=>fold_ltn hs l _ (Nat.or_lt_two_pow h (Nat.lt_of_le_of_lt Nat.and_le_right hs))
theorem low_le {x:Nat} (hx:x < 64) (h0:x≠0):2 ^ lowN x<=x:=by
 obtain⟨-,-,-,-,h⟩:=low_facts hx h0;have hm:lowN x∈ptsN x:=by rw[h]; exact .head _
 have h1:hasb x (lowN x)=true:=(List.mem_filter.1 hm).2;apply Classical.byContradiction;intro hno;have h3:x / 2 ^ lowN x=0:=Nat.div_eq_of_lt (by omega);simp[hasb,h3]at h1
theorem own_monoP {w:World} {base base':Nat} {e:TypeId} {size:Nat} {v:Value} {n:Nat} {xs:List Value} (h:w.ownsRow base e size v n xs) (hb:base'<=base):w.ownsRow base' e size v n xs :=
 ⟨h.1,h.2.imp id fun⟨g,cap,cur,h1,h2,h3⟩=>⟨g,cap,cur,h1,Nat.le_trans hb h2,h3⟩⟩
theorem own_cells {base:Nat} {e:TypeId} {size:Nat} {v:Value} {n:Nat} {xs:List Value} {W:World} (h:W.ownsRow base e size v n xs):∀(g:Nat) (o:Obj),v.ownBlock=some g->W.heap[g]?=some o->o.isCells=true:=by
 intro g o hg ho;rcases h.2 with ⟨rfl,-⟩ | ⟨g',cap,cur,rfl,-,h3,-⟩
 · cases hg
 · cases hg;rw[h3]at ho;cases ho;rfl
theorem own_hc {base:Nat} {e:TypeId} {size:Nat} {v:Value} {n:Nat} {xs:List Value} {W W':World} (h:W.ownsRow base e size v n xs) (hc:∀(k:Nat) (o:Obj),W.heap[k]?=some o->o.isCells=true->W'.heap[k]?=some o):W'.ownsRow base e size v n xs :=
 ⟨h.1,h.2.imp id fun⟨g,cap,cur,h1,h2,h3,h4⟩=>⟨g,cap,cur,h1,h2,hc _ _ h3 rfl,h4⟩⟩
def lenOf:Value->Nat
 | .slice _ n _=>n
 | _=>0
theorem own_len {base:Nat} {e:TypeId} {size:Nat} {v:Value} {n:Nat} {xs:List Value} {W:World} (h:W.ownsRow base e size v n xs):lenOf v=n:=by
 rcases h.2 with ⟨rfl,rfl⟩ | ⟨g',cap,cur,rfl,-⟩ <;> rfl
theorem actU (A:Act) (F:(Nat->Value)->Act) (p:Prop) (hp:p) (h:A=F (fun i=>A.tmps.toList.getD i undef)):∃u,p/\A=F u:=⟨_,hp,h⟩
theorem PiecesN (l:List Nat) (lv:Value) (s m:Nat) (hm:1<=l.length/\l.length<=6) (hl:∀k∈l,k < 2 ^ l.length) (hs:s < 2 ^ l.length) (hsp:IsSp l.length (cof l)) (hpc:pcN s (cof l) (turnF l.length (cof l)) 6 s=some m) (w:World) (hT:BitTab6 w) (hL:IntsAt w lv l) :
  Calls Tryz.prog 7 #[lv,.int .i64 (s:Nat)] w fun e w'=>(∃sv xs,e=.returned (.tuple #[sv,.int .i64 0])/\w'.ownsRow w.heap.size 3 1 sv m xs)/\Below w.heap.size w w':=by
 obtain⟨i0,hi,hz0,hz1,hz2⟩:=info_parts infoInt;have hg:=block_lt_of_cell (hT 0);dsimp only at hg;have hmix:Tryz.prog.follows .mixedOrders=true:=by kernel_rfl
 have hs64:s < 64:=Nat.lt_of_lt_of_le hs (Nat.le_trans (Nat.pow_le_pow_right (by decide) hm.2) (by decide));have HBO:=Lib.hid (bothN l lv s hm hl hs hsp w hT hL);have HTU:=Lib.hid (fun wx=>turnedN l.length (cof l) hm.2 (fun p hp=>(hsp p hp).1) wx);have HTT:=Lib.hid hT;have HC64:Hid (∀p,p < l.length->cof l p < 64):=Lib.hid fun p hp=>(hsp p hp).1;have HA64:Hid (∀p,p < l.length->turnF l.length (cof l) p < 64):=Lib.hid fun p hp=>by
  unfold turnF;rw[if_pos hp];exact Nat.lt_of_lt_of_le (rowN_lt _ _ _) (Nat.le_trans (Nat.pow_le_pow_right (by decide) hm.2) (by decide))
 have HPS:Hid (∀x p,x < 2 ^ l.length->p∈ptsN x->p < l.length):=Lib.hid fun x p hx hp=>by
  have h1:hasb x p=true:=(List.mem_filter.1 hp).2;apply Classical.byContradiction;intro hno;have h2:2 ^ l.length<=2 ^ p:=Nat.pow_le_pow_right (by decide) (by omega);have h3:x / 2 ^ p=0:=Nat.div_eq_of_lt (by omega);simp[hasb,h3]at h1
 obtain⟨n,hn⟩:∃n,l.length=n:=⟨_,rfl⟩
 obtain⟨c,hc⟩:∃c,cof l=c:=⟨_,rfl⟩
 rw[hn,hc]at HBO hpc HC64 HA64;simp only[hn,hc]at HTU HPS;rw[hn]at hm hs;obtain⟨a,ha⟩:∃a,turnF n c=a:=⟨_,rfl⟩
 rw[ha]at hpc HA64;simp only[ha]at HTU;have HPC:=Lib.hid hpc;have HS:=Lib.hid hs;have hxl:=spc_eq n c;obtain⟨c0,q0⟩:∃c0,c 0=c0:=⟨_,rfl⟩
 obtain⟨c1,q1⟩:∃c1,c 1=c1:=⟨_,rfl⟩
 obtain⟨c2,q2⟩:∃c2,c 2=c2:=⟨_,rfl⟩
 obtain⟨c3,q3⟩:∃c3,c 3=c3:=⟨_,rfl⟩
 obtain⟨c4,q4⟩:∃c4,c 4=c4:=⟨_,rfl⟩
 obtain⟨c5,q5⟩:∃c5,c 5=c5:=⟨_,rfl⟩
 rw[q0,q1,q2,q3,q4,q5]at hxl;have hxa:=spc_eq n a;obtain⟨a0,r0⟩:∃a0,a 0=a0:=⟨_,rfl⟩
 obtain⟨a1,r1⟩:∃a1,a 1=a1:=⟨_,rfl⟩
 obtain⟨a2,r2⟩:∃a2,a 2=a2:=⟨_,rfl⟩
 obtain⟨a3,r3⟩:∃a3,a 3=a3:=⟨_,rfl⟩
 obtain⟨a4,r4⟩:∃a4,a 4=a4:=⟨_,rfl⟩
 obtain⟨a5,r5⟩:∃a5,a 5=a5:=⟨_,rfl⟩
 rw[r0,r1,r2,r3,r4,r5]at hxa;simp only[hxl,hxa]at HTU;rw[hxl]at HBO;have HXL:=Lib.hid hxl;have HXA:=Lib.hid hxa;clear hT hL hl hsp hpc hn hc ha hs hxl hxa q0 q1 q2 q3 q4 q5 r0 r1 r2 r3 r4 r5;refine(callsIn_wide (n:=9)).1 ?_;refine callsIn_of_wp_marks Tryz.func7 rfl trivial ?_ rfl;simp only[Tryz.ntmps7,List.size_toArray,List.length_cons,List.length_nil,Nat.reduceAdd,Nat.reduceSub,Array.replicate_succ,Array.replicate_zero,List.push_toArray,List.append_toArray,List.nil_append,List.cons_append]
 gi_wp2_with fail
 refine⟨trivial,CallsIn.mono (callsIn_wide.2 HBO.out) ?_⟩;rintro e w1 ⟨rfl,B1⟩;clear HBO
 gi_upto_region 4 with fail
 obtain⟨W0,h0⟩:∃W0,W0=((w1.alloc (.cells (XLn n c0 c1 c2 c3 c4 c5) 52)).alloc (.cells #[.int .u64 (s:Nat)] 49)):=⟨_,rfl⟩
 rw[<-h0];have X0:W0.heap[w1.heap.size]?=some (.cells (XLn n c0 c1 c2 c3 c4 c5) 52 (0,0)):=by rw[h0]; exact blk_old (blk_new _ _)
 have S0:W0.heap[w1.heap.size+1]?=some (.cells #[.int .u64 (s:Nat)] 49 (0,0)):=by rw[h0]; exact blk_new' _ _ (by simp)
 have B0:Below w.heap.size w W0:=by rw[h0]; exact(B1.alloc B1.size _).alloc (by have:=B1.size; simp; omega) _
 have y0:W0.cell? ⟨w1.heap.size,0,none⟩=some (.int .i64 (n:Nat)):=cell_of_row W0 _ 0 _ _ _ X0;have y1:W0.cell? ⟨w1.heap.size,1,none⟩=some (.int .u64 (c0:Nat)):=cell_of_row W0 _ 1 _ _ _ X0;have y2:W0.cell? ⟨w1.heap.size,2,none⟩=some (.int .u64 (c1:Nat)):=cell_of_row W0 _ 2 _ _ _ X0;have y3:W0.cell? ⟨w1.heap.size,3,none⟩=some (.int .u64 (c2:Nat)):=cell_of_row W0 _ 3 _ _ _ X0;have y4:W0.cell? ⟨w1.heap.size,4,none⟩=some (.int .u64 (c3:Nat)):=cell_of_row W0 _ 4 _ _ _ X0;have y5:W0.cell? ⟨w1.heap.size,5,none⟩=some (.int .u64 (c4:Nat)):=cell_of_row W0 _ 5 _ _ _ X0;have y6:W0.cell? ⟨w1.heap.size,6,none⟩=some (.int .u64 (c5:Nat)):=cell_of_row W0 _ 6 _ _ _ X0;have HX0:=Lib.hid X0;have HS0:=Lib.hid S0;clear h0 X0 S0
 gi_wp2_with fail
 refine⟨trivial,CallsIn.mono (callsIn_wide.2 (HTU.out _)) ?_⟩;rintro e w2 ⟨rfl,hb2⟩;have hz1':=blk_lt HX0.out;have hz2':=blk_lt HS0.out;have X2:=(hb2.block _ hz1').trans HX0.out;have S2:=(hb2.block _ hz2').trans HS0.out;have B2:Below w.heap.size w w2:=B0.trans (hb2.mono B0.size);have HX2:=Lib.hid X2;have HS2:=Lib.hid S2;have HZW:=Lib.hid B1.size;clear y0 y1 y2 y3 y4 y5 y6 hb2 HX0 HS0 X2 S2 HTU B0
 gi_upto_region 6 with fail
 obtain⟨xb,hxb⟩:∃xb,xb=w1.heap.size:=⟨_,rfl⟩
 obtain⟨sb,hsb⟩:∃sb,sb=w1.heap.size+1:=⟨_,rfl⟩
 obtain⟨ab,hab⟩:∃ab,ab=w2.heap.size:=⟨_,rfl⟩
 obtain⟨W1,h1⟩:∃W1,W1=(w2.alloc (.cells (XLn n a0 a1 a2 a3 a4 a5) 52)):=⟨_,rfl⟩
 rw[<-hsb,<-hxb,<-hab,<-h1];have X1:W1.heap[xb]?=some (.cells (spc n c) 52 (0,0)):=by rw[h1,hxb,HXL.out]; exact blk_old HX2.out
 have S1:W1.heap[sb]?=some (.cells #[.int .u64 (s:Nat)] 49 (0,0)):=by rw[h1,hsb]; exact blk_old HS2.out
 have A1:W1.heap[ab]?=some (.cells (spc n a) 52 (0,0)):=by rw[h1,hab,HXA.out]; exact blk_new _ _
 have BW1:Below w.heap.size w W1:=by rw[h1]; exact B2.alloc B2.size _
 have hxw:w.heap.size<=xb:=by rw[hxb]; exact HZW.out
 have hxs:xb < W1.heap.size:=blk_lt X1;have hss:sb < W1.heap.size:=blk_lt S1;have has:ab < W1.heap.size:=blk_lt A1;have s0:W1.cell? ⟨sb,0,none⟩=some (.int .u64 (s:Nat)):=row1_0 S1;have OW1:W1.ownsRow W1.heap.size 3 1 (.slice none 0 0) 0 []:=World.ownsRow_nil _ _ _ _;have hm6:=pcN_le 6 s m HPC.out;have HX1:=Lib.hid X1;have HS1:=Lib.hid S1;have HA1:=Lib.hid A1;have HOW:=Lib.hid OW1;clear X1 S1 A1 OW1 h1 hxb hsb hab HX2 HS2 HZW B1 B2 HXL HXA hz1' hz2'
 gi_wp2_with fail
 refine wpIn_loop (fun a' W=>∃(f j m' left:Nat) (sv:Value) (xs:List Value) (ds:List Deferred) (u:Nat->Value),(((pcN s c a f left=some m'/\j+m'=m/\left < 2 ^ n)/\W.ownsRow W1.heap.size 3 1 sv j xs/\W1.heap.size<=W.heap.size)/\Marks w.heap.size ds W/\W.heap[xb]?=some (.cells (spc n c) 52 (0,0))/\W.heap[sb]?=some (.cells #[.int .u64 (s:Nat)] 49 (0,0))/\W.heap[ab]?=some (.cells (spc n a) 52 (0,0))/\Below w.heap.size w W)/\a' = { tmps:=#[u 0,u 1,u 2,u 3,u 4,u 5,.pointer (some ⟨xb,0,none⟩),.pointer (some ⟨sb,0,none⟩),u 8,.pointer (some ⟨ab,0,none⟩),sv,.int .u64 (left:Nat),u 12,u 13,u 14,u 15,u 16,u 17,u 18,u 19,u 20,u 21,u 22,u 23,u 24,u 25,u 26,u 27,u 28,u 29,u 30,u 31,u 32,u 33,u 34,u 35,u 36,u 37,u 38,u 39,u 40,u 41,u 42,u 43,u 44,u 45,u 46,u 47,u 48,u 49,u 50,u 51,u 52,u 53,u 54,u 55,u 56,u 57,u 58,u 59,u 60,u 61,u 62],defers:=ds }) (fun a' _=>m-lenOf (a'.tmps.getD 10 undef)) ?_ ?_
 · refine⟨6,0,m,s,.slice none 0 0,[],[],?_⟩;refine actU _ _ _ ?_ rfl;exact⟨⟨⟨HPC.out,by omega,HS.out⟩,HOW.out,Nat.le_refl _⟩,Marks.nil,HX1.out,HS1.out,HA1.out,BW1⟩
 ·
  have hzB:=BW1.size;clear HX1 HS1 HA1 HOW HPC s0 BW1;rintro aa W ⟨f,j,m',left,sv,xs,ds,u,⟨⟨⟨hpc,hjm,hln⟩,hown,hWW⟩,hM,hX,hS,hA,B⟩,rfl⟩
  by_cases hl0:left=0
  ·
   subst hl0;have hm0:=pcN_zero hpc;subst hm0;obtain rfl:j=m:=by omega
   have HM:=Lib.hid hM;have HO:=Lib.hid hown;clear hX hS hA hM hown hpc
   gi_wp2
   refine HM.out.leave (by simp) ?_;intro W' hb' hc';exact⟨.tuple #[sv,.int .i64 0],by simp[results,Tryz.results7,go_sem],⟨sv,xs,rfl,own_monoP (own_hc HO.out hc') hzB⟩,B.trans hb'⟩
  ·
   have hl64:left < 64:=Nat.lt_of_lt_of_le hln (Nat.le_trans (Nat.pow_le_pow_right (by decide) hm.2) (by decide));obtain⟨f',m2,hmm,hf,hfix,hnext⟩:=pcN_next hpc hl0;obtain⟨hb1,hb2,-,-,-⟩:=low_facts hl64 hl0;have hlow:=low_le hl64 hl0;obtain⟨pc,hpcs⟩:∃pc,itN s c a 6 (2 ^ lowN left)=pc:=⟨_,rfl⟩
   obtain⟨st,hst⟩:∃st,2 ^ lowN left=st:=⟨_,rfl⟩
   rw[hpcs]at hfix hnext;rw[hst]at hb1 hpcs hlow;have hstn:st < 2 ^ n:=Nat.lt_of_le_of_lt hlow hln;have HFIX:=Lib.hid hfix;have HNEXT:=Lib.hid hnext;have HPCS:=Lib.hid hpcs;have HSTN:=Lib.hid hstn;have HLN:=Lib.hid hln;have hl1:0 < left:=by omega
   clear hpc hb2 hfix hnext hpcs hst hf hstn hln hlow
   gi_wp2_with fail
   refine wpIn_loop (fun a' V=>∃(i cur:Nat) (dv:List Deferred) (v:Nat->Value),((itN s c a i cur=pc/\cur < 2 ^ n)/\Marks w.heap.size dv V/\Below W.heap.size W V)/\a' = { tmps:=#[v 0,v 1,v 2,v 3,v 4,v 5,.pointer (some ⟨xb,0,none⟩),.pointer (some ⟨sb,0,none⟩),v 8,.pointer (some ⟨ab,0,none⟩),sv,.int .u64 (left:Nat),.int .u64 (cur:Nat),v 13,v 14,v 15,v 16,v 17,v 18,v 19,v 20,v 21,v 22,v 23,v 24,v 25,v 26,v 27,v 28,v 29,v 30,v 31,v 32,v 33,v 34,v 35,v 36,v 37,v 38,v 39,v 40,v 41,v 42,v 43,v 44,v 45,v 46,v 47,v 48,v 49,v 50,v 51,v 52,v 53,v 54,v 55,v 56,v 57,v 58,v 59,v 60,v 61,v 62],defers:=dv }) (fun a' _=>64-(intOf (a'.tmps.getD 12 undef)).toNat) ?_ ?_
   · refine⟨6,st,ds,?_⟩;refine actU _ _ _ ?_ rfl;exact⟨⟨HPCS.out,HSTN.out⟩,hM,Below.refl _ _⟩
   ·
    rintro aa V ⟨i,cur,dv,v,⟨⟨hit,hcn⟩,hMv,BV⟩,rfl⟩;have hc64:cur < 64:=Nat.lt_of_lt_of_le hcn (Nat.le_trans (Nat.pow_le_pow_right (by decide) hm.2) (by decide));have HXV:=Lib.hid ((BV.block _ (blk_lt hX)).trans hX);have HSV:=Lib.hid ((BV.block _ (blk_lt hS)).trans hS);have HAV:=Lib.hid ((BV.block _ (blk_lt hA)).trans hA);have HOV:=Lib.hid (own_belowP hown BV);have HMV:=Lib.hid hMv;have HIT:=Lib.hid hit;have HCN:=Lib.hid hcn;have HX:=Lib.hid hX;have HS':=Lib.hid hS;have HA:=Lib.hid hA;have HM:=Lib.hid hM;have HO:=Lib.hid hown;have hzv:=BV.size;clear hX hS hA hM hown hit hMv hcn
    gi_upto_region 10 with fail
    obtain⟨mb,hmb⟩:∃mb,mb=V.heap.size:=⟨_,rfl⟩
    obtain⟨V2,h2⟩:∃V2,V2=V.alloc (.cells #[.int .u64 (cur:Nat)] 49):=⟨_,rfl⟩
    rw[<-h2,<-hmb];have HH2:=Lib.hid h2;have HMB:=Lib.hid hmb;clear h2 hmb
    gi_wp2_with fail
    refine⟨trivial,CallsIn.mono (callsIn_wide.2 (points_any cur _)) ?_⟩;rintro e w' ⟨rfl,hw'⟩;have h2:=HH2.out;have hmb:=HMB.out;have hz2:V2.heap.size=mb+1:=by rw[h2,hmb]; simp
    obtain⟨Vc,hVc⟩:∃Vc,Vc=V2.alloc (.cells #[.int .u64 (cur:Nat)] 49):=⟨_,rfl⟩
    rw[hw',<-hVc];rw[hz2];have hmc:Vc.heap[mb]?=some (.cells #[.int .u64 (cur:Nat)] 49 (0,0)):=by rw[hVc,h2,hmb]; exact blk_old (blk_new _ _)
    have hnc:Vc.heap[mb+1]?=some (.cells #[.int .u64 (cur:Nat)] 49 (0,0)):=by rw[hVc,<-hz2]; exact blk_new _ _
    have BVc:Below mb V Vc:=by rw[hVc,h2,hmb]; exact((Below.refl _ V).alloc (Nat.le_refl _) _).alloc (by simp) _
    have hzc:Vc.heap.size=mb+2:=by rw[hVc]; simp; omega
    have hzm:W.heap.size<=mb:=by omega
    have hTc:=HTT.out.below (B.trans ((BV.trans (BVc.mono hzm)).mono B.size));clear hw' hVc h2 HH2 HMB;have HZ2:=Lib.hid hz2;have HMB:=Lib.hid hmb;clear hz2 hmb;have HHC:=Lib.hid hnc;have HHM:=Lib.hid hmc;clear hnc hmc
    gi_wp2_with fail
    refine rangeFunc_cell (α:=Nat) (Bn:=mb+1) (gf:=42) (lb:=#[.pointer (some ⟨mb+1,0,none⟩)]) (encs:=fun k=>#[.int .i64 ((k:Nat):Int)]) (xs:=ptsN cur) mb (by omega) rfl (by omega) rfl trivial (enters_of Tryz.func42 (by kernel_rfl) rfl) (by omega) (fun x=>rfl)
     (fun l J W hJc hY hB hj=>pointsN_in 8 (by omega) l _ mb cur hc64 J W hJc hY ((hB.block _ (by omega)).trans HHC.out) (by omega) (hTc.keep (hB.block _ (by omega))) (by omega) hj)
     (fun pre W=>W.heap[mb]?=some (.cells #[.int .u64 ((pre.foldl (addN s c a) cur:Nat):Int)] 49 (0,0))/\Below mb Vc W)
     (OwnFrom.and (Own.from (cellOwn _ _ (fun _=>rfl)) _) (ownFrom_below (by omega) (by omega)))
     (fun pre A y h=>⟨blk_farI 0 _ (by omega) h.1,h.2.setCell (p:=⟨mb+1,0,none⟩) (by show mb<=mb+1; omega) y⟩)
     ⟨HHM.out,Below.refl _ _⟩
     (fun x=>{ tmps:=#[v 0,v 1,v 2,v 3,v 4,v 5,.pointer (some ⟨xb,0,none⟩),.pointer (some ⟨sb,0,none⟩),v 8,.pointer (some ⟨ab,0,none⟩),sv,.int .u64 (left:Nat),.int .u64 (cur:Nat),.pointer (some ⟨mb,0,none⟩),.int .i64 ((x:Nat):Int),v 15,v 16,v 17,v 18,v 19,v 20,v 21,v 22,v 23,v 24,v 25,v 26,v 27,v 28,v 29,v 30,v 31,v 32,.int .u64 (cur:Nat),.int .u64 (cur:Nat),.func (.func 42) #[] #[.pointer (some ⟨mb+1,0,none⟩)],.int .i64 ((x:Nat):Int),v 37,v 38,v 39,v 40,v 41,v 42,v 43,v 44,v 45,v 46,v 47,v 48,v 49,v 50,v 51,v 52,v 53,v 54,v 55,v 56,v 57,v 58,v 59,v 60,v 61,v 62],defers:=[] })
     ?assign ?body ?done
    case assign =>
     intro l x W K hK
     gi_wp2
     exact hK
    case body =>
     rintro l pre x W2 ⟨hm2,BW2⟩ hpre;have hxn:=HPS.out cur x HCN.out (hpre.subset (List.mem_append_right _ (List.mem_singleton.2 rfl):x∈pre ++ [x]));have hzl:V.heap.size=mb:=HMB.out.symm;have hxv:=blk_lt HXV.out;have hsv:=blk_lt HSV.out;have hav:=blk_lt HAV.out;have BL2:Below mb V W2:=BVc.trans BW2;have y0:W2.cell? ⟨xb,1+x,none⟩=some (.int .u64 (c x:Nat)):=spc_cell ((BL2.block _ (by omega)).trans HXV.out) (by omega);have y1:W2.cell? ⟨ab,1+x,none⟩=some (.int .u64 (a x:Nat)):=spc_cell ((BL2.block _ (by omega)).trans HAV.out) (by omega);have y2:W2.cell? ⟨sb,0,none⟩=some (.int .u64 (s:Nat)):=row1_0 ((BL2.block _ (by omega)).trans HSV.out);have hmo64:=(fold_lt (c:=c) (a:=a) hs64 pre cur hc64).1;have hfold:(pre ++ [x]).foldl (addN s c a) cur=pre.foldl (addN s c a) cur ||| ((c x ||| a x) &&& s):=by rw[List.foldl_append]; rfl
     have hcx:=HC64.out x hxn;have hax:=HA64.out x hxn;obtain⟨mo,hmo⟩:∃mo,pre.foldl (addN s c a) cur=mo:=⟨_,rfl⟩
     rw[hmo]at hm2 hmo64 hfold;obtain⟨cx,hcx'⟩:∃cx,c x=cx:=⟨_,rfl⟩
     obtain⟨ax,hax'⟩:∃ax,a x=ax:=⟨_,rfl⟩
     rw[hcx']at y0 hcx hfold;rw[hax']at y1 hax hfold;have e1:=or64 hcx hax;have e2:=and64 (or_lt64 hcx hax) hs64;have e3:=or64 hmo64 (and_lt64 (x:=cx ||| ax) hs64);obtain⟨o1,ho1⟩:∃o1,cx ||| ax=o1:=⟨_,rfl⟩
     rw[ho1]at e1 e2 e3 hfold;obtain⟨o2,ho2⟩:∃o2,o1 &&& s=o2:=⟨_,rfl⟩
     rw[ho2]at e2 e3 hfold;obtain⟨o3,ho3⟩:∃o3,mo ||| o2=o3:=⟨_,rfl⟩
     rw[ho3]at e3 hfold;have y3:=row1_0 hm2;have yf:=row_f hm2;have HM2:=Lib.hid hm2;have HFO:=Lib.hid hfold;have b6x:¬(6:Int)<=(x:Int):=by omega
     clear hm2 hfold ho1 ho2 ho3 hmo hcx' hax' hpre BL2 HTT hTc HIT HFIX HNEXT HPCS HC64 HA64 HPS HOV HMV HO HM
     gi_upto_region 12 with fail
     refine with_actIn fun a0 ha0=>?_;have hsz0:a0.tmps.size=63:=by rw[ha0]; rfl
     refine wpIn_region_last (by kernel_rfl) (by kernel_rfl) [(37,.int .u64 (mo:Nat)),(38,.int .i64 (x:Nat)),(39,.pointer (some ⟨xb,1,none⟩)),(40,.pointer (some ⟨xb,1+x,none⟩)),(41,.int .u64 (cx:Nat)),(42,.int .i64 (x:Nat)),(43,.pointer (some ⟨ab,1,none⟩)),(44,.pointer (some ⟨ab,1+x,none⟩)),(45,.int .u64 (ax:Nat)),(46,.int .u64 (o1:Nat)),(47,.int .u64 (s:Nat)),(48,.int .u64 (o2:Nat)),(49,.int .u64 (o3:Nat))] rfl (by show([37,38,39,40,41,42,43,44,45,46,47,48,49]:List Nat).Nodup; decide) _ rfl rfl (by kernel_rfl) _ hsz0 (by kernel_rfl) ⟨⟨rfl,rfl,?y1v0⟩,⟨rfl,rfl,?y1v1⟩,⟨rfl,rfl,?y1v2⟩,⟨rfl,rfl,?y1v3⟩,⟨rfl,rfl,?y1v4⟩,⟨rfl,rfl,?y1v5⟩,⟨rfl,rfl,?y1v6⟩,⟨rfl,rfl,?y1v7⟩,⟨rfl,rfl,?y1v8⟩,⟨rfl,rfl,?y1v9⟩,⟨rfl,rfl,?y1v10⟩,⟨rfl,rfl,?y1v11⟩,⟨rfl,rfl,?y1v12⟩,trivial⟩ ?y1done
     case y1v0 =>
      intro a' hA hdep;obtain⟨r13,q13⟩:=dpi hA 13 (.pointer (some ⟨mb,0,none⟩)) (by kernel_rfl) (by rw[ha0]; rfl);have kc0:(W2).drew.cell? ⟨xb,1+x,none⟩=some (.int .u64 (cx:Nat)):=by first | assumption | (go_simp; done) | (simp; done)
      have kc1:(W2).drew.cell? ⟨ab,1+x,none⟩=some (.int .u64 (ax:Nat)):=by first | assumption | (go_simp; done) | (simp; done)
      have kc2:(W2).drew.cell? ⟨sb,0,none⟩=some (.int .u64 (s:Nat)):=by first | assumption | (go_simp; done) | (simp; done)
      have kc3:(W2).drew.cell? ⟨mb,0,none⟩=some (.int .u64 (mo:Nat)):=by first | assumption | (go_simp; done) | (simp; done)
      clear hdep ha0 hA;refine⟨about_plain (fun _ h=>nomatch h),?_⟩;simp[go_sem, *]
     case y1v1 =>
      intro a' hA hdep;obtain⟨r14,q14⟩:=dpi hA 14 (.int .i64 (x:Nat)) (by kernel_rfl) (by rw[ha0]; rfl);clear hdep ha0 hA;refine⟨about_plain (fun _ h=>nomatch h),?_⟩;simp[go_sem, *]
     case y1v2 =>
      intro a' hA hdep;obtain⟨r6,q6⟩:=dpi hA 6 (.pointer (some ⟨xb,0,none⟩)) (by kernel_rfl) (by rw[ha0]; rfl);clear hdep ha0 hA;refine⟨about_plain (fun _ h=>nomatch h),?_⟩;simp[go_sem, *]
     case y1v3 =>
      intro a' hA hdep;obtain⟨r39,q39⟩:=dpv hdep ⟨2,.data⟩ (by simp) rfl rfl;obtain⟨r38,q38⟩:=dpv hdep ⟨1,.data⟩ (by simp) rfl rfl;clear hdep ha0 hA;refine⟨about_plain (fun _ h=>nomatch h),?_⟩;simp[go_sem, *]
     case y1v4 =>
      intro a' hA hdep;obtain⟨r40,q40⟩:=dpv hdep ⟨3,.data⟩ (by simp) rfl rfl;have kc0:(W2).drew.cell? ⟨xb,1+x,none⟩=some (.int .u64 (cx:Nat)):=by first | assumption | (go_simp; done) | (simp; done)
      have kc1:(W2).drew.cell? ⟨ab,1+x,none⟩=some (.int .u64 (ax:Nat)):=by first | assumption | (go_simp; done) | (simp; done)
      have kc2:(W2).drew.cell? ⟨sb,0,none⟩=some (.int .u64 (s:Nat)):=by first | assumption | (go_simp; done) | (simp; done)
      have kc3:(W2).drew.cell? ⟨mb,0,none⟩=some (.int .u64 (mo:Nat)):=by first | assumption | (go_simp; done) | (simp; done)
      clear hdep ha0 hA;refine⟨about_plain (fun _ h=>nomatch h),?_⟩;simp[go_sem, *]
     case y1v5 =>
      intro a' hA hdep;obtain⟨r14,q14⟩:=dpi hA 14 (.int .i64 (x:Nat)) (by kernel_rfl) (by rw[ha0]; rfl);clear hdep ha0 hA;refine⟨about_plain (fun _ h=>nomatch h),?_⟩;simp[go_sem, *]
     case y1v6 =>
      intro a' hA hdep;obtain⟨r9,q9⟩:=dpi hA 9 (.pointer (some ⟨ab,0,none⟩)) (by kernel_rfl) (by rw[ha0]; rfl);clear hdep ha0 hA;refine⟨about_plain (fun _ h=>nomatch h),?_⟩;simp[go_sem, *]
     case y1v7 =>
      intro a' hA hdep;obtain⟨r43,q43⟩:=dpv hdep ⟨6,.data⟩ (by simp) rfl rfl;obtain⟨r42,q42⟩:=dpv hdep ⟨5,.data⟩ (by simp) rfl rfl;clear hdep ha0 hA;refine⟨about_plain (fun _ h=>nomatch h),?_⟩;simp[go_sem, *]
     case y1v8 =>
      intro a' hA hdep;obtain⟨r44,q44⟩:=dpv hdep ⟨7,.data⟩ (by simp) rfl rfl;have kc0:(W2).drew.cell? ⟨xb,1+x,none⟩=some (.int .u64 (cx:Nat)):=by first | assumption | (go_simp; done) | (simp; done)
      have kc1:(W2).drew.cell? ⟨ab,1+x,none⟩=some (.int .u64 (ax:Nat)):=by first | assumption | (go_simp; done) | (simp; done)
      have kc2:(W2).drew.cell? ⟨sb,0,none⟩=some (.int .u64 (s:Nat)):=by first | assumption | (go_simp; done) | (simp; done)
      have kc3:(W2).drew.cell? ⟨mb,0,none⟩=some (.int .u64 (mo:Nat)):=by first | assumption | (go_simp; done) | (simp; done)
      clear hdep ha0 hA;refine⟨about_plain (fun _ h=>nomatch h),?_⟩;simp[go_sem, *]
     case y1v9 =>
      intro a' hA hdep;obtain⟨r41,q41⟩:=dpv hdep ⟨4,.data⟩ (by simp) rfl rfl;obtain⟨r45,q45⟩:=dpv hdep ⟨8,.data⟩ (by simp) rfl rfl;clear hdep ha0 hA;refine⟨about_plain (fun _ h=>nomatch h),?_⟩;simp[go_sem, *]
     case y1v10 =>
      intro a' hA hdep;obtain⟨r7,q7⟩:=dpi hA 7 (.pointer (some ⟨sb,0,none⟩)) (by kernel_rfl) (by rw[ha0]; rfl);have kc0:(W2).drew.cell? ⟨xb,1+x,none⟩=some (.int .u64 (cx:Nat)):=by first | assumption | (go_simp; done) | (simp; done)
      have kc1:(W2).drew.cell? ⟨ab,1+x,none⟩=some (.int .u64 (ax:Nat)):=by first | assumption | (go_simp; done) | (simp; done)
      have kc2:(W2).drew.cell? ⟨sb,0,none⟩=some (.int .u64 (s:Nat)):=by first | assumption | (go_simp; done) | (simp; done)
      have kc3:(W2).drew.cell? ⟨mb,0,none⟩=some (.int .u64 (mo:Nat)):=by first | assumption | (go_simp; done) | (simp; done)
      clear hdep ha0 hA;refine⟨about_plain (fun _ h=>nomatch h),?_⟩;simp[go_sem, *]
     case y1v11 =>
      intro a' hA hdep;obtain⟨r46,q46⟩:=dpv hdep ⟨9,.data⟩ (by simp) rfl rfl;obtain⟨r47,q47⟩:=dpv hdep ⟨10,.data⟩ (by simp) rfl rfl;clear hdep ha0 hA;refine⟨about_plain (fun _ h=>nomatch h),?_⟩;simp[go_sem, *]
     case y1v12 =>
      intro a' hA hdep;obtain⟨r37,q37⟩:=dpv hdep ⟨0,.data⟩ (by simp) rfl rfl;obtain⟨r48,q48⟩:=dpv hdep ⟨11,.data⟩ (by simp) rfl rfl;clear hdep ha0 hA;refine⟨about_plain (fun _ h=>nomatch h),?_⟩;simp[go_sem, *]
     rw[ha0]; simp only[putL,Act.put,sA_,sZ_,sS_];clear ha0 hsz0;have BD:Below W2.heap.size W2 W2.drew:=(Below.refl _ W2).drew;obtain⟨W3,hw3⟩:∃W3,W3=W2.drew:=⟨_,rfl⟩
     rw[<-hw3]at BD ⊢;have hmz:=blk_lt HM2.out;have m3:=(BD.block _ hmz).trans HM2.out;have d3:=row1_0 m3;have f3:=row_f m3;have HM3:=Lib.hid m3;have HKO:=Lib.hid (show KeepsOthers W2 W3 by rw[hw3]; exact KeepsOthers.drew _);have HBN:=Lib.hid (show W3.heap[mb+1]?=W2.heap[mb+1]? by rw[hw3]; rfl);clear y0 y1 y2 y3 yf m3 hw3 e1 e2 e3
     gi_wp2
     exact⟨(HKO.out.trans (KeepsOthers.setCell _ _ _)).from _,(heap_setCell_other _ _ _ _ (by show mb+1≠mb; omega)).trans HBN.out,(show Below mb W2 W3 from BD.mono (by omega)).setCell (p:=⟨mb,0,none⟩) (Nat.le_refl _) _,(blk_setI 0 _ HM3.out).trans (by rw[HFO.out]; rfl),(BW2.trans (show Below mb W2 W3 from BD.mono (by omega))).setCell (p:=⟨mb,0,none⟩) (Nat.le_refl _) _⟩
    case done =>
     rintro D W2 hD ⟨hm2,BW2⟩ hK;have hzl:V.heap.size=mb:=HMB.out.symm;have BL2:Below V.heap.size V W2:=by rw[hzl]; exact BVc.trans BW2
     have MV2:=HMV.out.cons BL2 (by have:=B.size; omega) (by omega) hK;have BV2:Below W.heap.size W W2:=BV.trans (BL2.mono (by omega));obtain⟨mo,hmo⟩:∃mo,moreN s c a cur=mo:=⟨_,rfl⟩
     rw[show(ptsN cur).foldl (addN s c a) cur=mo from hmo]at hm2;have hmo64:mo < 64:=by rw[<-hmo]; exact more_lt hs64 hc64
     have hmole:cur<=mo:=by rw[<-hmo]; exact more_le hs64 hc64
     have hmon:mo < 2 ^ n:=by rw[<-hmo]; exact fold_ltn HS.out _ _ HCN.out
     have y0:=row1_0 hm2
     by_cases heq:mo=cur
     ·
      subst heq;obtain rfl:mo=pc:=by rw[<-HIT.out]; exact(itN_fix hmo _).symm
      have hnx:=not64 hl64 hmo64;obtain⟨nl,hnl⟩:∃nl,clear2 left mo=nl:=⟨_,rfl⟩
      have hnln:nl < 2 ^ n:=by rw[<-hnl]; exact Nat.lt_of_le_of_lt (Nat.sub_le _ _) HLN.out
      have HNX2:=HNEXT;rw[hnl]at hnx HNX2;have hown:=own_belowP HO.out BV2;have X2:=(BV2.block _ (blk_lt HX.out)).trans HX.out;have S2:=(BV2.block _ (blk_lt HS'.out)).trans HS'.out;have A2:=(BV2.block _ (blk_lt HA.out)).trans HA.out;have hz2w:=BV2.size;have B2:Below w.heap.size w W2:=B.trans (BV2.mono B.size);have HXV2:=Lib.hid X2;have HSV2:=Lib.hid S2;have HAV2:=Lib.hid A2;have HMV2:=Lib.hid MV2;have HB2:=Lib.hid B2;have HNL:=Lib.hid hnln;have HOW2:=Lib.hid hown;clear hm2 MV2 X2 S2 A2 B2 HXV HSV HAV HOV HX HS' HA HM HO HMV BVc BW2 BL2 hK HHC HHM hTc hmo hnl hnln hown BV BV2 HMB HZ2
      gi_wp2_with (first
       | (gi_at_builtin; refine wpListIn_append_own _ rfl _ _ 22 rfl W1.heap.size 3 i0 (.int .i64 0) 1 8 Tryz.underlying22 hi hz0 hz1 hz2 rfl (by decide) _ _ _ rfl (HOW2.out.alloc _) ⟨W2.heap.size,0,none⟩ 1 1 [.int .i64 ((mo:Nat):Int)] rfl rfl (cell_one_new _ _ _) (one_cell _) (Nat.le_trans (by omega) (show(7:Nat)<=maxLen by decide)) (by omega) (by simp; omega) ?_; intro v' w3 hown' hgrow3 hnil3; have HO3:=Lib.hid hown'; have HG3:=Lib.hid hgrow3; clear hown' hgrow3 hnil3)
       | fail)
      obtain⟨V2,hV2⟩:∃V2,V2=W2.alloc (.cells #[.int .i64 ((mo:Nat):Int)] 3):=⟨_,rfl⟩
      have hg3':=HG3.out;rw[<-hV2]at hg3';have hg3:V2.grownBy w3 sv.ownBlock:=hg3';have hown2:V2.ownsRow W1.heap.size 3 1 sv j xs:=by rw[hV2]; exact HOW2.out.alloc _
      have hb2':Below W2.heap.size W2 V2:=by rw[hV2]; exact(Below.refl _ _).alloc (Nat.le_refl _) _
      have hz3:=hb2'.size;have hk3:KeepsOthers V2 w3:=KeepsOthers.of_grownBy hg3 (fun r o hr ho=>own_cells hown2 r o hr ho);have hblk:∀k,k < W1.heap.size->w3.heap[k]?=W2.heap[k]?:=fun k hk=>(hg3.block k (by omega) (fun e=>by have:=(hown2.lt k e.symm).1; omega)).trans (hb2'.block k (by omega));have hb3:Below W1.heap.size W2 w3:=Below.grown (hb2'.mono (by omega)) hg3 (by omega) (fun q hq=>(hown2.lt q hq).1);refine⟨⟨f',j+1,m2,nl,v',xs ++ [.int .i64 ((mo:Nat):Int)],{ target:=.collected D,args:=#[] } :: dv,?_⟩,?_⟩;refine actU _ _ _ ?_ rfl;exact⟨⟨⟨HNX2.out,by omega,HNL.out⟩,HO3.out,by have:=hb3.size; omega⟩,(HMV2.out.keep hb2').others hk3,(hblk _ hxs).trans HXV2.out,(hblk _ hss).trans HSV2.out,(hblk _ has).trans HAV2.out,HB2.out.trans (hb3.mono hzB)⟩;show m-lenOf v' < m-lenOf sv;rw[own_len HO3.out,own_len HOW2.out];omega
     ·
      have hne:((mo:Int) == (cur:Int))=false:=by simp; omega
      obtain⟨i2,hi2⟩:=itN_next HIT.out HFIX.out (by rw[hmo]; exact heq);rw[hmo]at hi2;have HI2:=Lib.hid hi2;have HMV2:=Lib.hid MV2;clear hm2 MV2 hi2 hmo
      gi_wp2
      refine⟨⟨i2,mo,{ target:=.collected D,args:=#[] } :: dv,?_⟩,?_⟩;refine actU _ _ _ ?_ rfl;exact⟨⟨HI2.out,hmon⟩,HMV2.out,BV2⟩;simp[intOf];omega
end Go.Proofs.YtaffkceklkdokaaGreatDoor
