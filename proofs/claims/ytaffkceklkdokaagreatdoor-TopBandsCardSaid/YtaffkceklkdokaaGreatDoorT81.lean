/- How many more odd chains than even ones there are in a space of up to six points. -/
import Derived.Test.YtaffkceklkdokaaGreatDoorT79
import Derived.Test.YtaffkceklkdokaaGreatDoorT47
set_option maxRecDepth 100000
set_option maxHeartbeats 4000000
namespace Go.Proofs.YtaffkceklkdokaaGreatDoor
open Go.RowKit Go.ChangeMaps
attribute [local go_sem ↓] Go.wp_at_zero Go.wp_at_succ
attribute [local go_sem] run_storeF
theorem cnt_all (K X V kb L n:Nat) (c:Nat->Nat) (g:Nat->Int) (hg6:∀q,-6<=g q/\g q<=6) (hn:n<=6) (hc:∀p,p < n->c p < 64) (hg:∀p,p < n->g p=sumG g (ptsN (clear2 (c p) (2 ^ p)))/\∀q∈ptsN (clear2 (c p) (2 ^ p)),q < p) :
  ∀(m i:Nat),i < m->i < n->CntAt K X V kb L n c g i
 | 0,i,hm,_=>absurd hm (Nat.not_lt_zero i)
 | m+1,i,hm,hi=>cnt_step K X V kb L n c g hg6 hn i hi (hc i hi) (hg i hi).1 fun q hq=>cnt_all K X V kb L n c g hg6 hn hc hg m q (by have:=(hg i hi).2 q hq; omega) (by have:=(hg i hi).2 q hq; omega)
/-- what the calls of the loop rely on -/
def LSC (w:World) (xb B n:Nat) (c:Nat->Nat) (g:Nat->Int) (W:World):Prop :=
 EnvC W (B+1) xb (B+1+1) B B n c/\(∃f,MapIs W B f/\OKg g f)/\Below w.heap.size w W
theorem LSC.count {w W:World} {xb B n:Nat} {c:Nat->Nat} {g:Nat->Int} (h:LSC w xb B n c g W) (hw:w.heap.size<=B) {i:Nat} (ha:CntAt (B+1) xb (B+1+1) B B n c g i) :
  Calls Tryz.prog 18 #[.int .i64 (i:Nat),.pointer (some ⟨B+1,0,none⟩),.pointer (some ⟨xb,0,none⟩),.pointer (some ⟨B+1+1,0,none⟩)] W fun e W'=>e=.returned (.int .i64 (g i))/\LSC w xb B n c g W':=by
 obtain⟨hE,⟨f,hm,ok⟩,hB⟩:=h;refine(ha W f hE hm ok).mono ?_;rintro e W' ⟨rfl,hb,f',hm',ok'⟩;exact⟨rfl,hE.keep hb,⟨f',hm',ok'⟩,hB.trans (belx_low hb hw hB.size)⟩
theorem totG_snoc (g:Nat->Int) (l:List Nat) (q:Nat):totG g (l ++ [q])=totG g l+g q:=by simp[totG]
theorem totG_fold (g:Nat->Int) (hg:∀q,-6<=g q/\g q<=6):∀(l:List Nat) (m:Int),m-6 * l.length<=l.foldl (fun m q=>m+g q) m/\l.foldl (fun m q=>m+g q) m<=m+6 * l.length
 | [],m=>by simp
 | q :: l,m=>by
  have h:=totG_fold g hg l (m+g q);have h2:=hg q;simp only[List.foldl_cons,List.length_cons];omega
theorem totG_le (g:Nat->Int) (hg:∀q,-6<=g q/\g q<=6) (l:List Nat) (hl:l.length<=6) : -36<=totG g l/\totG g l<=36:=by
 have h:=totG_fold g hg l 0;unfold totG;omega
theorem ChainsN (l:List Nat) (lv:Value) (g:Nat->Int) (hg6:∀q,-6<=g q/\g q<=6) (hm:1<=l.length/\l.length<=6) (hl:∀k∈l,k < 2 ^ l.length) (hsp:IsSp l.length (cof l)) (hpl:∀p,p < l.length->∀j,j < p->cof l j≠cof l p)
  (hgg:∀p,p < l.length->g p=sumG g (ptsN (clear2 (cof l p) (2 ^ p)))/\∀q∈ptsN (clear2 (cof l p) (2 ^ p)),q < p) (w:World) (hT:BitTab6 w) (hL:IntsAt w lv l) :
  Calls Tryz.prog 6 #[lv] w fun e w'=>e=.returned (.tuple #[.int .i64 (totG g (List.range l.length)),.int .i64 0])/\Below w.heap.size w w':=by
 have hmm:=@run_makeMap Tryz.prog;have hmf:∀(fn:Fn) (first cap:Array Value) (w:World),(Instr.makeFunc fn first cap).run Tryz.prog w=.ok (.func fn first cap) w:=fun _ _ _ _=>rfl;have htab:=block_lt_of_cell (hT 0);dsimp only at htab;have HNC:=Lib.hid (newSpaceN l lv hm hl hsp w hT hL);have HIP:=Lib.hid (fun wx=>isPlainN l.length (cof l) hm.2 hpl wx);have HTT:=Lib.hid hT;have HCA:=Lib.hid (fun K X V kb L=>cnt_all K X V kb L l.length (cof l) g hg6 hm.2 (fun p hp=>(hsp p hp).1) hgg l.length);have HTG:=Lib.hid (fun j (hj:j<=l.length)=>totG_le g hg6 (List.range j) (by rw[List.length_range]; omega));have HG6:=Lib.hid hg6;obtain⟨n,hn⟩:∃n,l.length=n:=⟨_,rfl⟩
 obtain⟨c,hc⟩:∃c,cof l=c:=⟨_,rfl⟩
 rw[hn,hc]at HNC;simp only[hn,hc]at HIP HCA HTG;rw[hn]at hm ⊢;have hxl:=spc_eq n c;obtain⟨c0,q0⟩:∃c0,c 0=c0:=⟨_,rfl⟩
 obtain⟨c1,q1⟩:∃c1,c 1=c1:=⟨_,rfl⟩
 obtain⟨c2,q2⟩:∃c2,c 2=c2:=⟨_,rfl⟩
 obtain⟨c3,q3⟩:∃c3,c 3=c3:=⟨_,rfl⟩
 obtain⟨c4,q4⟩:∃c4,c 4=c4:=⟨_,rfl⟩
 obtain⟨c5,q5⟩:∃c5,c 5=c5:=⟨_,rfl⟩
 rw[q0,q1,q2,q3,q4,q5]at hxl;rw[hxl]at HNC;simp only[hxl]at HIP;have HXL:=Lib.hid hxl;clear hT hL hl hsp hpl hgg hg6 hn hc hxl q0 q1 q2 q3 q4 q5;go_enter Tryz.func6,Tryz.ntmps6;go_wp2_with fail;refine HNC.out.mono ?_;rintro e w1 ⟨rfl,hb1⟩;have B1:Below w.heap.size w w1:=bl_call (by repeat (first | exact Below.refl _ _ | exact Nat.le_refl _ | refine Below.alloc ?_ ?_ _ | refine Below.setCell ?_ ?_ _ | refine Below.drew ?_ | refine bl_drewN ?_ _ | (assumption) | refine bl_call ?_ (by assumption) ?_ | omega | (simp <;> omega))) hb1 (Nat.le_refl _);clear hb1 HNC;go_upto_region 4 with fail;obtain⟨W0,h0⟩:∃W0,W0=w1.alloc (.cells (XLn n c0 c1 c2 c3 c4 c5) 52):=⟨_,rfl⟩
 rw[<-h0];have B0:Below w.heap.size w W0:=by rw[h0]; exact B1.alloc B1.size _
 have X0:W0.heap[w1.heap.size]?=some (.cells (XLn n c0 c1 c2 c3 c4 c5) 52 (0,0)):=by rw[h0]; exact blk_new _ _
 have y0:W0.cell? ⟨w1.heap.size,0,none⟩=some (.int .i64 (n:Nat)):=cell_of_row W0 _ 0 _ _ _ X0;have y1:W0.cell? ⟨w1.heap.size,1,none⟩=some (.int .u64 (c0:Nat)):=cell_of_row W0 _ 1 _ _ _ X0;have y2:W0.cell? ⟨w1.heap.size,2,none⟩=some (.int .u64 (c1:Nat)):=cell_of_row W0 _ 2 _ _ _ X0;have y3:W0.cell? ⟨w1.heap.size,3,none⟩=some (.int .u64 (c2:Nat)):=cell_of_row W0 _ 3 _ _ _ X0;have y4:W0.cell? ⟨w1.heap.size,4,none⟩=some (.int .u64 (c3:Nat)):=cell_of_row W0 _ 4 _ _ _ X0;have y5:W0.cell? ⟨w1.heap.size,5,none⟩=some (.int .u64 (c4:Nat)):=cell_of_row W0 _ 5 _ _ _ X0;have y6:W0.cell? ⟨w1.heap.size,6,none⟩=some (.int .u64 (c5:Nat)):=cell_of_row W0 _ 6 _ _ _ X0;have HX0:=Lib.hid X0;clear h0 X0 B1;go_wp2_with fail;refine(HIP.out _).mono ?_;rintro e w2 ⟨rfl,hb2⟩;have B2:Below w.heap.size w w2:=bl_call B0 hb2 B0.size;have HX2:=Lib.hid ((hb2.block _ (blk_lt HX0.out)).trans HX0.out);have hz2:=B2.size;have hx2:=blk_lt HX2.out;clear hb2 y0 y1 y2 y3 y4 y5 y6 HX0 HIP B0;go_upto_region 8 with fail;obtain⟨W3,h3⟩:∃W3,W3=(((w2.alloc (.map #[] 0)).alloc (.cells #[.map (some w2.heap.size)] 55)).alloc (.cells #[.nilFunc] 56)):=⟨_,rfl⟩
 rw[<-h3];have P3:W3.heap[w2.heap.size]?=some (.map #[] 0):=by rw[h3]; exact(by repeat (first | assumption | (with_reducible apply blk_set2) | (with_reducible apply blk_set1) | (with_reducible refine blk_far2 ?_ ?_; (first | omega | (simp; done) | (simp; omega))) | (with_reducible refine blk_far1 ?_ ?_; (first | omega | (simp; done) | (simp; omega))) | (with_reducible refine blk_new' _ _ ?_; (first | omega | (simp; done) | (simp; omega))) | (with_reducible refine blk_old ?_) | (with_reducible refine blk_drew ?_)))
 have K3:W3.heap[w2.heap.size+1]?=some (.cells #[.map (some w2.heap.size)] 55 (0,0)):=by rw[h3]; exact(by repeat (first | assumption | (with_reducible apply blk_set2) | (with_reducible apply blk_set1) | (with_reducible refine blk_far2 ?_ ?_; (first | omega | (simp; done) | (simp; omega))) | (with_reducible refine blk_far1 ?_ ?_; (first | omega | (simp; done) | (simp; omega))) | (with_reducible refine blk_new' _ _ ?_; (first | omega | (simp; done) | (simp; omega))) | (with_reducible refine blk_old ?_) | (with_reducible refine blk_drew ?_)))
 have V3:W3.heap[w2.heap.size+1+1]?=some (.cells #[.nilFunc] 56 (0,0)):=by rw[h3]; exact(by repeat (first | assumption | (with_reducible apply blk_set2) | (with_reducible apply blk_set1) | (with_reducible refine blk_far2 ?_ ?_; (first | omega | (simp; done) | (simp; omega))) | (with_reducible refine blk_far1 ?_ ?_; (first | omega | (simp; done) | (simp; omega))) | (with_reducible refine blk_new' _ _ ?_; (first | omega | (simp; done) | (simp; omega))) | (with_reducible refine blk_old ?_) | (with_reducible refine blk_drew ?_)))
 have X3:W3.heap[w1.heap.size]?=some (.cells (XLn n c0 c1 c2 c3 c4 c5) 52 (0,0)):=by rw[h3]; exact blk_old (blk_old (blk_old HX2.out))
 have B3:Below w.heap.size w W3:=by rw[h3]; exact((B2.alloc hz2 _).alloc (by simp; omega) _).alloc (by simp; omega) _
 clear h3;have v0:=row1_0 V3;have vf:=row_f V3;obtain⟨W4,h4⟩:∃W4,W4=W3.setCell ⟨w2.heap.size+1+1,0,none⟩ (CntF (w2.heap.size+1) w1.heap.size (w2.heap.size+1+1)):=⟨_,rfl⟩
 have V4:W4.heap[w2.heap.size+1+1]?=some (.cells #[CntF (w2.heap.size+1) w1.heap.size (w2.heap.size+1+1)] 56 (0,0)):=by rw[h4]; exact(blk_setI 0 _ V3).trans rfl
 have K4:W4.heap[w2.heap.size+1]?=some (.cells #[.map (some w2.heap.size)] 55 (0,0)):=by rw[h4]; exact blk_farI 0 _ (by omega) K3
 have P4:W4.heap[w2.heap.size]?=some (.map #[] 0):=by rw[h4]; exact blk_farI 0 _ (by omega) P3
 have X4:W4.heap[w1.heap.size]?=some (.cells (spc n c) 52 (0,0)):=by rw[h4,HXL.out]; exact blk_farI 0 _ (by omega) X3
 have B4:Below w.heap.size w W4:=by rw[h4]; exact B3.setCell (p:=⟨w2.heap.size+1+1,0,none⟩) (by show w.heap.size<=w2.heap.size+1+1; omega) _
 have E4:EnvC W4 (w2.heap.size+1) w1.heap.size (w2.heap.size+1+1) w2.heap.size w2.heap.size n c:=⟨row1_0 K4,X4,row1_0 V4,⟨by omega,by omega,by omega⟩,⟨by omega,Nat.le_refl _,blk_lt P4⟩,HTT.out.below B4⟩
 have MI4:MapIs W4 w2.heap.size (fun _=>none):=⟨#[],0,P4,⟨by simp,by simp,by simp⟩,⟨by simp,by simp⟩⟩
 have L4:LSC w w1.heap.size w2.heap.size n c g W4:=⟨E4,⟨_,MI4,fun j _=>.inl rfl⟩,B4⟩
 have y0:W4.cell? ⟨w1.heap.size,0,none⟩=some (.int .i64 (n:Nat)):=cell_of_row W4 _ 0 _ _ _ X4;have HL4:=Lib.hid L4;have HH4:=Lib.hid h4;clear P3 K3 V3 X3 B3 V4 K4 P4 X4 B4 E4 MI4 L4 h4 B2 HX2 HXL;go_upto_region 10 with fail;rw[<-HH4.out];clear HH4 v0 vf HTT;go_wp2;go_loopw [24,8] (fun x s wr=>∃j:Nat,x=.int .i64 j/\j<=n/\s=.int .i64 (totG g (List.range j))/\LSC w w1.heap.size w2.heap.size n c g wr) (fun x _ _=>n-(intOf x).toNat)
 case atStart=>exact⟨0,rfl,Nat.zero_le _,rfl,HL4.out⟩
 case round =>
  clear HL4 y0;obtain⟨j,rfl,hj,rfl,hLS⟩:=hrel
  by_cases hjn:j < n
  ·
   have HC:=Lib.hid (hLS.count hz2 (HCA.out _ _ _ _ _ j hjn hjn));have v0:=hLS.1.v;have hb1:=HTG.out j hj;have hb2:=HG6.out j;have hts:totG g (List.range (j+1))=totG g (List.range j)+g j:=by rw[List.range_succ,totG_snoc]
   obtain⟨s,hs⟩:∃s,totG g (List.range j)=s:=⟨_,rfl⟩
   obtain⟨gj,hgj⟩:∃gj,g j=gj:=⟨_,rfl⟩
   rw[hs]at hb1 hts ⊢;rw[hgj]at hb2 hts HC;have HTS:=Lib.hid hts;clear hs hgj hts hLS;go_wp2_with fail;refine HC.out.mono ?_;rintro e W5 ⟨rfl,hL5⟩;have HL5:=Lib.hid hL5;clear hL5 v0 HC;go_wp2;exact⟨⟨j+1,by simp,by omega,by rw[HTS.out],HL5.out⟩,by simp[intOf]; omega⟩
  ·
   obtain rfl:j=n:=by omega
   have HL:=Lib.hid hLS;clear hLS;obtain⟨s,hs⟩:∃s,totG g (List.range j)=s:=⟨_,rfl⟩
   rw[hs];have HS:=Lib.hid hs;clear hs;go_wp2;exact bodyPost_ret (v:=.tuple #[.int .i64 s,.int .i64 0]) (by simp[results,Tryz.results6,go_sem]) rfl ⟨by rw[HS.out],HL.out.2.2⟩
end Go.Proofs.YtaffkceklkdokaaGreatDoor
