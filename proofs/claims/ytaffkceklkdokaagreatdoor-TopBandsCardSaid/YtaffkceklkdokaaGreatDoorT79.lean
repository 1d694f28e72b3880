/- How many more odd chains than even ones end at a point: the recursive walk. -/
import Derived.Test.YtaffkceklkdokaaGreatDoorT78
import Derived.Test.YtaffkceklkdokaaGreatDoorTX
import Derived.Test.YtaffkceklkdokaaGreatDoorTN
set_option maxRecDepth 100000
set_option maxHeartbeats 4000000
namespace Go.Proofs.YtaffkceklkdokaaGreatDoor
open Go.RowKit Go.Shelf Go.ChangeMaps
attribute [local go_sem] Oper.semAt_some
abbrev CntF (K X V:Nat):Value:=.func (.func 18) #[] #[.pointer (some ⟨K,0,none⟩),.pointer (some ⟨X,0,none⟩),.pointer (some ⟨V,0,none⟩)]
/-- what the closure has captured -/
structure EnvC (W:World) (K X V kb L n:Nat) (c:Nat->Nat):Prop where
 k:W.cell? ⟨K,0,none⟩=some (.map (some kb))
 x:W.heap[X]?=some (.cells (spc n c) 52 (0,0))
 v:W.cell? ⟨V,0,none⟩=some (CntF K X V)
 ne:K≠kb/\X≠kb/\V≠kb
 le:2 < L/\L<=kb/\kb < W.heap.size
 t:BitTab6 W
theorem EnvC.keep {W W':World} {K X V kb L n:Nat} {c:Nat->Nat} (h:EnvC W K X V kb L n c) (hb:BelX [kb] W W'):EnvC W' K X V kb L n c:=by
 have hs:=hb.size;have hl:=h.le;exact⟨hb.cell (by simp; exact h.ne.1) h.k,(hb.block X (blk_lt h.x) (by simp; exact h.ne.2.1)).trans h.x,hb.cell (by simp; exact h.ne.2.2) h.v,h.ne,⟨hl.1,hl.2.1,by omega⟩,h.t.keep (hb.block _ (by omega) (by simp; omega))⟩
def OKg (g:Nat->Int) (f:Int->Option Value):Prop:=∀j:Nat,j < 6->f j=none∨f j=some (.int .i64 (g j))
theorem OKg.put {g:Nat->Int} {f:Int->Option Value} (h:OKg g f) (i:Nat):OKg g (fun j=>if j=(i:Int) then some (.int .i64 (g i)) else f j):=by
 intro j hj
 by_cases e:(j:Int)=i
 ·
  have:j=i:=by omega
  subst this;exact .inr (if_pos e)
 · dsimp only;rw[if_neg e];exact h j hj
theorem inI6 (i:Nat) (h:i < 6):InInt (i:Int):=by unfold InInt; omega
def CPost (w:World) (kb i:Nat) (g:Nat->Int) (e:Ending) (w':World):Prop:=e=.returned (.int .i64 (g i))/\BelX [kb] w w'/\∃f,MapIs w' kb f/\OKg g f
/-- the contract at a point -/
def CntAt (K X V kb L n:Nat) (c:Nat->Nat) (g:Nat->Int) (i:Nat):Prop:=∀(w:World) (f:Int->Option Value),EnvC w K X V kb L n c->MapIs w kb f->OKg g f ->
 Calls Tryz.prog 18 #[.int .i64 (i:Nat),.pointer (some ⟨K,0,none⟩),.pointer (some ⟨X,0,none⟩),.pointer (some ⟨V,0,none⟩)] w (CPost w kb i g)
theorem sumG_snoc (g:Nat->Int) (l:List Nat) (q:Nat):sumG g (l ++ [q])=sumG g l-g q:=by simp[sumG]
theorem sumG_fold (g:Nat->Int) (hg:∀q,-6<=g q/\g q<=6):∀(l:List Nat) (m:Int),m-6 * l.length<=l.foldl (fun m q=>m-g q) m/\l.foldl (fun m q=>m-g q) m<=m+6 * l.length
 | [],m=>by simp
 | q :: l,m=>by
  have h:=sumG_fold g hg l (m-g q);have h2:=hg q;simp only[List.foldl_cons,List.length_cons];omega
theorem sumG_le (g:Nat->Int) (hg:∀q,-6<=g q/\g q<=6) (l:List Nat) (hl:l.length<=6) : -35<=sumG g l/\sumG g l<=37:=by
 have h:=sumG_fold g hg l 1;unfold sumG;omega
/-- within the walk of a point -/
def VIc (w:World) (kb mo:Nat) (g:Nat->Int) (m:Int) (W:World):Prop:=(BelX [kb] w W/\(∃f,MapIs W kb f/\OKg g f)/\W.heap[mo]?=some (.cells #[.int .i64 m] 3 (0,0)))/\mo+2<=W.heap.size
theorem ownFrom_cnt {β : Type} {B kb mo:Nat} {w:World} {g:Nat->Int} (ms : β->Int) (hkb:kb < B) (hmo:mo < B) (hw:w.heap.size<=B):OwnFrom B (fun s W=>VIc w kb mo g (ms s) W):=by
 rintro s X Y row ⟨⟨hb,⟨f,hm,ok⟩,hmost⟩,hz⟩ hg hr;have hne:∀k,k < B->some k≠row:=fun k hk e=>by have:=(hr k e.symm).1; omega
 exact⟨⟨⟨hg.os.trans hb.os,hg.tape.trans hb.tape,hg.output.trans hb.output,Nat.le_trans hb.size hg.size,fun k hk hn=>(hg.block k (by have:=hb.size; omega) (hne k (by omega))).trans (hb.block k hk hn)⟩,
  ⟨f,hm.of_block (hg.block kb hm.lt (hne kb hkb)),ok⟩,(hg.block mo (blk_lt hmost) (hne mo hmo)).trans hmost⟩,Nat.le_trans hz hg.size⟩
theorem cnt_known (i:Nat) (hi:i < 6) (z:Int) (K X V kb L n:Nat) (c:Nat->Nat) (f:Int->Option Value) (w:World) (hE:EnvC w K X V kb L n c) (hm:MapIs w kb f) (hf:f i=some (.int .i64 z)) :
  Calls Tryz.prog 18 #[.int .i64 (i:Nat),.pointer (some ⟨K,0,none⟩),.pointer (some ⟨X,0,none⟩),.pointer (some ⟨V,0,none⟩)] w fun e w'=>e=.returned (.int .i64 z)/\w=w':=by
 have hlk:=hm.look Tryz.underlying3 Tryz.underlying55 (pk_z w) (inI6 i hi) true;rw[hf]at hlk;have hlk':(Instr.lookup 55 (.map (some kb)) (.int .i64 (i:Nat)) true).run Tryz.prog w=.ok (.tuple #[.int .i64 z,.bool true]) w:=hlk;have hlk2:=hm.look Tryz.underlying3 Tryz.underlying55 (pk_z w) (inI6 i hi) false;rw[hf]at hlk2;have hlk2':(Instr.lookup 55 (.map (some kb)) (.int .i64 (i:Nat)) false).run Tryz.prog w=.ok (.int .i64 z) w:=hlk2;have k0:=hE.k;clear hlk hf hm hE hlk2;refine(callsIn_wide (n:=9)).1 ?_;refine callsIn_of_wp_marks Tryz.func18 rfl trivial ?_ rfl;simp only[Tryz.ntmps18,List.size_toArray,List.length_cons,List.length_nil,Nat.reduceAdd,Nat.reduceSub,Array.replicate_succ,Array.replicate_zero,List.push_toArray,List.append_toArray,List.nil_append,List.cons_append]
 gi_wp2
 exact⟨.int .i64 z,by simp[results,Tryz.results18,go_sem],rfl,rfl⟩
theorem VIc.cell {w W:World} {kb mo bn:Nat} {g:Nat->Int} {m:Int} (h:VIc w kb mo g m W) (v:Value) (h1:w.heap.size<=bn) (h2:kb≠bn) (h3:mo≠bn):VIc w kb mo g m (W.setCell ⟨bn,0,none⟩ v):=by
 obtain⟨⟨hb,⟨f,hm,ok⟩,hmost⟩,hz⟩:=h;exact⟨⟨hb.setNew (p:=⟨bn,0,none⟩) h1 _,⟨f,hm.of_block (heap_setCell_other _ _ _ _ h2),ok⟩,blk_farI 0 _ h3 hmost⟩,by simpa[World.setCell]using hz⟩
theorem VIc.round {w W W2:World} {kb mo:Nat} {g:Nat->Int} {m m':Int} {f2:Int->Option Value} (h:VIc w kb mo g m W) (hb:BelX [kb] W W2) (hm:MapIs W2 kb f2) (ok:OKg g f2) (hmo:w.heap.size<=mo) (hne:kb≠mo) :
  VIc w kb mo g m' (W2.setCell ⟨mo,0,none⟩ (.int .i64 m')):=by
 obtain⟨⟨hb0,-,hmost⟩,hz⟩:=h;have hmost2:W2.heap[mo]?=some (.cells #[.int .i64 m] 3 (0,0)):=(hb.block _ (blk_lt hmost) (by simp; omega)).trans hmost;have hs:=hb.size;have hs2:(W2.setCell ⟨mo,0,none⟩ (.int .i64 m')).heap.size=W2.heap.size:=by simp[World.setCell]
 exact⟨⟨(belx_trans hb0 hb).setNew (p:=⟨mo,0,none⟩) hmo _,⟨f2,hm.of_block (heap_setCell_other _ _ _ _ hne),ok⟩,(blk_setI 0 _ hmost2).trans rfl⟩,by omega⟩
theorem VIc.done {w W:World} {kb mo i:Nat} {g:Nat->Int} (hi:i < 6) (h:VIc w kb mo g (g i) W) :
  ∃o,(Instr.mapUpdate 55 (.map (some kb)) (.int .i64 (i:Nat)) (.int .i64 (g i))).run Tryz.prog W=.ok () (setBlock W kb o)/\(Instr.lookup 55 (.map (some kb)) (.int .i64 (i:Nat)) false).run Tryz.prog (setBlock W kb o)=.ok (.int .i64 (g i)) (setBlock W kb o)/\BelX [kb] w (setBlock W kb o) /\
   ∀D,w.heap.size<=D->D≠kb->CPost w kb i g (.returned (.int .i64 (g i))) ((setBlock W kb o).putObj D (.deferred none)):=by
 obtain⟨⟨hb,⟨f,hm,ok⟩,hmost⟩,hz⟩:=h;obtain⟨o,h1,h2⟩:=hm.put Tryz.underlying3 Tryz.underlying55 (inI6 i hi) (.int .i64 (g i));have hs:=hb.setBlk (b:=kb) (by simp) o;have hlk:=h2.look Tryz.underlying3 Tryz.underlying55 (pk_z _) (inI6 i hi) false;rw[if_pos rfl]at hlk;refine⟨o,h1,hlk,hs,fun D hD hne=>⟨rfl,?_,_,h2.of_block (World.putObj_heap_other (Ne.symm hne)),ok.put i⟩⟩;exact⟨hs.os,hs.tape,hs.output,by have:=hs.size; simpa[World.putObj]using this,fun k hk hn=>(World.putObj_heap_other (by omega)).trans (hs.block k hk hn)⟩
theorem cnt_step (K X V kb L n:Nat) (c:Nat->Nat) (g:Nat->Int) (hg6:∀q,-6<=g q/\g q<=6) (hn:n<=6) (i:Nat) (hi:i < n) (hci:c i < 64) (hgi:g i=sumG g (ptsN (clear2 (c i) (2 ^ i)))) (hq:∀q∈ptsN (clear2 (c i) (2 ^ i)),CntAt K X V kb L n c g q):CntAt K X V kb L n c g i:=by
 intro w f hE hm hf;have hmix:Tryz.prog.follows .mixedOrders=true:=by kernel_rfl
 rcases hf i (by omega) with h1 | h1
 ·
  have hlk:(Instr.lookup 55 (.map (some kb)) (.int .i64 (i:Nat)) true).run Tryz.prog w=.ok (.tuple #[.int .i64 0,.bool false]) w:=by
   have h:=hm.look Tryz.underlying3 Tryz.underlying55 (pk_z w) (inI6 i (by omega)) true;rw[h1]at h;exact h
  have k0:=hE.k;have hx1:w.cell? ⟨X,1+i,none⟩=some (.int .u64 (c i:Nat)):=spc_cell hE.x (by omega);have h2i:2 ^ i < 64:=Nat.lt_of_lt_of_le (Nat.pow_lt_pow_right (by decide) (show i < 6 by omega)) (by decide);have hsh:IntKind.u64.wrap ((2:Int) ^ i)=((2 ^ i:Nat):Int):=by
   have e:((2:Int) ^ i)=((2 ^ i:Nat):Int):=by simp
   rw[e];generalize 2 ^ i=Q at h2i;exact IntWalk.u64_in _ (by omega)
  have hnot:=not64 hci h2i;obtain⟨ci,hcc⟩:∃ci,c i=ci:=⟨_,rfl⟩
  obtain⟨Q,hQ⟩:∃Q,2 ^ i=Q:=⟨_,rfl⟩
  rw[hcc,hQ]at hnot hgi hq;rw[hQ]at hsh h2i;rw[hcc]at hx1 hci;obtain⟨sb,hsb⟩:∃sb,clear2 ci Q=sb:=⟨_,rfl⟩
  have hsb64:sb < 64:=by rw[<-hsb]; exact clear2_lt hci
  rw[hsb]at hnot hgi hq;have HQ:=Lib.hid hq;have HGI:=Lib.hid hgi;have HE:=Lib.hid hE;have HM:=Lib.hid hm;have HF:=Lib.hid hf;have hle:=hE.le;have b6i:¬(6:Int)<=(i:Int):=by omega
  clear hm hf h1 hE hq hgi hsb hQ hcc;refine(callsIn_wide (n:=9)).1 ?_;refine callsIn_of_wp_marks Tryz.func18 rfl trivial ?_ rfl;simp only[Tryz.ntmps18,List.size_toArray,List.length_cons,List.length_nil,Nat.reduceAdd,Nat.reduceSub,Array.replicate_succ,Array.replicate_zero,List.push_toArray,List.append_toArray,List.nil_append,List.cons_append]
  gi_upto_region 4 with fail
  obtain⟨mo,hmo⟩:∃mo,mo=w.heap.size:=⟨_,rfl⟩
  obtain⟨W0,h0⟩:∃W0,W0=w.alloc (.cells #[.int .i64 1] 3):=⟨_,rfl⟩
  rw[<-h0,<-hmo];have hz0:W0.heap.size=mo+1:=by rw[h0,hmo]; simp
  have BW0:Below w.heap.size w W0:=by rw[h0]; exact(Below.refl _ w).alloc (Nat.le_refl _) _
  have hM0:W0.heap[mo]?=some (.cells #[.int .i64 1] 3 (0,0)):=by rw[h0,hmo]; exact blk_new _ _
  have hx1:=keepc BW0 hx1;have k1:=keepc BW0 k0;have HH0:=Lib.hid h0;have HMO:=Lib.hid hmo;have HM0:=Lib.hid hM0;have HB0:=Lib.hid BW0;clear h0 hM0 k0 hlk hmo BW0;have ki:w.heap.size=mo:=HMO.out.symm;have hb6:i < 6:=by omega
  refine with_actIn fun a0 ha0=>?_;have hsz0:a0.tmps.size=38:=by rw[ha0]; rfl
  refine wpIn_region_last (by kernel_rfl) (by kernel_rfl) [(18,.int .i64 (i:Nat)),(19,.pointer (some ⟨X,1,none⟩)),(20,.pointer (some ⟨X,1+i,none⟩)),(21,.int .u64 (ci:Nat)),(22,.int .i64 (i:Nat)),(23,.int .u64 (Q:Nat)),(24,.int .u64 (sb:Nat))] rfl (by show([18,19,20,21,22,23,24]:List Nat).Nodup; decide) _ rfl rfl (by kernel_rfl) _ hsz0 (by kernel_rfl) ⟨⟨rfl,rfl,?y1v0⟩,⟨rfl,rfl,?y1v1⟩,⟨rfl,rfl,?y1v2⟩,⟨rfl,rfl,?y1v3⟩,⟨rfl,rfl,?y1v4⟩,⟨rfl,rfl,?y1v5⟩,⟨rfl,rfl,?y1v6⟩,trivial⟩ ?y1done
  case y1v0 =>
   intro a' hA hdep;obtain⟨r0,q0⟩:=dpi hA 0 (.int .i64 (i:Nat)) (by kernel_rfl) (by rw[ha0]; rfl);clear hdep ha0 hA;refine⟨about_plain (fun _ h=>nomatch h),?_⟩;simp[go_sem, *]
  case y1v1 =>
   intro a' hA hdep;obtain⟨r2,q2⟩:=dpi hA 2 (.pointer (some ⟨X,0,none⟩)) (by kernel_rfl) (by rw[ha0]; rfl);clear hdep ha0 hA;refine⟨about_plain (fun _ h=>nomatch h),?_⟩;simp[go_sem, *]
  case y1v2 =>
   intro a' hA hdep;obtain⟨r19,q19⟩:=dpv hdep ⟨1,.data⟩ (by simp) rfl rfl;obtain⟨r18,q18⟩:=dpv hdep ⟨0,.data⟩ (by simp) rfl rfl;clear hdep ha0 hA;refine⟨about_plain (fun _ h=>nomatch h),?_⟩;simp[go_sem, *]
  case y1v3 =>
   intro a' hA hdep;obtain⟨r20,q20⟩:=dpv hdep ⟨2,.data⟩ (by simp) rfl rfl;have kc0:(W0).drew.cell? ⟨X,1+i,none⟩=some (.int .u64 (ci:Nat)):=by first | assumption | (go_simp; done) | (simp; done)
   clear hdep ha0 hA;refine⟨about_plain (fun _ h=>nomatch h),?_⟩;simp[go_sem, *]
  case y1v4 =>
   intro a' hA hdep;obtain⟨r0,q0⟩:=dpi hA 0 (.int .i64 (i:Nat)) (by kernel_rfl) (by rw[ha0]; rfl);clear hdep ha0 hA;refine⟨about_plain (fun _ h=>nomatch h),?_⟩;simp[go_sem, *]
  case y1v5 =>
   intro a' hA hdep;obtain⟨r22,q22⟩:=dpv hdep ⟨4,.data⟩ (by simp) rfl rfl;clear hdep ha0 hA;refine⟨about_plain (fun _ h=>nomatch h),?_⟩;simp[go_sem, *]
  case y1v6 =>
   intro a' hA hdep;obtain⟨r21,q21⟩:=dpv hdep ⟨3,.data⟩ (by simp) rfl rfl;obtain⟨r23,q23⟩:=dpv hdep ⟨5,.data⟩ (by simp) rfl rfl;clear hdep ha0 hA;refine⟨about_plain (fun _ h=>nomatch h),?_⟩;simp[go_sem, *]
  rw[ha0]; simp only[putL,Act.put,sA_,sZ_,sS_];clear ha0 hsz0;have BD:Below W0.heap.size W0 W0.drew:=(Below.refl _ W0).drew;have hzd':W0.drew.heap.size=mo+1:=hz0;obtain⟨Wd,hwd⟩:∃Wd,Wd=W0.drew:=⟨_,rfl⟩
  rw[<-hwd]at BD hzd' ⊢;have hzd:Wd.heap.size=mo+1:=hzd';have hMd:=(BD.block mo (by omega)).trans HM0.out;have HBd:=Lib.hid (HB0.out.trans (BD.mono (by omega)));clear hwd hzd' hx1 k1 HM0 HB0 hnot hsh HH0 BD a0
  gi_wp2_with fail
  refine⟨trivial,CallsIn.mono (callsIn_wide.2 (points_any sb _)) ?_⟩;rintro e w' ⟨rfl,hw'⟩;obtain⟨Wc,hWc⟩:∃Wc,Wc=Wd.alloc (.cells #[.int .u64 (sb:Nat)] 49):=⟨_,rfl⟩
  rw[hw',<-hWc,hzd];have hmc:Wc.heap[mo]?=some (.cells #[.int .i64 1] 3 (0,0)):=by rw[hWc]; exact blk_old hMd
  have hnc:Wc.heap[mo+1]?=some (.cells #[.int .u64 (sb:Nat)] 49 (0,0)):=by rw[hWc,<-hzd]; exact blk_new _ _
  have BWc:Below w.heap.size w Wc:=by rw[hWc]; exact HBd.out.alloc (by omega) _
  have hzc:Wc.heap.size=mo+2:=by rw[hWc]; simp; omega
  clear hw' hWc hMd HBd;have HHC:=Lib.hid hnc;have HHM:=Lib.hid hmc;clear hnc hmc
  gi_wp2_with fail
  have hlen6:(ptsN sb).length<=6:=by unfold ptsN; exact Nat.le_trans (List.length_filter_le _ _) (by simp)
  have HL6:=Lib.hid hlen6;have hTc:=HE.out.t.below BWc;have htab:=HE.out.le.1;have hkm:kb < mo:=by omega
  have HI0:=Lib.hid (show VIc w kb mo g (sumG g []) Wc from⟨⟨belx_of BWc,⟨f,HM.out.of_block (BWc.block _ (by omega)),HF.out⟩,HHM.out⟩,by omega⟩);have HTC:=Lib.hid hTc;clear hlen6 hTc HHM HM HF BWc;refine rangeFunc_cell (α:=Nat) (Bn:=mo+1) (gf:=42) (lb:=#[.pointer (some ⟨mo+1,0,none⟩)]) (encs:=fun k=>#[.int .i64 ((k:Nat):Int)]) (xs:=ptsN sb) L (by omega) rfl (by omega) rfl trivial (enters_of Tryz.func42 (by kernel_rfl) rfl) (by omega) (fun x=>rfl)
   (fun l J W hJc hY hB hj=>pointsN_in 8 (by omega) l _ L sb hsb64 J W hJc hY ((hB.block _ (by omega)).trans HHC.out) (by omega) (HTC.out.keep (hB.block _ (by omega))) htab hj)
   (fun pre W=>VIc w kb mo g (sumG g pre) W) (ownFrom_cnt (sumG g) (by omega) (by omega) (by omega))
   (fun pre A y h=>h.cell y (by omega) (by omega) (by omega))
   HI0.out
   (fun x=>{ tmps:=#[.int .i64 (i:Nat),.pointer (some ⟨K,0,none⟩),.pointer (some ⟨X,0,none⟩),.pointer (some ⟨V,0,none⟩),undef,.int .i64 0,.int .i64 0,.bool false,.pointer (some ⟨mo,0,none⟩),.int .i64 ((x:Nat):Int),.tuple #[.int .i64 0,.bool false],.map (some kb),.int .i64 (i:Nat),.tuple #[.int .i64 0,.bool false],.int .i64 0,.bool false,.bool false,.bool true,.int .i64 (i:Nat),.pointer (some ⟨X,1,none⟩),.pointer (some ⟨X,1+i,none⟩),.int .u64 (ci:Nat),.int .i64 (i:Nat),.int .u64 (Q:Nat),.int .u64 (sb:Nat),.func (.func 42) #[] #[.pointer (some ⟨mo+1,0,none⟩)],.int .i64 ((x:Nat):Int),undef,undef,undef,undef,undef,undef,undef,undef,undef,undef,undef],defers:=[] })
   ?assign ?body ?done
  case assign =>
   intro l x W Kq hK;have HK:=Lib.hid hK;clear hK
   gi_wp2
   exact HK.out
  case body =>
   rintro l pre x W hI hpre;obtain⟨⟨hb0,⟨f0,hm0,ok0⟩,hmost⟩,hzw⟩:=id hI;have hx:=hpre.subset (List.mem_append_right _ (List.mem_singleton.2 rfl):x∈pre ++ [x]);have E:=HE.out.keep hb0;have BD:Below W.heap.size W W.drew:=(Below.refl _ W).drew;have v0:=E.v;have m0:=row1_0 hmost;have mf:=row_f hmost;have HC:=Lib.hid (HQ.out x hx W.drew f0 (E.keep (belx_of BD)) (hm0.of_block rfl) ok0);have hpl:pre.length<=5:=by
    have h1:=hpre.length_le;have h2:=HL6.out;rw[List.length_append]at h1;simp at h1;omega
   have hsum:=sumG_le g hg6 pre (by omega);have hgx:=hg6 x;have hsn:=sumG_snoc g pre x;obtain⟨m,hm⟩:∃m,sumG g pre=m:=⟨_,rfl⟩
   obtain⟨gx,hgx'⟩:∃gx,g x=gx:=⟨_,rfl⟩
   rw[hm]at hsum hsn m0;have HM2S:=Lib.hid hm;rw[hgx']at hgx hsn;have HI:=Lib.hid hI;have HSN:=Lib.hid hsn;have HGX:=Lib.hid hgx';have HMO2:=Lib.hid hmost;have HBD:=Lib.hid BD;have HWR:=Lib.hid (show IntKind.i64.wrap (m-gx)=m-gx from IntWalk.i64_in _ (by omega));clear hI hb0 hm0 ok0 hmost E hpre hx hm hgx' hsn hpl BD
   gi_wp2_with fail
   gi_region_with_o ((try refine⟨trivial,?_⟩); gi_at_call 18; refine CallsIn.mono (CallsIn.inRound l (callsIn_wide.2 HC.out)) ?_; rintro e W2 ⟨rfl,hb2,f2,hm2,ok2⟩; rw[HGX.out]; have hbx:BelX [kb] W W2:=belx_trans (belx_of HBD.out) hb2; have hmost2:=(hbx.block mo (by omega) (by simp; omega)).trans HMO2.out; have n0:=row1_0 hmost2; have nf:=row_f hmost2; rw[HM2S.out]at n0; have HBX:=Lib.hid hbx; have HM2:=Lib.hid hm2; have HOK2:=Lib.hid ok2; clear hb2 hm2 ok2 hbx hmost2)
   all_goals
    exact⟨(keepsFrom_belx HBX.out (by omega)).trans ((KeepsOthers.setCell _ _ _).from _),(heap_setCell_other _ _ _ _ (by show mo+1≠mo; omega)).trans (HBX.out.block _ (by omega) (by simp; omega)),(belx_low HBX.out (by omega) (by omega)).setCell (p:=⟨mo,0,none⟩) (by show L<=mo; omega) _,by rw[HWR.out]; show VIc w kb mo g (sumG g (pre ++ [x])) _; rw[HSN.out]; exact HI.out.round HBX.out HM2.out HOK2.out (by omega) (by omega)⟩
  case done =>
   rintro D W hD hI hK;have hI2:VIc w kb mo g (g i) W:=by rw[HGI.out]; exact hI
   obtain⟨o,hp,hlk,hbx,hend⟩:=hI2.done hb6;have m0:=row1_0 hI2.1.2.2;have k0:=(HE.out.keep hI2.1.1).k;have k1:=(HE.out.keep hbx).k;have HEND:=Lib.hid (hend D (by omega) (by omega));have hKD:(setBlock W kb o).heap[D]?=some (.deferred (some [])):=(sb_other (by omega)).trans hK;have HKD:=Lib.hid hKD;obtain⟨gi,hgi⟩:∃gi,g i=gi:=⟨_,rfl⟩
   rw[hgi]at hp hlk m0 HEND;clear hend hI hI2 hK hKD hbx hgi HGI HQ
   gi_wp2
   refine⟨by simp,.inl ⟨_,_,rfl,run_takeDeferred HKD.out,?_⟩⟩;exact⟨.int .i64 gi,by simp[results,Tryz.results18,go_sem],HEND.out⟩
 · refine(cnt_known i (by omega) (g i) K X V kb L n c f w hE hm h1).mono ?_;rintro e w' ⟨rfl,rfl⟩;exact⟨rfl,belx_of (Below.refl _ _),f,hm,hf⟩
end Go.Proofs.YtaffkceklkdokaaGreatDoor
