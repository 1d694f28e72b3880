/- How many letters can come from a state: the recursive walk. -/
import Derived.Test.YtaffkceklkdokaaGreatDoorT44
import Derived.Test.YtaffkceklkdokaaGreatDoorZ1
set_option maxRecDepth 100000
set_option maxHeartbeats 4000000
namespace Go.Proofs.YtaffkceklkdokaaGreatDoor
open Go.RowKit Go.Shelf Go.ChangeMaps
attribute [local go_sem] Oper.semAt_some
def LG:Nat->Int
 | 0=>2 | 1=>0 | 2=>1 | _=>0
abbrev VisF (K M V:Nat):Value:=.func (.func 139) #[] #[.pointer (some ⟨K,0,none⟩),.pointer (some ⟨M,0,none⟩),.pointer (some ⟨V,0,none⟩)]
/-- what the closure has captured -/
structure Env (W:World) (K M V kb mb L:Nat):Prop where
 k:W.cell? ⟨K,0,none⟩=some (.map (some kb))
 m:W.cell? ⟨M,0,none⟩=some (.pointer (some ⟨mb,0,none⟩))
 v:W.cell? ⟨V,0,none⟩=some (VisF K M V)
 ne:K≠kb/\M≠kb/\V≠kb
 le:L<=kb/\kb < W.heap.size/\K < W.heap.size/\M < W.heap.size/\V < W.heap.size
theorem Env.keep {W W':World} {K M V kb mb L:Nat} (h:Env W K M V kb mb L) (hb:BelX [kb] W W'):Env W' K M V kb mb L:=by
 have hs:=hb.size;exact⟨hb.cell (by simp; exact h.ne.1) h.k,hb.cell (by simp; exact h.ne.2.1) h.m,hb.cell (by simp; exact h.ne.2.2) h.v,h.ne,h.le.1,by have:=h.le; omega,by have:=h.le; omega,by have:=h.le; omega,by have:=h.le; omega⟩
def OKf (R:Nat->Prop) (f:Int->Option Value):Prop:=∀j:Nat,j < 4->f j=none∨f j=some (.int .i64 (LG j))∨(R j/\f j=some (.int .i64 (-2)))
theorem OKf.way {R:Nat->Prop} {f:Int->Option Value} (h:OKf R f) (i:Nat):OKf (fun j=>R j∨j=i) (fun j=>if j=(i:Int) then some (.int .i64 (-2)) else f j):=by
 intro j hj
 by_cases e:(j:Int)=i
 · exact .inr (.inr ⟨.inr (by omega),if_pos e⟩)
 ·
  dsimp only;rw[if_neg e];rcases h j hj with h | h | ⟨h,h'⟩
  · exact .inl h
  · exact .inr (.inl h)
  · exact .inr (.inr ⟨.inl h,h'⟩)
theorem OKf.done {R:Nat->Prop} {f:Int->Option Value} {i:Nat} (h:OKf (fun j=>R j∨j=i) f):OKf R (fun j=>if j=(i:Int) then some (.int .i64 (LG i)) else f j):=by
 intro j hj
 by_cases e:(j:Int)=i
 ·
  have:j=i:=by omega
  subst this;exact .inr (.inl (if_pos e))
 ·
  dsimp only;rw[if_neg e];rcases h j hj with h | h | ⟨h,h'⟩
  · exact .inl h
  · exact .inr (.inl h)
  ·
   rcases h with h | h
   · exact .inr (.inr ⟨h,h'⟩)
   · omega
theorem belx_trans {bs:List Nat} {A B C:World} (h:BelX bs A B) (h2:BelX bs B C):BelX bs A C :=
 ⟨h2.os.trans h.os,h2.tape.trans h.tape,h2.output.trans h.output,Nat.le_trans h.size h2.size,fun k hk hn=>(h2.block k (by have:=h.size; omega) hn).trans (h.block k hk hn)⟩
theorem belx_of {bs:List Nat} {A B:World} (h:Below A.heap.size A B):BelX bs A B:=⟨h.os,h.tape,h.output,h.size,fun k hk _=>h.block k hk⟩
theorem belx_low {kb L:Nat} {A B:World} (h:BelX [kb] A B) (hk:L<=kb) (hL:L<=A.heap.size):Below L A B:=⟨h.os,h.tape,h.output,h.size,fun k hk2=>h.block k (by omega) (by simp; omega)⟩
theorem inI4 (i:Nat) (h:i < 4):InInt (i:Int):=by unfold InInt; omega
theorem visit_known (i:Nat) (hi:i < 4) (n:Int) (hn:0<=n) (K M V kb mb L:Nat) (f:Int->Option Value) (w:World) (hE:Env w K M V kb mb L) (hm:MapIs w kb f) (hf:f i=some (.int .i64 n)) :
  Calls Tryz.prog 139 #[.int .i64 (i:Nat),.pointer (some ⟨K,0,none⟩),.pointer (some ⟨M,0,none⟩),.pointer (some ⟨V,0,none⟩)] w fun e w'=>e=.returned (.int .i64 n)/\w=w':=by
 have hlk:=hm.look Tryz.underlying3 Tryz.underlying55 (pk_z w) (inI4 i hi) true;rw[hf]at hlk;have hlk':(Instr.lookup 55 (.map (some kb)) (.int .i64 (i:Nat)) true).run Tryz.prog w=.ok (.tuple #[.int .i64 n,.bool true]) w:=hlk;have hmx:max n (-1)=n:=by omega
 have k0:=hE.k;clear hlk hf hm hE;refine(callsIn_wide (n:=9)).1 ?_;refine callsIn_of_wp_marks Tryz.func139 rfl trivial ?_ rfl;simp only[Tryz.ntmps139,List.size_toArray,List.length_cons,List.length_nil,Nat.reduceAdd,Nat.reduceSub,Array.replicate_succ,Array.replicate_zero,List.push_toArray,List.append_toArray,List.nil_append,List.cons_append]
 gi_wp2
 exact⟨.int .i64 n,by simp[results,Tryz.results139,go_sem],rfl,rfl⟩
/-- within the walk of a state -/
def VI (w:World) (kb mo:Nat) (R:Nat->Prop) (m:Int) (W:World):Prop:=BelX [kb] w W/\(∃f,MapIs W kb f/\OKf R f)/\W.heap[mo]?=some (.cells #[.int .i64 m] 3 (0,0))
theorem ownFrom_visit {β : Type} {B kb mo:Nat} {w:World} {R:Nat->Prop} (ms : β->Int) (hkb:kb < B) (hmo:mo < B) (hw:w.heap.size<=B):OwnFrom B (fun s W=>VI w kb mo R (ms s) W):=by
 rintro s X Y row ⟨hb,⟨f,hm,ok⟩,hmost⟩ hg hr;have hne:∀k,k < B->some k≠row:=fun k hk e=>by have:=(hr k e.symm).1; omega
 exact⟨⟨hg.os.trans hb.os,hg.tape.trans hb.tape,hg.output.trans hb.output,Nat.le_trans hb.size hg.size,fun k hk hn=>(hg.block k (by have:=hb.size; omega) (hne k (by omega))).trans (hb.block k hk hn)⟩,
  ⟨f,hm.of_block (hg.block kb hm.lt (hne kb hkb)),ok⟩,(hg.block mo (blk_lt hmost) (hne mo hmo)).trans hmost⟩
theorem keepsFrom_belx {kb B:Nat} {W W':World} (h:BelX [kb] W W') (hk:kb < B):KeepsFrom B W W':=⟨h.size,fun k o hB ho _=>(h.block k (blk_lt ho) (by simp; omega)).trans ho⟩
def VPost (w:World) (kb i:Nat) (R:Nat->Prop) (e:Ending) (w':World):Prop:=e=.returned (.int .i64 (LG i))/\BelX [kb] w w'/\∃f,MapIs w' kb f/\OKf R f/\f i=some (.int .i64 (LG i))
theorem OKf.at {R:Nat->Prop} {f:Int->Option Value} (h:OKf R f) {i:Nat} (hi:i < 4) (hR:¬R i):f i=none∨f i=some (.int .i64 (LG i)):=by
 rcases h i hi with h | h | h
 · exact .inl h
 · exact .inr h
 · exact absurd h.1 hR
theorem LG_nonneg (i:Nat):0<=LG i:=by
 match i with
 | 0=>decide
 | 1=>decide
 | 2=>decide
 | _+3=>exact Int.le_refl 0
theorem VI.alloc {w W:World} {kb mo:Nat} {R:Nat->Prop} {m:Int} (h:VI w kb mo R m W) (o:Obj):VI w kb mo R m (W.alloc o):=by
 obtain⟨hb,⟨f,hm,ok⟩,hmost⟩:=h;exact⟨hb.alloc o,⟨f,hm.of_block ((blk_old (show W.heap[kb]?=some _ from(Array.getElem?_eq_getElem hm.lt))).trans (Array.getElem?_eq_getElem hm.lt).symm),ok⟩,blk_old hmost⟩
/-- the walk of a state ends -/
theorem VI.done {w W:World} {kb mo i:Nat} {R:Nat->Prop} (hi:i < 4) (h:VI w kb mo (fun j=>R j∨j=i) (LG i) W) (hkb:kb≠mo) :
  ∃o,(Instr.mapUpdate 55 (.map (some kb)) (.int .i64 (i:Nat)) (.int .i64 (LG i))).run Tryz.prog W=.ok () (setBlock W kb o)/\(setBlock W kb o).cell? ⟨mo,0,none⟩=some (.int .i64 (LG i)) /\
   ∀D,w.heap.size<=D->D≠kb->BelX [kb] w ((setBlock W kb o).putObj D (.deferred none))/\∃f,MapIs ((setBlock W kb o).putObj D (.deferred none)) kb f/\OKf R f/\f i=some (.int .i64 (LG i)):=by
 obtain⟨hb,⟨f,hm,ok⟩,hmost⟩:=h;obtain⟨o,h1,h2⟩:=hm.put Tryz.underlying3 Tryz.underlying55 (inI4 i hi) (.int .i64 (LG i));refine⟨o,h1,(cell_of_row _ mo 0 _ _ _ ((sb_other (Ne.symm hkb)).trans hmost)).trans rfl,fun D hD hne=>⟨?_,_,h2.of_block (World.putObj_heap_other (Ne.symm hne)),ok.done,if_pos rfl⟩⟩;have hs:=hb.setBlk (b:=kb) (by simp) o;exact⟨hs.os,hs.tape,hs.output,by have:=hs.size; simpa[World.putObj]using this,fun k hk hn=>(World.putObj_heap_other (by omega)).trans (hs.block k hk hn)⟩
theorem visit_1 (R:Nat->Prop) (hR:¬R 1) (K M V kb mb L gs cs gn cn:Nat) (r c:Nat->Nat) (f:Int->Option Value) (w:World) (hE:Env w K M V kb mb L) (hMa:Mach w L mb gs cs gn cn r c) (hm:MapIs w kb f) (hf:OKf R f) :
  Calls Tryz.prog 139 #[.int .i64 1,.pointer (some ⟨K,0,none⟩),.pointer (some ⟨M,0,none⟩),.pointer (some ⟨V,0,none⟩)] w fun e w'=>VPost w kb 1 R e w':=by
 rcases hf.at (i:=1) (by decide) hR with h1 | h1
 ·
  have hlk:(Instr.lookup 55 (.map (some kb)) (.int .i64 1) true).run Tryz.prog w=.ok (.tuple #[.int .i64 0,.bool false]) w:=by
   have h:=hm.look Tryz.underlying3 Tryz.underlying55 (pk_z w) (inI4 1 (by decide)) true;rw[h1]at h;exact h
  obtain⟨o1,hp1,hm1⟩:=hm.put Tryz.underlying3 Tryz.underlying55 (inI4 1 (by decide)) (.int .i64 (-2));have hp1':(Instr.mapUpdate 55 (.map (some kb)) (.int .i64 1) (.int .i64 (-2))).run Tryz.prog w=.ok () (setBlock w kb o1):=hp1;obtain⟨W1,hW1⟩:∃W1,W1=setBlock w kb o1:=⟨_,rfl⟩
  rw[<-hW1]at hp1' hm1;have b1:BelX [kb] w W1:=by rw[hW1]; exact(belx_of (Below.refl _ w)).setBlk (by simp) o1
  have hwz:W1.heap.size=w.heap.size:=by rw[hW1]; simp[setBlock]
  have ok1:=hf.way 1;have E1:=hE.keep b1;have M1:Mach W1 L mb gs cs gn cn r c:=hMa.keep (fun k hk=>b1.block k (by have:=hE.le; omega) (by have:=hE.le; simp; omega));have k0:=hE.k;have k1:=E1.k;have k2:=E1.m;have hle:=E1.le;have HM1:=Lib.hid hm1;have HOK1:=Lib.hid ok1;have HMA:=Lib.hid M1;have HE1:=Lib.hid E1;have HB1:=Lib.hid b1;have HE:=Lib.hid hE;have HWZ:=Lib.hid hwz;clear hm hf h1 hp1 hm1 hW1 ok1 M1 E1 hMa hE b1 hwz;refine(callsIn_wide (n:=9)).1 ?_;refine callsIn_of_wp_marks Tryz.func139 rfl trivial ?_ rfl;simp only[Tryz.ntmps139,List.size_toArray,List.length_cons,List.length_nil,Nat.reduceAdd,Nat.reduceSub,Array.replicate_succ,Array.replicate_zero,List.push_toArray,List.append_toArray,List.nil_append,List.cons_append]
  gi_wp2_with (first
   | (refine⟨trivial,?_⟩; gi_at_call 115; refine CallsIn.mono (callsIn_wide.2 (steps_ok _ _ _)) ?_; rintro e w' ⟨rfl,rfl⟩)
   | fail)
  obtain⟨mo,hmo⟩:∃mo,mo=W1.heap.size:=⟨_,rfl⟩
  obtain⟨W0,h0⟩:∃W0,W0=(((W1.alloc (.cells #[.int .i64 0] 3)).alloc (.cells #[.pointer (some ⟨mb,0,none⟩)] 177)).alloc (.cells #[.int .i64 1] 3)):=⟨_,rfl⟩
  rw[<-hmo,<-h0];have VI0:VI w kb mo (fun j=>R j∨j=1) 0 W0:=by
   rw[h0,hmo];exact VI.alloc (VI.alloc ⟨HB1.out.alloc _,⟨_,HM1.out.of_block ((blk_old (Array.getElem?_eq_getElem HM1.out.lt)).trans (Array.getElem?_eq_getElem HM1.out.lt).symm),HOK1.out⟩,blk_new _ _⟩ _) _
  have g0:W0.heap[mo+1]?=some (.cells #[.pointer (some ⟨mb,0,none⟩)] 177 (0,0)):=by rw[h0,hmo]; exact(by repeat (first | assumption | (with_reducible apply blk_set2) | (with_reducible apply blk_set1) | (with_reducible refine blk_far2 ?_ ?_; (first | omega | (simp; done) | (simp; omega))) | (with_reducible refine blk_far1 ?_ ?_; (first | omega | (simp; done) | (simp; omega))) | (with_reducible refine blk_new' _ _ ?_; (first | omega | (simp; done) | (simp; omega))) | (with_reducible refine blk_old ?_) | (with_reducible refine blk_drew ?_)))
  have g1:W0.heap[mo+1+1]?=some (.cells #[.int .i64 1] 3 (0,0)):=by rw[h0,hmo]; exact(by repeat (first | assumption | (with_reducible apply blk_set2) | (with_reducible apply blk_set1) | (with_reducible refine blk_far2 ?_ ?_; (first | omega | (simp; done) | (simp; omega))) | (with_reducible refine blk_far1 ?_ ?_; (first | omega | (simp; done) | (simp; omega))) | (with_reducible refine blk_new' _ _ ?_; (first | omega | (simp; done) | (simp; omega))) | (with_reducible refine blk_old ?_) | (with_reducible refine blk_drew ?_)))
  have M0:Mach W0 L mb gs cs gn cn r c:=HMA.out.keep (fun k hk=>by rw[h0]; exact(blk_old (blk_old (blk_old (Array.getElem?_eq_getElem (by omega:k < W1.heap.size))))).trans (Array.getElem?_eq_getElem (by omega:k < W1.heap.size)).symm);have hsz:W0.heap.size=mo+3:=by rw[h0,hmo]; simp
  have hwm:w.heap.size=mo:=HWZ.out.symm.trans hmo.symm;have hkm:kb < mo:=by have:=hle.2.1; omega
  have hLm:L<=mo:=by omega
  clear h0 k0 k1 k2 HMA HM1 HOK1 HE1 HB1 hlk hp1' hle HWZ hmo;refine wpIn_rangeFunc_ownH (α:=Unit) rfl (by omega) (gf:=140) (lb:=#[.pointer (some ⟨mo+1,0,none⟩),.pointer (some ⟨mo+1+1,0,none⟩)]) rfl trivial (enters_of Tryz.func140 (by kernel_rfl) rfl)
   (encs:=enU) (Kp:=Below L) (S:=fun ys=>ys=p0 2) (Sp:=fun _=>True) (N:=0) (w0:=W0)
   (fun l J Jx W hW hJ _ hY h0=>steps1_1 8 (by omega) l _ _ L mb gs cs gn cn r c J Jx W hJ hY (row1_0 ((hW.block _ (by omega)).trans g0)) (row1_0 ((hW.block _ (by omega)).trans g1)) (M0.keep (fun k hk=>hW.block k (by omega))) h0)
   (fun h1 h2=>h1.trans h2) (belowK_b (by omega)) (Below.refl _ _) (fun x=>rfl)
   (fun pre W=>VI w kb mo (fun j=>R j∨j=1) ((fun _=>(0:Int)) pre) W) (fun _ _ _=>False)
   (ownFrom_visit (fun _=>(0:Int)) (by omega) (by omega) (by omega))
   (fun _ _ _ _ _ hs _ _=>hs)
   VI0
   (fun x a' W=>a' = { tmps:=#[.int .i64 1,.pointer (some ⟨K,0,none⟩),.pointer (some ⟨M,0,none⟩),.pointer (some ⟨V,0,none⟩),undef,.int .i64 0,.int .i64 0,.bool false,.pointer (some ⟨mo,0,none⟩),undef,(enU x).getD 1 undef,undef,.tuple #[.int .i64 0,.bool false],.map (some kb),.int .i64 1,.tuple #[.int .i64 0,.bool false],.int .i64 0,.bool false,.bool false,undef,undef,.map (some kb),.int .i64 1,.pointer (some ⟨mb,0,none⟩),.int .i64 1,.func (.func 140) #[] #[.pointer (some ⟨mo+1,0,none⟩),.pointer (some ⟨mo+1+1,0,none⟩)],(enU x).getD 0 undef,(enU x).getD 1 undef,undef,undef,undef,undef,undef,undef,undef,undef,undef,undef,undef,undef,undef],defers:=[] })
   (fun x a' _ X Y row hs hg hr=>hs)
   ?assign ?body ?done ?stop
  case assign =>
   rintro l pre x W Kq hI hK;have HK:=Lib.hid hK;have HI:=Lib.hid hI;clear hK hI;simp only[enU];all_goals
    gi_wp2
    exact HK.out _ _ ((KeepsOthers.refl _).from _) (Below.refl _ _) HI.out rfl
  case body =>
   rintro l pre x a' W hl ⟨rr,hrr⟩ hI rfl hlt;exact absurd hlt (by simp)
  case done =>
   rintro D zs W hD rfl hI hK;have hI':VI w kb mo (fun j=>R j∨j=1) (LG 1) W:=hI;obtain⟨o,hp,hmc,hend⟩:=hI'.done (by decide) (by omega);have hp':(Instr.mapUpdate 55 (.map (some kb)) (.int .i64 1) (.int .i64 0)).run Tryz.prog W=.ok () (setBlock W kb o):=hp;have hmc':(setBlock W kb o).cell? ⟨mo,0,none⟩=some (.int .i64 0):=hmc;have m0:W.cell? ⟨mo,0,none⟩=some (.int .i64 0):=row1_0 hI'.2.2;have k0:=(HE.out.keep hI'.1).k;have HEND:=Lib.hid (hend D (by omega) (by omega));have hKD:(setBlock W kb o).heap[D]?=some (.deferred (some [])):=(sb_other (by omega)).trans hK;have HKD:=Lib.hid hKD;clear hp hmc hend hI hI' hK hKD VI0 g0 g1 M0
   gi_wp2
   refine⟨by simp,.inl ⟨_,_,rfl,run_takeDeferred HKD.out,?_⟩⟩;exact⟨.int .i64 0,by simp[results,Tryz.results139,go_sem],rfl,HEND.out.1,HEND.out.2⟩
  case stop =>
   rintro D cc pre W _ _ h _;exact h.elim
 · refine(visit_known 1 (by decide) _ (LG_nonneg 1) K M V kb mb L f w hE hm h1).mono ?_;rintro e w' ⟨rfl,rfl⟩;exact⟨rfl,belx_of (Below.refl _ _),f,hm,hf,h1⟩
theorem visit_3 (R:Nat->Prop) (hR:¬R 3) (K M V kb mb L gs cs gn cn:Nat) (r c:Nat->Nat) (f:Int->Option Value) (w:World) (hE:Env w K M V kb mb L) (hMa:Mach w L mb gs cs gn cn r c) (hm:MapIs w kb f) (hf:OKf R f) :
  Calls Tryz.prog 139 #[.int .i64 3,.pointer (some ⟨K,0,none⟩),.pointer (some ⟨M,0,none⟩),.pointer (some ⟨V,0,none⟩)] w fun e w'=>VPost w kb 3 R e w':=by
 rcases hf.at (i:=3) (by decide) hR with h1 | h1
 ·
  have hlk:(Instr.lookup 55 (.map (some kb)) (.int .i64 3) true).run Tryz.prog w=.ok (.tuple #[.int .i64 0,.bool false]) w:=by
   have h:=hm.look Tryz.underlying3 Tryz.underlying55 (pk_z w) (inI4 3 (by decide)) true;rw[h1]at h;exact h
  obtain⟨o1,hp1,hm1⟩:=hm.put Tryz.underlying3 Tryz.underlying55 (inI4 3 (by decide)) (.int .i64 (-2));have hp1':(Instr.mapUpdate 55 (.map (some kb)) (.int .i64 3) (.int .i64 (-2))).run Tryz.prog w=.ok () (setBlock w kb o1):=hp1;obtain⟨W1,hW1⟩:∃W1,W1=setBlock w kb o1:=⟨_,rfl⟩
  rw[<-hW1]at hp1' hm1;have b1:BelX [kb] w W1:=by rw[hW1]; exact(belx_of (Below.refl _ w)).setBlk (by simp) o1
  have hwz:W1.heap.size=w.heap.size:=by rw[hW1]; simp[setBlock]
  have ok1:=hf.way 3;have E1:=hE.keep b1;have M1:Mach W1 L mb gs cs gn cn r c:=hMa.keep (fun k hk=>b1.block k (by have:=hE.le; omega) (by have:=hE.le; simp; omega));have k0:=hE.k;have k1:=E1.k;have k2:=E1.m;have hle:=E1.le;have HM1:=Lib.hid hm1;have HOK1:=Lib.hid ok1;have HMA:=Lib.hid M1;have HE1:=Lib.hid E1;have HB1:=Lib.hid b1;have HE:=Lib.hid hE;have HWZ:=Lib.hid hwz;clear hm hf h1 hp1 hm1 hW1 ok1 M1 E1 hMa hE b1 hwz;refine(callsIn_wide (n:=9)).1 ?_;refine callsIn_of_wp_marks Tryz.func139 rfl trivial ?_ rfl;simp only[Tryz.ntmps139,List.size_toArray,List.length_cons,List.length_nil,Nat.reduceAdd,Nat.reduceSub,Array.replicate_succ,Array.replicate_zero,List.push_toArray,List.append_toArray,List.nil_append,List.cons_append]
  gi_wp2_with (first
   | (refine⟨trivial,?_⟩; gi_at_call 115; refine CallsIn.mono (callsIn_wide.2 (steps_ok _ _ _)) ?_; rintro e w' ⟨rfl,rfl⟩)
   | fail)
  obtain⟨mo,hmo⟩:∃mo,mo=W1.heap.size:=⟨_,rfl⟩
  obtain⟨W0,h0⟩:∃W0,W0=(((W1.alloc (.cells #[.int .i64 0] 3)).alloc (.cells #[.pointer (some ⟨mb,0,none⟩)] 177)).alloc (.cells #[.int .i64 3] 3)):=⟨_,rfl⟩
  rw[<-hmo,<-h0];have VI0:VI w kb mo (fun j=>R j∨j=3) 0 W0:=by
   rw[h0,hmo];exact VI.alloc (VI.alloc ⟨HB1.out.alloc _,⟨_,HM1.out.of_block ((blk_old (Array.getElem?_eq_getElem HM1.out.lt)).trans (Array.getElem?_eq_getElem HM1.out.lt).symm),HOK1.out⟩,blk_new _ _⟩ _) _
  have g0:W0.heap[mo+1]?=some (.cells #[.pointer (some ⟨mb,0,none⟩)] 177 (0,0)):=by rw[h0,hmo]; exact(by repeat (first | assumption | (with_reducible apply blk_set2) | (with_reducible apply blk_set1) | (with_reducible refine blk_far2 ?_ ?_; (first | omega | (simp; done) | (simp; omega))) | (with_reducible refine blk_far1 ?_ ?_; (first | omega | (simp; done) | (simp; omega))) | (with_reducible refine blk_new' _ _ ?_; (first | omega | (simp; done) | (simp; omega))) | (with_reducible refine blk_old ?_) | (with_reducible refine blk_drew ?_)))
  have g1:W0.heap[mo+1+1]?=some (.cells #[.int .i64 3] 3 (0,0)):=by rw[h0,hmo]; exact(by repeat (first | assumption | (with_reducible apply blk_set2) | (with_reducible apply blk_set1) | (with_reducible refine blk_far2 ?_ ?_; (first | omega | (simp; done) | (simp; omega))) | (with_reducible refine blk_far1 ?_ ?_; (first | omega | (simp; done) | (simp; omega))) | (with_reducible refine blk_new' _ _ ?_; (first | omega | (simp; done) | (simp; omega))) | (with_reducible refine blk_old ?_) | (with_reducible refine blk_drew ?_)))
  have M0:Mach W0 L mb gs cs gn cn r c:=HMA.out.keep (fun k hk=>by rw[h0]; exact(blk_old (blk_old (blk_old (Array.getElem?_eq_getElem (by omega:k < W1.heap.size))))).trans (Array.getElem?_eq_getElem (by omega:k < W1.heap.size)).symm);have hsz:W0.heap.size=mo+3:=by rw[h0,hmo]; simp
  have hwm:w.heap.size=mo:=HWZ.out.symm.trans hmo.symm;have hkm:kb < mo:=by have:=hle.2.1; omega
  have hLm:L<=mo:=by omega
  clear h0 k0 k1 k2 HMA HM1 HOK1 HE1 HB1 hlk hp1' hle HWZ hmo;refine wpIn_rangeFunc_ownH (α:=Unit) rfl (by omega) (gf:=140) (lb:=#[.pointer (some ⟨mo+1,0,none⟩),.pointer (some ⟨mo+1+1,0,none⟩)]) rfl trivial (enters_of Tryz.func140 (by kernel_rfl) rfl)
   (encs:=enU) (Kp:=Below L) (S:=fun ys=>ys=p0 2) (Sp:=fun _=>True) (N:=0) (w0:=W0)
   (fun l J Jx W hW hJ _ hY h0=>steps1_3 8 (by omega) l _ _ L mb gs cs gn cn r c J Jx W hJ hY (row1_0 ((hW.block _ (by omega)).trans g0)) (row1_0 ((hW.block _ (by omega)).trans g1)) (M0.keep (fun k hk=>hW.block k (by omega))) h0)
   (fun h1 h2=>h1.trans h2) (belowK_b (by omega)) (Below.refl _ _) (fun x=>rfl)
   (fun pre W=>VI w kb mo (fun j=>R j∨j=3) ((fun _=>(0:Int)) pre) W) (fun _ _ _=>False)
   (ownFrom_visit (fun _=>(0:Int)) (by omega) (by omega) (by omega))
   (fun _ _ _ _ _ hs _ _=>hs)
   VI0
   (fun x a' W=>a' = { tmps:=#[.int .i64 3,.pointer (some ⟨K,0,none⟩),.pointer (some ⟨M,0,none⟩),.pointer (some ⟨V,0,none⟩),undef,.int .i64 0,.int .i64 0,.bool false,.pointer (some ⟨mo,0,none⟩),undef,(enU x).getD 1 undef,undef,.tuple #[.int .i64 0,.bool false],.map (some kb),.int .i64 3,.tuple #[.int .i64 0,.bool false],.int .i64 0,.bool false,.bool false,undef,undef,.map (some kb),.int .i64 3,.pointer (some ⟨mb,0,none⟩),.int .i64 3,.func (.func 140) #[] #[.pointer (some ⟨mo+1,0,none⟩),.pointer (some ⟨mo+1+1,0,none⟩)],(enU x).getD 0 undef,(enU x).getD 1 undef,undef,undef,undef,undef,undef,undef,undef,undef,undef,undef,undef,undef,undef],defers:=[] })
   (fun x a' _ X Y row hs hg hr=>hs)
   ?assign ?body ?done ?stop
  case assign =>
   rintro l pre x W Kq hI hK;have HK:=Lib.hid hK;have HI:=Lib.hid hI;clear hK hI;simp only[enU];all_goals
    gi_wp2
    exact HK.out _ _ ((KeepsOthers.refl _).from _) (Below.refl _ _) HI.out rfl
  case body =>
   rintro l pre x a' W hl ⟨rr,hrr⟩ hI rfl hlt;exact absurd hlt (by simp)
  case done =>
   rintro D zs W hD rfl hI hK;have hI':VI w kb mo (fun j=>R j∨j=3) (LG 3) W:=hI;obtain⟨o,hp,hmc,hend⟩:=hI'.done (by decide) (by omega);have hp':(Instr.mapUpdate 55 (.map (some kb)) (.int .i64 3) (.int .i64 0)).run Tryz.prog W=.ok () (setBlock W kb o):=hp;have hmc':(setBlock W kb o).cell? ⟨mo,0,none⟩=some (.int .i64 0):=hmc;have m0:W.cell? ⟨mo,0,none⟩=some (.int .i64 0):=row1_0 hI'.2.2;have k0:=(HE.out.keep hI'.1).k;have HEND:=Lib.hid (hend D (by omega) (by omega));have hKD:(setBlock W kb o).heap[D]?=some (.deferred (some [])):=(sb_other (by omega)).trans hK;have HKD:=Lib.hid hKD;clear hp hmc hend hI hI' hK hKD VI0 g0 g1 M0
   gi_wp2
   refine⟨by simp,.inl ⟨_,_,rfl,run_takeDeferred HKD.out,?_⟩⟩;exact⟨.int .i64 0,by simp[results,Tryz.results139,go_sem],rfl,HEND.out.1,HEND.out.2⟩
  case stop =>
   rintro D cc pre W _ _ h _;exact h.elim
 · refine(visit_known 3 (by decide) _ (LG_nonneg 3) K M V kb mb L f w hE hm h1).mono ?_;rintro e w' ⟨rfl,rfl⟩;exact⟨rfl,belx_of (Below.refl _ _),f,hm,hf,h1⟩
open Go.RowKit Go.Shelf Go.ChangeMaps
attribute [local go_sem] Oper.semAt_some
theorem VI.round {w W W2:World} {kb mo:Nat} {R:Nat->Prop} {m m':Int} {f2:Int->Option Value} (h:VI w kb mo R m W) (hb:BelX [kb] W W2) (hm:MapIs W2 kb f2) (ok:OKf R f2) (hmo:w.heap.size<=mo) (hne:kb≠mo) :
  VI w kb mo R m' (W2.setCell ⟨mo,0,none⟩ (.int .i64 m')):=by
 obtain⟨hb0,-,hmost⟩:=h;have hmost2:W2.heap[mo]?=some (.cells #[.int .i64 m] 3 (0,0)):=(hb.block _ (blk_lt hmost) (by simp; omega)).trans hmost;exact⟨(belx_trans hb0 hb).setNew (p:=⟨mo,0,none⟩) hmo _,⟨f2,hm.of_block (heap_setCell_other _ _ _ _ hne),ok⟩,(blk_setI 0 _ hmost2).trans rfl⟩
def ms2:List Unit->Int
 | []=>0 | _=>1
def ms0 (pre:List Bool):Int:=pre.foldl (fun m x=>max m (if x then 2 else 1)) 0
theorem visit_2 (R:Nat->Prop) (hR:¬R 2) (hR3:¬R 3) (K M V kb mb L gs cs gn cn:Nat) (r c:Nat->Nat) (f:Int->Option Value) (w:World) (hE:Env w K M V kb mb L) (hMa:Mach w L mb gs cs gn cn r c) (hm:MapIs w kb f) (hf:OKf R f) :
  Calls Tryz.prog 139 #[.int .i64 2,.pointer (some ⟨K,0,none⟩),.pointer (some ⟨M,0,none⟩),.pointer (some ⟨V,0,none⟩)] w fun e w'=>VPost w kb 2 R e w':=by
 rcases hf.at (i:=2) (by decide) hR with h1 | h1
 ·
  have hlk:(Instr.lookup 55 (.map (some kb)) (.int .i64 2) true).run Tryz.prog w=.ok (.tuple #[.int .i64 0,.bool false]) w:=by
   have h:=hm.look Tryz.underlying3 Tryz.underlying55 (pk_z w) (inI4 2 (by decide)) true;rw[h1]at h;exact h
  obtain⟨o1,hp1,hm1⟩:=hm.put Tryz.underlying3 Tryz.underlying55 (inI4 2 (by decide)) (.int .i64 (-2));have hp1':(Instr.mapUpdate 55 (.map (some kb)) (.int .i64 2) (.int .i64 (-2))).run Tryz.prog w=.ok () (setBlock w kb o1):=hp1;obtain⟨W1,hW1⟩:∃W1,W1=setBlock w kb o1:=⟨_,rfl⟩
  rw[<-hW1]at hp1' hm1;have b1:BelX [kb] w W1:=by rw[hW1]; exact(belx_of (Below.refl _ w)).setBlk (by simp) o1
  have hwz:W1.heap.size=w.heap.size:=by rw[hW1]; simp[setBlock]
  have ok1:=hf.way 2;have E1:=hE.keep b1;have M1:Mach W1 L mb gs cs gn cn r c:=hMa.keep (fun k hk=>b1.block k (by have:=hE.le; omega) (by have:=hE.le; simp; omega));have k0:=hE.k;have k1:=E1.k;have k2:=E1.m;have hle:=E1.le;have HM1:=Lib.hid hm1;have HOK1:=Lib.hid ok1;have HMA:=Lib.hid M1;have HE1:=Lib.hid E1;have HB1:=Lib.hid b1;have HE:=Lib.hid hE;have HMAw:=Lib.hid hMa;have HWZ:=Lib.hid hwz;clear hm hf h1 hp1 hm1 hW1 ok1 M1 E1 hMa hE b1 hwz;refine(callsIn_wide (n:=9)).1 ?_;refine callsIn_of_wp_marks Tryz.func139 rfl trivial ?_ rfl;simp only[Tryz.ntmps139,List.size_toArray,List.length_cons,List.length_nil,Nat.reduceAdd,Nat.reduceSub,Array.replicate_succ,Array.replicate_zero,List.push_toArray,List.append_toArray,List.nil_append,List.cons_append]
  gi_wp2_with (first
   | (refine⟨trivial,?_⟩; gi_at_call 115; refine CallsIn.mono (callsIn_wide.2 (steps_ok _ _ _)) ?_; rintro e w' ⟨rfl,rfl⟩)
   | fail)
  obtain⟨mo,hmo⟩:∃mo,mo=W1.heap.size:=⟨_,rfl⟩
  obtain⟨W0,h0⟩:∃W0,W0=(((W1.alloc (.cells #[.int .i64 0] 3)).alloc (.cells #[.pointer (some ⟨mb,0,none⟩)] 177)).alloc (.cells #[.int .i64 2] 3)):=⟨_,rfl⟩
  rw[<-hmo,<-h0];have VI0:VI w kb mo (fun j=>R j∨j=2) 0 W0:=by
   rw[h0,hmo];exact VI.alloc (VI.alloc ⟨HB1.out.alloc _,⟨_,HM1.out.of_block ((blk_old (Array.getElem?_eq_getElem HM1.out.lt)).trans (Array.getElem?_eq_getElem HM1.out.lt).symm),HOK1.out⟩,blk_new _ _⟩ _) _
  have g0:W0.heap[mo+1]?=some (.cells #[.pointer (some ⟨mb,0,none⟩)] 177 (0,0)):=by rw[h0,hmo]; exact(by repeat (first | assumption | (with_reducible apply blk_set2) | (with_reducible apply blk_set1) | (with_reducible refine blk_far2 ?_ ?_; (first | omega | (simp; done) | (simp; omega))) | (with_reducible refine blk_far1 ?_ ?_; (first | omega | (simp; done) | (simp; omega))) | (with_reducible refine blk_new' _ _ ?_; (first | omega | (simp; done) | (simp; omega))) | (with_reducible refine blk_old ?_) | (with_reducible refine blk_drew ?_)))
  have g1:W0.heap[mo+1+1]?=some (.cells #[.int .i64 2] 3 (0,0)):=by rw[h0,hmo]; exact(by repeat (first | assumption | (with_reducible apply blk_set2) | (with_reducible apply blk_set1) | (with_reducible refine blk_far2 ?_ ?_; (first | omega | (simp; done) | (simp; omega))) | (with_reducible refine blk_far1 ?_ ?_; (first | omega | (simp; done) | (simp; omega))) | (with_reducible refine blk_new' _ _ ?_; (first | omega | (simp; done) | (simp; omega))) | (with_reducible refine blk_old ?_) | (with_reducible refine blk_drew ?_)))
  have M0:Mach W0 L mb gs cs gn cn r c:=HMA.out.keep (fun k hk=>by rw[h0]; exact(blk_old (blk_old (blk_old (Array.getElem?_eq_getElem (by omega:k < W1.heap.size))))).trans (Array.getElem?_eq_getElem (by omega:k < W1.heap.size)).symm);have hsz:W0.heap.size=mo+3:=by rw[h0,hmo]; simp
  have hwm:w.heap.size=mo:=HWZ.out.symm.trans hmo.symm;have hkm:kb < mo:=by have:=hle.2.1; omega
  have hLm:L<=mo:=by omega
  clear h0 k0 k1 k2 HMA HM1 HOK1 HE1 HB1 hlk hp1' hle HWZ hmo;refine wpIn_rangeFunc_ownH (α:=Unit) rfl (by omega) (gf:=140) (lb:=#[.pointer (some ⟨mo+1,0,none⟩),.pointer (some ⟨mo+1+1,0,none⟩)]) rfl trivial (enters_of Tryz.func140 (by kernel_rfl) rfl)
   (encs:=enU) (Kp:=Below L) (S:=fun ys=>ys=pU 2) (Sp:=fun _=>True) (N:=1) (w0:=W0)
   (fun l J Jx W hW hJ _ hY h0=>steps1_2 8 (by omega) l _ _ L mb gs cs gn cn r c J Jx W hJ hY (row1_0 ((hW.block _ (by omega)).trans g0)) (row1_0 ((hW.block _ (by omega)).trans g1)) (M0.keep (fun k hk=>hW.block k (by omega))) h0)
   (fun h1 h2=>h1.trans h2) (belowK_b (by omega)) (Below.refl _ _) (fun x=>rfl)
   (fun pre W=>VI w kb mo (fun j=>R j∨j=2) (ms2 pre) W) (fun _ _ _=>False)
   (ownFrom_visit ms2 (by omega) (by omega) (by omega))
   (fun _ _ _ _ _ hs _ _=>hs)
   VI0
   (fun x a' W=>a' = { tmps:=#[.int .i64 2,.pointer (some ⟨K,0,none⟩),.pointer (some ⟨M,0,none⟩),.pointer (some ⟨V,0,none⟩),undef,.int .i64 0,.int .i64 0,.bool false,.pointer (some ⟨mo,0,none⟩),undef,(enU x).getD 1 undef,undef,.tuple #[.int .i64 0,.bool false],.map (some kb),.int .i64 2,.tuple #[.int .i64 0,.bool false],.int .i64 0,.bool false,.bool false,undef,undef,.map (some kb),.int .i64 2,.pointer (some ⟨mb,0,none⟩),.int .i64 2,.func (.func 140) #[] #[.pointer (some ⟨mo+1,0,none⟩),.pointer (some ⟨mo+1+1,0,none⟩)],(enU x).getD 0 undef,(enU x).getD 1 undef,undef,undef,undef,undef,undef,undef,undef,undef,undef,undef,undef,undef,undef],defers:=[] })
   (fun x a' _ X Y row hs hg hr=>hs)
   ?assign ?body ?done ?stop
  case assign =>
   rintro l pre x W Kq hI hK;have HK:=Lib.hid hK;have HI:=Lib.hid hI;clear hK hI;simp only[enU];all_goals
    gi_wp2
    exact HK.out _ _ ((KeepsOthers.refl _).from _) (Below.refl _ _) HI.out rfl
  case body =>
   rintro l pre x a' W hl ⟨rr,hrr⟩ hI rfl hlt;have hpre:pre = []:=List.eq_nil_of_length_eq_zero (by omega);subst hpre;have HR3:=Lib.hid (show ¬(R 3∨3=2) by rintro (h | h); exact hR3 h; omega);obtain⟨hb0,⟨f0,hm0,ok0⟩,hmost⟩:=id hI;have E:=HE.out.keep hb0;have Mw:=HMAw.out.keep (fun k hk=>hb0.block k (by have:=HE.out.le; omega) (by have:=HE.out.le; simp; omega));have v0:=E.v;have m0:=row1_0 hmost;have hkmo:=blk_lt hmost;have HV:=Lib.hid (visit_3 (fun j=>R j∨j=2) HR3.out K M V kb mb L gs cs gn cn r c f0 W E Mw hm0 ok0);have HI:=Lib.hid hI;have HMOST:=Lib.hid hmost;clear hrr hb0 hm0 ok0 hmost E Mw hI
   gi_wp2_with fail
   refine⟨trivial,CallsIn.mono (CallsIn.inRound l (callsIn_wide.2 HV.out)) ?_⟩;rintro e W2 ⟨rfl,hb2,f2,hm2,ok2,-⟩;rw[show LG 3=0 from rfl];have hmost2:=(hb2.block _ (blk_lt HMOST.out) (by simp; omega)).trans HMOST.out;have m2:=row1_0 hmost2;have f2f:=row_f hmost2;have HB2:=Lib.hid hb2;have HM2:=Lib.hid hm2;clear hb2 hm2 hmost2 m0 v0
   gi_wp2
   exact⟨(keepsFrom_belx HB2.out (by omega)).trans ((KeepsOthers.setCell _ _ _).from _),(belx_low HB2.out (by have:=HE.out.le; omega) (by omega)).setCell (p:=⟨mo,0,none⟩) (by show L<=mo; omega) _,HI.out.round HB2.out HM2.out ok2 (by omega) (by omega)⟩
  case done =>
   rintro D zs W hD rfl hI hK;have hI':VI w kb mo (fun j=>R j∨j=2) (LG 2) W:=hI;obtain⟨o,hp,hmc,hend⟩:=hI'.done (by decide) (by omega);have hp':(Instr.mapUpdate 55 (.map (some kb)) (.int .i64 2) (.int .i64 1)).run Tryz.prog W=.ok () (setBlock W kb o):=hp;have hmc':(setBlock W kb o).cell? ⟨mo,0,none⟩=some (.int .i64 1):=hmc;have m0:W.cell? ⟨mo,0,none⟩=some (.int .i64 1):=row1_0 hI'.2.2;have k0:=(HE.out.keep hI'.1).k;have HEND:=Lib.hid (hend D (by omega) (by omega));have hKD:(setBlock W kb o).heap[D]?=some (.deferred (some [])):=(sb_other (by omega)).trans hK;have HKD:=Lib.hid hKD;clear hp hmc hend hI hI' hK hKD VI0 g0 g1 M0
   gi_wp2
   refine⟨by simp,.inl ⟨_,_,rfl,run_takeDeferred HKD.out,?_⟩⟩;exact⟨.int .i64 1,by simp[results,Tryz.results139,go_sem],rfl,HEND.out.1,HEND.out.2⟩
  case stop =>
   rintro D cc pre W _ _ h _;exact h.elim
 · refine(visit_known 2 (by decide) _ (LG_nonneg 2) K M V kb mb L f w hE hm h1).mono ?_;rintro e w' ⟨rfl,rfl⟩;exact⟨rfl,belx_of (Below.refl _ _),f,hm,hf,h1⟩
theorem visit_0 (R:Nat->Prop) (hR:¬R 0) (hR1:¬R 1) (hR2:¬R 2) (hR3:¬R 3) (K M V kb mb L gs cs gn cn:Nat) (r c:Nat->Nat) (f:Int->Option Value) (w:World) (hE:Env w K M V kb mb L) (hMa:Mach w L mb gs cs gn cn r c) (hm:MapIs w kb f) (hf:OKf R f) :
  Calls Tryz.prog 139 #[.int .i64 0,.pointer (some ⟨K,0,none⟩),.pointer (some ⟨M,0,none⟩),.pointer (some ⟨V,0,none⟩)] w fun e w'=>VPost w kb 0 R e w':=by
 rcases hf.at (i:=0) (by decide) hR with h1 | h1
 ·
  have hlk:(Instr.lookup 55 (.map (some kb)) (.int .i64 0) true).run Tryz.prog w=.ok (.tuple #[.int .i64 0,.bool false]) w:=by
   have h:=hm.look Tryz.underlying3 Tryz.underlying55 (pk_z w) (inI4 0 (by decide)) true;rw[h1]at h;exact h
  obtain⟨o1,hp1,hm1⟩:=hm.put Tryz.underlying3 Tryz.underlying55 (inI4 0 (by decide)) (.int .i64 (-2));have hp1':(Instr.mapUpdate 55 (.map (some kb)) (.int .i64 0) (.int .i64 (-2))).run Tryz.prog w=.ok () (setBlock w kb o1):=hp1;obtain⟨W1,hW1⟩:∃W1,W1=setBlock w kb o1:=⟨_,rfl⟩
  rw[<-hW1]at hp1' hm1;have b1:BelX [kb] w W1:=by rw[hW1]; exact(belx_of (Below.refl _ w)).setBlk (by simp) o1
  have hwz:W1.heap.size=w.heap.size:=by rw[hW1]; simp[setBlock]
  have ok1:=hf.way 0;have E1:=hE.keep b1;have M1:Mach W1 L mb gs cs gn cn r c:=hMa.keep (fun k hk=>b1.block k (by have:=hE.le; omega) (by have:=hE.le; simp; omega));have k0:=hE.k;have k1:=E1.k;have k2:=E1.m;have hle:=E1.le;have HM1:=Lib.hid hm1;have HOK1:=Lib.hid ok1;have HMA:=Lib.hid M1;have HE1:=Lib.hid E1;have HB1:=Lib.hid b1;have HE:=Lib.hid hE;have HMAw:=Lib.hid hMa;have HWZ:=Lib.hid hwz;clear hm hf h1 hp1 hm1 hW1 ok1 M1 E1 hMa hE b1 hwz;refine(callsIn_wide (n:=9)).1 ?_;refine callsIn_of_wp_marks Tryz.func139 rfl trivial ?_ rfl;simp only[Tryz.ntmps139,List.size_toArray,List.length_cons,List.length_nil,Nat.reduceAdd,Nat.reduceSub,Array.replicate_succ,Array.replicate_zero,List.push_toArray,List.append_toArray,List.nil_append,List.cons_append]
  gi_wp2_with (first
   | (refine⟨trivial,?_⟩; gi_at_call 115; refine CallsIn.mono (callsIn_wide.2 (steps_ok _ _ _)) ?_; rintro e w' ⟨rfl,rfl⟩)
   | fail)
  obtain⟨mo,hmo⟩:∃mo,mo=W1.heap.size:=⟨_,rfl⟩
  obtain⟨W0,h0⟩:∃W0,W0=(((W1.alloc (.cells #[.int .i64 0] 3)).alloc (.cells #[.pointer (some ⟨mb,0,none⟩)] 177)).alloc (.cells #[.int .i64 0] 3)):=⟨_,rfl⟩
  rw[<-hmo,<-h0];have VI0:VI w kb mo (fun j=>R j∨j=0) 0 W0:=by
   rw[h0,hmo];exact VI.alloc (VI.alloc ⟨HB1.out.alloc _,⟨_,HM1.out.of_block ((blk_old (Array.getElem?_eq_getElem HM1.out.lt)).trans (Array.getElem?_eq_getElem HM1.out.lt).symm),HOK1.out⟩,blk_new _ _⟩ _) _
  have g0:W0.heap[mo+1]?=some (.cells #[.pointer (some ⟨mb,0,none⟩)] 177 (0,0)):=by rw[h0,hmo]; exact(by repeat (first | assumption | (with_reducible apply blk_set2) | (with_reducible apply blk_set1) | (with_reducible refine blk_far2 ?_ ?_; (first | omega | (simp; done) | (simp; omega))) | (with_reducible refine blk_far1 ?_ ?_; (first | omega | (simp; done) | (simp; omega))) | (with_reducible refine blk_new' _ _ ?_; (first | omega | (simp; done) | (simp; omega))) | (with_reducible refine blk_old ?_) | (with_reducible refine blk_drew ?_)))
  have g1:W0.heap[mo+1+1]?=some (.cells #[.int .i64 0] 3 (0,0)):=by rw[h0,hmo]; exact(by repeat (first | assumption | (with_reducible apply blk_set2) | (with_reducible apply blk_set1) | (with_reducible refine blk_far2 ?_ ?_; (first | omega | (simp; done) | (simp; omega))) | (with_reducible refine blk_far1 ?_ ?_; (first | omega | (simp; done) | (simp; omega))) | (with_reducible refine blk_new' _ _ ?_; (first | omega | (simp; done) | (simp; omega))) | (with_reducible refine blk_old ?_) | (with_reducible refine blk_drew ?_)))
  have M0:Mach W0 L mb gs cs gn cn r c:=HMA.out.keep (fun k hk=>by rw[h0]; exact(blk_old (blk_old (blk_old (Array.getElem?_eq_getElem (by omega:k < W1.heap.size))))).trans (Array.getElem?_eq_getElem (by omega:k < W1.heap.size)).symm);have hsz:W0.heap.size=mo+3:=by rw[h0,hmo]; simp
  have hwm:w.heap.size=mo:=HWZ.out.symm.trans hmo.symm;have hkm:kb < mo:=by have:=hle.2.1; omega
  have hLm:L<=mo:=by omega
  clear h0 k0 k1 k2 HMA HM1 HOK1 HE1 HB1 hlk hp1' hle HWZ hmo;refine wpIn_rangeFunc_ownH (α:=Bool) rfl (by omega) (gf:=140) (lb:=#[.pointer (some ⟨mo+1,0,none⟩),.pointer (some ⟨mo+1+1,0,none⟩)]) rfl trivial (enters_of Tryz.func140 (by kernel_rfl) rfl)
   (encs:=enB) (Kp:=Below L) (S:=fun ys=>ys=pB 2) (Sp:=fun _=>True) (N:=2) (w0:=W0)
   (fun l J Jx W hW hJ _ hY h0=>steps1_0 8 (by omega) l _ _ L mb gs cs gn cn r c J Jx W hJ hY (row1_0 ((hW.block _ (by omega)).trans g0)) (row1_0 ((hW.block _ (by omega)).trans g1)) (M0.keep (fun k hk=>hW.block k (by omega))) h0)
   (fun h1 h2=>h1.trans h2) (belowK_b (by omega)) (Below.refl _ _) (fun x=>(by cases x <;> rfl))
   (fun pre W=>VI w kb mo (fun j=>R j∨j=0) (ms0 pre) W) (fun _ _ _=>False)
   (ownFrom_visit ms0 (by omega) (by omega) (by omega))
   (fun _ _ _ _ _ hs _ _=>hs)
   VI0
   (fun x a' W=>a' = { tmps:=#[.int .i64 0,.pointer (some ⟨K,0,none⟩),.pointer (some ⟨M,0,none⟩),.pointer (some ⟨V,0,none⟩),undef,.int .i64 0,.int .i64 0,.bool false,.pointer (some ⟨mo,0,none⟩),undef,(enB x).getD 1 undef,undef,.tuple #[.int .i64 0,.bool false],.map (some kb),.int .i64 0,.tuple #[.int .i64 0,.bool false],.int .i64 0,.bool false,.bool false,undef,undef,.map (some kb),.int .i64 0,.pointer (some ⟨mb,0,none⟩),.int .i64 0,.func (.func 140) #[] #[.pointer (some ⟨mo+1,0,none⟩),.pointer (some ⟨mo+1+1,0,none⟩)],(enB x).getD 0 undef,(enB x).getD 1 undef,undef,undef,undef,undef,undef,undef,undef,undef,undef,undef,undef,undef,undef],defers:=[] })
   (fun x a' _ X Y row hs hg hr=>hs)
   ?assign ?body ?done ?stop
  case assign =>
   rintro l pre x W Kq hI hK;have HK:=Lib.hid hK;have HI:=Lib.hid hI;clear hK hI;cases x <;> simp only[enB];all_goals
    gi_wp2
    exact HK.out _ _ ((KeepsOthers.refl _).from _) (Below.refl _ _) HI.out rfl
  case body =>
   rintro l pre x a' W hl ⟨rr,hrr⟩ hI rfl hlt;have hpre:pre = []∨pre = [false]∨pre = [true]:=by
    match pre,hlt with
    | [],_=>exact .inl rfl
    | [false],_=>exact .inr (.inl rfl)
    | [true],_=>exact .inr (.inr rfl)
    | _ :: _ :: _,h=>exact absurd h (by simp)
   have HR1:=Lib.hid (show ¬(R 1∨1=0) by rintro (h | h); exact hR1 h; omega);have HR2:=Lib.hid (show ¬(R 2∨2=0) by rintro (h | h); exact hR2 h; omega);have HR3:=Lib.hid (show ¬(R 3∨3=0) by rintro (h | h); exact hR3 h; omega);rcases hpre with rfl | rfl | rfl <;> cases x
   ·
    have hI:VI w kb mo (fun j=>R j∨j=0) 0 W:=hI;obtain⟨hb0,⟨f0,hm0,ok0⟩,hmost⟩:=id hI;have E:=HE.out.keep hb0;have Mw:=HMAw.out.keep (fun k hk=>hb0.block k (by have:=HE.out.le; omega) (by have:=HE.out.le; simp; omega));have v0:=E.v;have m0:=row1_0 hmost;have hkmo:=blk_lt hmost;have HV:=Lib.hid (visit_1 (fun j=>R j∨j=0) HR1.out K M V kb mb L gs cs gn cn r c f0 W E Mw hm0 ok0);have HI:=Lib.hid hI;have HMOST:=Lib.hid hmost;clear hrr hb0 hm0 ok0 hmost E Mw hI
    gi_wp2_with fail
    refine⟨trivial,CallsIn.mono (CallsIn.inRound l (callsIn_wide.2 HV.out)) ?_⟩;rintro e W2 ⟨rfl,hb2,f2,hm2,ok2,-⟩;rw[show LG 1=0 from rfl];have hmost2:=(hb2.block _ (blk_lt HMOST.out) (by simp; omega)).trans HMOST.out;have m2:=row1_0 hmost2;have f2f:=row_f hmost2;have HB2:=Lib.hid hb2;have HM2:=Lib.hid hm2;clear hb2 hm2 hmost2 m0 v0
    gi_wp2
    exact⟨(keepsFrom_belx HB2.out (by omega)).trans ((KeepsOthers.setCell _ _ _).from _),(belx_low HB2.out (by have:=HE.out.le; omega) (by omega)).setCell (p:=⟨mo,0,none⟩) (by show L<=mo; omega) _,HI.out.round HB2.out HM2.out ok2 (by omega) (by omega)⟩
   ·
    have hI:VI w kb mo (fun j=>R j∨j=0) 0 W:=hI;obtain⟨hb0,⟨f0,hm0,ok0⟩,hmost⟩:=id hI;have E:=HE.out.keep hb0;have Mw:=HMAw.out.keep (fun k hk=>hb0.block k (by have:=HE.out.le; omega) (by have:=HE.out.le; simp; omega));have v0:=E.v;have m0:=row1_0 hmost;have hkmo:=blk_lt hmost;have HV:=Lib.hid (visit_2 (fun j=>R j∨j=0) HR2.out HR3.out K M V kb mb L gs cs gn cn r c f0 W E Mw hm0 ok0);have HI:=Lib.hid hI;have HMOST:=Lib.hid hmost;clear hrr hb0 hm0 ok0 hmost E Mw hI
    gi_wp2_with fail
    refine⟨trivial,CallsIn.mono (CallsIn.inRound l (callsIn_wide.2 HV.out)) ?_⟩;rintro e W2 ⟨rfl,hb2,f2,hm2,ok2,-⟩;rw[show LG 2=1 from rfl];have hmost2:=(hb2.block _ (blk_lt HMOST.out) (by simp; omega)).trans HMOST.out;have m2:=row1_0 hmost2;have f2f:=row_f hmost2;have HB2:=Lib.hid hb2;have HM2:=Lib.hid hm2;clear hb2 hm2 hmost2 m0 v0
    gi_wp2
    exact⟨(keepsFrom_belx HB2.out (by omega)).trans ((KeepsOthers.setCell _ _ _).from _),(belx_low HB2.out (by have:=HE.out.le; omega) (by omega)).setCell (p:=⟨mo,0,none⟩) (by show L<=mo; omega) _,HI.out.round HB2.out HM2.out ok2 (by omega) (by omega)⟩
   ·
    have hI:VI w kb mo (fun j=>R j∨j=0) 1 W:=hI;obtain⟨hb0,⟨f0,hm0,ok0⟩,hmost⟩:=id hI;have E:=HE.out.keep hb0;have Mw:=HMAw.out.keep (fun k hk=>hb0.block k (by have:=HE.out.le; omega) (by have:=HE.out.le; simp; omega));have v0:=E.v;have m0:=row1_0 hmost;have hkmo:=blk_lt hmost;have HV:=Lib.hid (visit_1 (fun j=>R j∨j=0) HR1.out K M V kb mb L gs cs gn cn r c f0 W E Mw hm0 ok0);have HI:=Lib.hid hI;have HMOST:=Lib.hid hmost;clear hrr hb0 hm0 ok0 hmost E Mw hI
    gi_wp2_with fail
    refine⟨trivial,CallsIn.mono (CallsIn.inRound l (callsIn_wide.2 HV.out)) ?_⟩;rintro e W2 ⟨rfl,hb2,f2,hm2,ok2,-⟩;rw[show LG 1=0 from rfl];have hmost2:=(hb2.block _ (blk_lt HMOST.out) (by simp; omega)).trans HMOST.out;have m2:=row1_0 hmost2;have f2f:=row_f hmost2;have HB2:=Lib.hid hb2;have HM2:=Lib.hid hm2;clear hb2 hm2 hmost2 m0 v0
    gi_wp2
    exact⟨(keepsFrom_belx HB2.out (by omega)).trans ((KeepsOthers.setCell _ _ _).from _),(belx_low HB2.out (by have:=HE.out.le; omega) (by omega)).setCell (p:=⟨mo,0,none⟩) (by show L<=mo; omega) _,HI.out.round HB2.out HM2.out ok2 (by omega) (by omega)⟩
   ·
    have hI:VI w kb mo (fun j=>R j∨j=0) 1 W:=hI;obtain⟨hb0,⟨f0,hm0,ok0⟩,hmost⟩:=id hI;have E:=HE.out.keep hb0;have Mw:=HMAw.out.keep (fun k hk=>hb0.block k (by have:=HE.out.le; omega) (by have:=HE.out.le; simp; omega));have v0:=E.v;have m0:=row1_0 hmost;have hkmo:=blk_lt hmost;have HV:=Lib.hid (visit_2 (fun j=>R j∨j=0) HR2.out HR3.out K M V kb mb L gs cs gn cn r c f0 W E Mw hm0 ok0);have HI:=Lib.hid hI;have HMOST:=Lib.hid hmost;clear hrr hb0 hm0 ok0 hmost E Mw hI
    gi_wp2_with fail
    refine⟨trivial,CallsIn.mono (CallsIn.inRound l (callsIn_wide.2 HV.out)) ?_⟩;rintro e W2 ⟨rfl,hb2,f2,hm2,ok2,-⟩;rw[show LG 2=1 from rfl];have hmost2:=(hb2.block _ (blk_lt HMOST.out) (by simp; omega)).trans HMOST.out;have m2:=row1_0 hmost2;have f2f:=row_f hmost2;have HB2:=Lib.hid hb2;have HM2:=Lib.hid hm2;clear hb2 hm2 hmost2 m0 v0
    gi_wp2
    exact⟨(keepsFrom_belx HB2.out (by omega)).trans ((KeepsOthers.setCell _ _ _).from _),(belx_low HB2.out (by have:=HE.out.le; omega) (by omega)).setCell (p:=⟨mo,0,none⟩) (by show L<=mo; omega) _,HI.out.round HB2.out HM2.out ok2 (by omega) (by omega)⟩
   ·
    have hI:VI w kb mo (fun j=>R j∨j=0) 2 W:=hI;obtain⟨hb0,⟨f0,hm0,ok0⟩,hmost⟩:=id hI;have E:=HE.out.keep hb0;have Mw:=HMAw.out.keep (fun k hk=>hb0.block k (by have:=HE.out.le; omega) (by have:=HE.out.le; simp; omega));have v0:=E.v;have m0:=row1_0 hmost;have hkmo:=blk_lt hmost;have HV:=Lib.hid (visit_1 (fun j=>R j∨j=0) HR1.out K M V kb mb L gs cs gn cn r c f0 W E Mw hm0 ok0);have HI:=Lib.hid hI;have HMOST:=Lib.hid hmost;clear hrr hb0 hm0 ok0 hmost E Mw hI
    gi_wp2_with fail
    refine⟨trivial,CallsIn.mono (CallsIn.inRound l (callsIn_wide.2 HV.out)) ?_⟩;rintro e W2 ⟨rfl,hb2,f2,hm2,ok2,-⟩;rw[show LG 1=0 from rfl];have hmost2:=(hb2.block _ (blk_lt HMOST.out) (by simp; omega)).trans HMOST.out;have m2:=row1_0 hmost2;have f2f:=row_f hmost2;have HB2:=Lib.hid hb2;have HM2:=Lib.hid hm2;clear hb2 hm2 hmost2 m0 v0
    gi_wp2
    exact⟨(keepsFrom_belx HB2.out (by omega)).trans ((KeepsOthers.setCell _ _ _).from _),(belx_low HB2.out (by have:=HE.out.le; omega) (by omega)).setCell (p:=⟨mo,0,none⟩) (by show L<=mo; omega) _,HI.out.round HB2.out HM2.out ok2 (by omega) (by omega)⟩
   ·
    have hI:VI w kb mo (fun j=>R j∨j=0) 2 W:=hI;obtain⟨hb0,⟨f0,hm0,ok0⟩,hmost⟩:=id hI;have E:=HE.out.keep hb0;have Mw:=HMAw.out.keep (fun k hk=>hb0.block k (by have:=HE.out.le; omega) (by have:=HE.out.le; simp; omega));have v0:=E.v;have m0:=row1_0 hmost;have hkmo:=blk_lt hmost;have HV:=Lib.hid (visit_2 (fun j=>R j∨j=0) HR2.out HR3.out K M V kb mb L gs cs gn cn r c f0 W E Mw hm0 ok0);have HI:=Lib.hid hI;have HMOST:=Lib.hid hmost;clear hrr hb0 hm0 ok0 hmost E Mw hI
    gi_wp2_with fail
    refine⟨trivial,CallsIn.mono (CallsIn.inRound l (callsIn_wide.2 HV.out)) ?_⟩;rintro e W2 ⟨rfl,hb2,f2,hm2,ok2,-⟩;rw[show LG 2=1 from rfl];have hmost2:=(hb2.block _ (blk_lt HMOST.out) (by simp; omega)).trans HMOST.out;have m2:=row1_0 hmost2;have f2f:=row_f hmost2;have HB2:=Lib.hid hb2;have HM2:=Lib.hid hm2;clear hb2 hm2 hmost2 m0 v0
    gi_wp2
    exact⟨(keepsFrom_belx HB2.out (by omega)).trans ((KeepsOthers.setCell _ _ _).from _),(belx_low HB2.out (by have:=HE.out.le; omega) (by omega)).setCell (p:=⟨mo,0,none⟩) (by show L<=mo; omega) _,HI.out.round HB2.out HM2.out ok2 (by omega) (by omega)⟩
  case done =>
   rintro D zs W hD rfl hI hK;have hI':VI w kb mo (fun j=>R j∨j=0) (LG 0) W:=hI;obtain⟨o,hp,hmc,hend⟩:=hI'.done (by decide) (by omega);have hp':(Instr.mapUpdate 55 (.map (some kb)) (.int .i64 0) (.int .i64 2)).run Tryz.prog W=.ok () (setBlock W kb o):=hp;have hmc':(setBlock W kb o).cell? ⟨mo,0,none⟩=some (.int .i64 2):=hmc;have m0:W.cell? ⟨mo,0,none⟩=some (.int .i64 2):=row1_0 hI'.2.2;have k0:=(HE.out.keep hI'.1).k;have HEND:=Lib.hid (hend D (by omega) (by omega));have hKD:(setBlock W kb o).heap[D]?=some (.deferred (some [])):=(sb_other (by omega)).trans hK;have HKD:=Lib.hid hKD;clear hp hmc hend hI hI' hK hKD VI0 g0 g1 M0
   gi_wp2
   refine⟨by simp,.inl ⟨_,_,rfl,run_takeDeferred HKD.out,?_⟩⟩;exact⟨.int .i64 2,by simp[results,Tryz.results139,go_sem],rfl,HEND.out.1,HEND.out.2⟩
  case stop =>
   rintro D cc pre W _ _ h _;exact h.elim
 · refine(visit_known 0 (by decide) _ (LG_nonneg 0) K M V kb mb L f w hE hm h1).mono ?_;rintro e w' ⟨rfl,rfl⟩;exact⟨rfl,belx_of (Below.refl _ _),f,hm,hf,h1⟩
end Go.Proofs.YtaffkceklkdokaaGreatDoor
