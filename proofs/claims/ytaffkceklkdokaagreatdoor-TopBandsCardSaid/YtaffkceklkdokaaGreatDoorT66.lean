/- A side that cuts all edges of a graph is found. -/
import Derived.Test.YtaffkceklkdokaaGreatDoorT65
set_option maxRecDepth 100000
set_option maxHeartbeats 4000000
namespace Go.Proofs.YtaffkceklkdokaaGreatDoor
open Go.RowKit Go.Shelf
attribute [local go_sem] Oper.semAt_some
def EvI (n:Nat) (es:List (Nat × Nat)) (ev mv:Value) (w:World) (pre:List (Fin 64)) (W:World):Prop :=
 (((W.heap[w.heap.size]?=some (.cells #[.int .i64 (n:Nat),ev,mv] 66 (0,0))/\W.heap[w.heap.size+1]?=some (.cells #[.int .u64 0] 69 (0,0)))/\W.heap[w.heap.size+1+1]?=some (.cells #[.bool false] 4 (0,0)))/\Below w.heap.size w W)/\(w.heap.size+5<=W.heap.size/\∀x∈pre,cutAll n x.val es=false)
def EvX (w:World) (c:Code) (_:List (Fin 64)) (W:World):Prop :=
 ∃s:Nat,(((c=.ret/\s < 64)/\W.heap[w.heap.size+1]?=some (.cells #[.int .u64 (s:Nat)] 69 (0,0)))/\W.heap[w.heap.size+1+1]?=some (.cells #[.bool true] 4 (0,0)))/\Below w.heap.size w W
theorem even_gen (n:Nat) (hn:1<=n/\n<=6) (es:List (Nat × Nat)) (hm:es.length<=15) (hes:∀p∈es,p.1 < p.2/\p.2 < n) (hex:∃s,s < 2 ^ (n-1)/\cutAll n s es=true) (ev mv:Value) (w:World) (hE:EdgesAt w ev es) :
  Calls Tryz.prog 23 #[GrN n ev mv] w fun e w'=>(∃s:Nat,s < 64/\e=.returned (.tuple #[.int .u64 (s:Nat),.bool true]))/\Below w.heap.size w w':=by
 have hmf:∀(fn:Fn) (first cap:Array Value) (w:World),(Instr.makeFunc fn first cap).run Tryz.prog w=.ok (.func fn first cap) w:=fun _ _ _ _=>rfl;have hPP:2 ^ (n-1)<=32:=Nat.le_trans (Nat.pow_le_pow_right (by decide) (show n-1<=5 by omega)) (by decide);obtain⟨P,hP⟩:∃P,2 ^ (n-1)=P:=⟨_,rfl⟩
 rw[hP]at hPP hex;have HPE:=Lib.hid hP;have HES:=Lib.hid hes;have HEX:=Lib.hid hex;clear hP hes hex;refine(callsIn_wide (n:=9)).1 ?_;refine callsIn_of_wp_marks Tryz.func23 rfl trivial ?_ rfl;simp only[Tryz.ntmps23,List.size_toArray,List.length_cons,List.length_nil,Nat.reduceAdd,Nat.reduceSub,Array.replicate_succ,Array.replicate_zero,List.push_toArray,List.append_toArray,List.nil_append,List.cons_append]
 gi_wp2_with (first
  | (refine⟨trivial,?_⟩; gi_at_call 47; refine CallsIn.mono (callsIn_wide.2 (sides_okN _ _ _ _)) ?_; rintro e w' ⟨rfl,rfl⟩)
  | fail)
 obtain⟨W0,h0⟩:∃W0,W0=(((((w.alloc (.cells #[.int .i64 (n:Nat),ev,mv] 66)).alloc (.cells #[.int .u64 0] 69)).alloc (.cells #[.bool false] 4)).alloc (.cells #[.int .i64 (n:Nat),ev,mv] 66)).alloc (.cells #[WantN n ev mv] 75)):=⟨_,rfl⟩
 rw[<-h0];have Z0:W0.heap[w.heap.size]?=some (.cells #[.int .i64 (n:Nat),ev,mv] 66 (0,0)):=by rw[h0]; exact(by repeat (first | assumption | (with_reducible apply blk_set2) | (with_reducible apply blk_set1) | (with_reducible refine blk_far2 ?_ ?_; (first | omega | (simp; done) | (simp; omega))) | (with_reducible refine blk_far1 ?_ ?_; (first | omega | (simp; done) | (simp; omega))) | (with_reducible refine blk_new' _ _ ?_; (first | omega | (simp; done) | (simp; omega))) | (with_reducible refine blk_old ?_) | (with_reducible refine blk_drew ?_)))
 have Z1:W0.heap[w.heap.size+1]?=some (.cells #[.int .u64 0] 69 (0,0)):=by rw[h0]; exact(by repeat (first | assumption | (with_reducible apply blk_set2) | (with_reducible apply blk_set1) | (with_reducible refine blk_far2 ?_ ?_; (first | omega | (simp; done) | (simp; omega))) | (with_reducible refine blk_far1 ?_ ?_; (first | omega | (simp; done) | (simp; omega))) | (with_reducible refine blk_new' _ _ ?_; (first | omega | (simp; done) | (simp; omega))) | (with_reducible refine blk_old ?_) | (with_reducible refine blk_drew ?_)))
 have Z2:W0.heap[w.heap.size+1+1]?=some (.cells #[.bool false] 4 (0,0)):=by rw[h0]; exact(by repeat (first | assumption | (with_reducible apply blk_set2) | (with_reducible apply blk_set1) | (with_reducible refine blk_far2 ?_ ?_; (first | omega | (simp; done) | (simp; omega))) | (with_reducible refine blk_far1 ?_ ?_; (first | omega | (simp; done) | (simp; omega))) | (with_reducible refine blk_new' _ _ ?_; (first | omega | (simp; done) | (simp; omega))) | (with_reducible refine blk_old ?_) | (with_reducible refine blk_drew ?_)))
 have Z3:W0.heap[w.heap.size+1+1+1]?=some (.cells #[.int .i64 (n:Nat),ev,mv] 66 (0,0)):=by rw[h0]; exact(by repeat (first | assumption | (with_reducible apply blk_set2) | (with_reducible apply blk_set1) | (with_reducible refine blk_far2 ?_ ?_; (first | omega | (simp; done) | (simp; omega))) | (with_reducible refine blk_far1 ?_ ?_; (first | omega | (simp; done) | (simp; omega))) | (with_reducible refine blk_new' _ _ ?_; (first | omega | (simp; done) | (simp; omega))) | (with_reducible refine blk_old ?_) | (with_reducible refine blk_drew ?_)))
 have Z4:W0.heap[w.heap.size+1+1+1+1]?=some (.cells #[WantN n ev mv] 75 (0,0)):=by rw[h0]; exact(by repeat (first | assumption | (with_reducible apply blk_set2) | (with_reducible apply blk_set1) | (with_reducible refine blk_far2 ?_ ?_; (first | omega | (simp; done) | (simp; omega))) | (with_reducible refine blk_far1 ?_ ?_; (first | omega | (simp; done) | (simp; omega))) | (with_reducible refine blk_new' _ _ ?_; (first | omega | (simp; done) | (simp; omega))) | (with_reducible refine blk_old ?_) | (with_reducible refine blk_drew ?_)))
 have B0:Below w.heap.size w W0:=by rw[h0]; exact(by repeat (first | exact Below.refl _ _ | exact Nat.le_refl _ | refine Below.alloc ?_ ?_ _ | refine Below.setCell ?_ ?_ _ | refine Below.drew ?_ | refine bl_drewN ?_ _ | (assumption) | refine bl_call ?_ (by assumption) ?_ | omega | (simp <;> omega)))
 have hsz:W0.heap.size=w.heap.size+5:=by rw[h0]; simp
 clear h0;have hEB:=EdgesB.below hE.b B0;refine wpIn_rangeFunc_ownH (α:=Fin 64) rfl (by omega) (gf:=68) (lb:=#[.pointer (some ⟨w.heap.size+1+1+1,0,none⟩),.pointer (some ⟨w.heap.size+1+1+1+1,0,none⟩)]) rfl trivial (enters_of Tryz.func68 (by kernel_rfl) rfl)
  (encs:=fun k=>#[.int .u64 ((k.val:Nat):Int),.int .i64 (valN n k.val es:Nat)]) (Kp:=Kp2 w.heap.size (w.heap.size+1+1+1) (w.heap.size+1+1+1+1)) (S:=fun ys=>ys=(List.finRange 64).take P) (Sp:=fun _=>True) (N:=P) (w0:=W0)
  (fun l J Jx W hW hJ _ hY h0=>by
   have h:=sidesN_in n hn es hm HES.out 8 (by omega) l (w.heap.size+1+1+1) (w.heap.size+1+1+1+1) w.heap.size ev mv J Jx W (by have:=hW.size; omega) hJ (by rw[HPE.out]; exact hY) ((hW.block _ (by omega)).trans Z3) ((hW.block _ (by omega)).trans Z4) (hEB.below (hW.mono (by omega))) h0;rw[HPE.out]at h;exact h)
  (fun h1 h2=>h1.trans h2) (fun W l o o' hl h1 h2 h3=>⟨belowK_b (w:=w) (Nat.le_refl _) W l _ _ (by omega) h1 h2 h3,World.putObj_heap_other (by omega),World.putObj_heap_other (by omega)⟩) (Below.refl _ _) (fun _=>rfl)
  (EvI n es ev mv w) (fun c pre W=>EvX w c pre W)
  (OwnFrom.and (OwnFrom.and (OwnFrom.and (OwnFrom.and (Own.from (cellOwn _ _ (fun _=>rfl)) _) (Own.from (cellOwn _ _ (fun _=>rfl)) _)) (Own.from (cellOwn _ _ (fun _=>rfl)) _)) (ownFrom_below (Nat.le_refl _) (by omega))) (fun pre X Y row hs hg hr=>⟨Nat.le_trans hs.1 hg.size,hs.2⟩))
  (fun c pre X Y row ⟨s,hs⟩ hg hr=>⟨s,(OwnFrom.and (OwnFrom.and (OwnFrom.and (ownFrom_pure _ (fun(_:Unit)=>c=.ret/\s < 64)) (Own.from (cellOwn (w.heap.size+1) (fun(_:Unit)=>Obj.cells #[.int .u64 (s:Nat)] 69 (0,0)) (fun _=>rfl)) _)) (Own.from (cellOwn (w.heap.size+1+1) (fun(_:Unit)=>Obj.cells #[.bool true] 4 (0,0)) (fun _=>rfl)) _)) (show OwnFrom W0.heap.size (fun(_:Unit) W=>Below w.heap.size w W) from ownFrom_below (Nat.le_refl _) (by omega))) () X Y row hs hg hr⟩)
  ⟨⟨⟨⟨Z0,Z1⟩,Z2⟩,B0⟩,by omega,fun _ h=>by cases h⟩
  (fun k a' W=>∃sb,(w.heap.size+5<=sb/\W.heap[sb]?=some (.cells #[.int .u64 ((k.val:Nat):Int)] 69 (0,0)))/\a' = { tmps:=#[GrN n ev mv,.pointer (some ⟨w.heap.size,0,none⟩),.pointer (some ⟨w.heap.size+1,0,none⟩),.pointer (some ⟨w.heap.size+1+1,0,none⟩),.pointer (some ⟨sb,0,none⟩),undef,GrN n ev mv,GrN n ev mv,WantN n ev mv,.func (.func 68) #[] #[.pointer (some ⟨w.heap.size+1+1+1,0,none⟩),.pointer (some ⟨w.heap.size+1+1+1+1,0,none⟩)],.int .u64 ((k.val:Nat):Int),.int .i64 (valN n k.val es:Nat),undef,undef,undef,undef,undef,undef,undef],defers:=[] })
  (fun k a' _ X Y row ⟨sb,hs,ha⟩ hg hr=>⟨sb,(OwnFrom.and (ownFrom_pure _ (fun(_:Unit)=>w.heap.size+5<=sb)) (Own.from (cellOwn sb (fun(_:Unit)=>Obj.cells #[.int .u64 ((k.val:Nat):Int)] 69 (0,0)) (fun _=>rfl)) _)) () X Y row hs hg hr,ha⟩)
  ?assign ?body ?done ?stop
 case assign =>
  rintro l pre k W K hI hK;have HK:=Lib.hid hK;have HI:=Lib.hid hI;clear hK hI
  gi_wp2
  obtain⟨⟨⟨⟨i0,i1⟩,i2⟩,B⟩,hz,hno⟩:=HI.out;have BW:Below W.heap.size W (W.alloc (.cells #[.int .u64 ((k.val:Nat):Int)] 69)):=(Below.refl _ W).alloc (Nat.le_refl _) _;refine HK.out _ _ ((KeepsOthers.alloc _ _).from _) ⟨BW.mono (by omega),BW.block _ (by omega),BW.block _ (by omega)⟩ ⟨⟨⟨⟨blk_old i0,blk_old i1⟩,blk_old i2⟩,B.trans (BW.mono (by omega))⟩,by have:=BW.size; omega,hno⟩ ⟨W.heap.size,⟨hz,blk_new _ _⟩,rfl⟩
 case body =>
  rintro l pre x a' W hl ⟨r,hr⟩ hI ⟨sb,⟨hsb,hS⟩,rfl⟩ hlt;have hx64:=x.isLt;obtain⟨⟨⟨⟨i0,i1⟩,i2⟩,B⟩,hz,hno⟩:=id hI;have hzs:=blk_lt hS;have e1:W.cell? ⟨w.heap.size,1,none⟩=some ev:=cell_of_row W _ 1 _ _ _ i0;have hE1:EdgesAt W ev es:=(hE.b.below B).at;have HC:=Lib.hid (evHas n x.val w.heap.size sb es ev mv hn.2 hx64 hm HES.out W hE1 i0 hS);have HI:=Lib.hid hI;have HS:=Lib.hid hS;clear hI i0 i1 i2 hS hE1 hr Z0 Z1 Z2 Z3 Z4 hEB hE hno B
  gi_wp2_with fail
  refine⟨trivial,CallsIn.mono (CallsIn.inRound l (callsIn_wide.2 HC.out)) ?_⟩;rintro e W2 ⟨rfl,hb2⟩;obtain⟨⟨⟨⟨i0,i1⟩,i2⟩,B⟩,hz,hno⟩:=HI.out;have hS2:=(hb2.block _ hzs).trans HS.out;have j1:=(hb2.block _ (by omega)).trans i1;have j2:=(hb2.block _ (by omega)).trans i2;have j0:=(hb2.block _ (by omega)).trans i0;have s0:=row1_0 hS2;have b1:=row1_0 j1;have b2:=row1_0 j2;have f1:=row_f j1;have f2:=row_f j2;have hsz2:=hb2.size;have B2:Below w.heap.size w W2:=B.trans (hb2.mono (by omega));have HKP:=Lib.hid (show KeepsFrom W0.heap.size W W2 from⟨hb2.size,fun k o _ ho _=>(hb2.block k (blk_lt ho)).trans ho⟩);have HK2:=Lib.hid (show Kp2 w.heap.size (w.heap.size+1+1+1) (w.heap.size+1+1+1+1) W W2 from⟨hb2.mono (by omega),hb2.block _ (by omega),hb2.block _ (by omega)⟩);have HJ0:=Lib.hid j0;have HJ1:=Lib.hid j1;have HJ2:=Lib.hid j2;have HNO:=Lib.hid hno;have HB2:=Lib.hid B2;clear i0 i1 i2 j0 j1 j2 hb2 B B2 hno hS2 e1 HC;cases hc:cutAll n x.val es
  ·
   have HCC:=Lib.hid hc;clear hc
   gi_wp2
   refine⟨HKP.out,HK2.out,⟨⟨⟨⟨HJ0.out,HJ1.out⟩,HJ2.out⟩,HB2.out⟩,by omega,fun y hy=>?_⟩⟩;rcases List.mem_append.1 hy with h | h
   · exact HNO.out y h
   · rw[List.mem_singleton.1 h];exact HCC.out
  ·
   clear hc
   gi_wp2
   refine⟨HKP.out.trans (((KeepsOthers.setCell _ _ _).trans (KeepsOthers.setCell _ _ _)).from _),x.val,⟨⟨⟨rfl,hx64⟩,blk_farI 0 _ (by omega) ((blk_setI 0 _ HJ1.out).trans rfl)⟩,(blk_setI 0 _ (blk_farI 0 _ (by omega) HJ2.out)).trans rfl⟩,(HB2.out.setCell (p:=⟨w.heap.size+1,0,none⟩) (by show w.heap.size<=w.heap.size+1; omega) _).setCell (p:=⟨w.heap.size+1+1,0,none⟩) (by show w.heap.size<=w.heap.size+1+1; omega) _⟩
 case done =>
  rintro D zs W hD rfl ⟨⟨⟨⟨h0,h1⟩,h2⟩,B⟩,hzz,hno⟩ hK;exfalso;obtain⟨s,hs,hc⟩:=HEX.out;have h:=hno ⟨s,by omega⟩ (by
   rw[List.mem_take_iff_getElem];exact⟨s,by simp; omega,by simp⟩)
  rw[hc]at h;cases h
 case stop =>
  rintro D c pre W hD _ ⟨s,⟨⟨⟨rfl,hs⟩,h1⟩,h2⟩,B⟩ hK;have c1:=row1_0 h1;have c2:=row1_0 h2;have hq1:=blk_lt h1;have hq2:=blk_lt h2
  gi_wp2
  refine⟨by simp,.inl ⟨_,_,rfl,run_takeDeferred hK,?_⟩⟩;have q1:(W.putObj D (Obj.deferred none)).heap[w.heap.size+1]?=_:=(World.putObj_heap_other (by omega)).trans h1;have q2:(W.putObj D (Obj.deferred none)).heap[w.heap.size+1+1]?=_:=(World.putObj_heap_other (by omega)).trans h2;have d1:=row1_0 q1;have d2:=row1_0 q2;exact⟨.tuple #[.int .u64 (s:Nat),.bool true],by simp[results,Tryz.results23,go_sem,d1,d2],⟨s,hs,rfl⟩,B.trans (belowK_b (w:=w) (Nat.le_refl _) _ D _ _ (by omega) hK rfl rfl)⟩
end Go.Proofs.YtaffkceklkdokaaGreatDoor
