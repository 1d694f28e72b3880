/- Sides of a graph of up to six vertices: the iterator. -/
import Derived.Test.YtaffkceklkdokaaGreatDoorTP
import Derived.Sort.BigQuietIn
set_option maxRecDepth 100000
set_option maxHeartbeats 4000000
namespace Go.Proofs.YtaffkceklkdokaaGreatDoor
open Go.RowKit Go.Shelf
attribute [local go_sem] Oper.semAt_some
/-- the edges lie there, below a mark -/
def EdgesB (n₀:Nat) (W:World) (ev:Value) (es:List (Nat × Nat)):Prop :=
 ∃a cap,ev=.slice a es.length cap/\(es = []∨∃eb,eb < n₀/\a=some ⟨eb,0,none⟩/\∀(k:Nat) (p:Nat × Nat),es[k]?=some p->W.cell? ⟨eb,k * 3,none⟩=some (.int .i64 (p.1:Nat))/\W.cell? ⟨eb,k * 3+1,none⟩=some (.int .i64 (p.2:Nat))/\W.cell? ⟨eb,k * 3+2,none⟩=some (.int .i64 1))
theorem EdgesB.below {n₀:Nat} {W W':World} {ev:Value} {es:List (Nat × Nat)} (h:EdgesB n₀ W ev es) (hb:Below n₀ W W'):EdgesB n₀ W' ev es:=by
 obtain⟨a,cap,h1,h2⟩:=h;refine⟨a,cap,h1,h2.imp id fun⟨eb,h0,h3,h4⟩=>⟨eb,h0,h3,fun k p hk=>?_⟩⟩;obtain⟨e1,e2,e3⟩:=h4 k p hk;exact⟨(hb.cell h0).trans e1,(hb.cell h0).trans e2,(hb.cell h0).trans e3⟩
theorem EdgesB.at {n₀:Nat} {W:World} {ev:Value} {es:List (Nat × Nat)} (h:EdgesB n₀ W ev es):EdgesAt W ev es:=by
 obtain⟨a,cap,h1,h2⟩:=h;exact⟨a,cap,h1,h2.imp id fun⟨eb,_,h3,h4⟩=>⟨eb,h3,h4⟩⟩
theorem EdgesAt.b {W:World} {ev:Value} {es:List (Nat × Nat)} (h:EdgesAt W ev es):EdgesB W.heap.size W ev es:=by
 obtain⟨a,cap,h1,h2⟩:=h;refine⟨a,cap,h1,?_⟩;rcases h2 with h2 | ⟨eb,h3,h4⟩
 · exact .inl h2
 ·
  match es,h4 with
  | [],_=>exact .inl rfl
  | p :: es,h4=>exact .inr ⟨eb,block_lt_of_cell (h4 0 p rfl).1,h3,h4⟩
abbrev WantN (n:Nat) (ev mv:Value):Value:=.func (.func 26) #[GrN n ev mv] #[]
theorem sides_okN (n:Nat) (ev mv:Value) (w:World) :
  Calls Tryz.prog 47 #[GrN n ev mv,WantN n ev mv] w fun e w'=>e=.returned (.func (.func 68) #[] #[.pointer (some ⟨w.heap.size,0,none⟩),.pointer (some ⟨w.heap.size+1,0,none⟩)])/\w'=(w.alloc (.cells #[.int .i64 (n:Nat),ev,mv] 66)).alloc (.cells #[WantN n ev mv] 75):=by
 have hmf:∀(fn:Fn) (first cap:Array Value) (w:World),(Instr.makeFunc fn first cap).run Tryz.prog w=.ok (.func fn first cap) w:=fun _ _ _ _=>rfl;go_enter Tryz.func47,Tryz.ntmps47;go_wp2_with fail
 go_ret
 exact⟨rfl,rfl⟩
theorem hsN_zero (n s:Nat) (hn:1<=n) (hs:s < 2 ^ n):(!hsN n s 0)=decide (s < 2 ^ (n-1)):=by
 have h2:2 ^ n=2 * 2 ^ (n-1):=by
  obtain⟨m,rfl⟩:∃m,n=m+1:=⟨n-1,by omega⟩
  rw[Nat.pow_succ,Nat.mul_comm]; rfl
 have hp:0 < 2 ^ (n-1):=Nat.pow_pos (by decide);unfold hsN;rw[Nat.sub_zero];generalize 2 ^ (n-1)=P at *
 by_cases h:s < P
 · rw[Nat.div_eq_of_lt h]; simp[h]
 · have e:s / P=1:=Nat.div_eq_of_lt_le (by omega) (by omega);rw[e]; simp[h]
theorem take_range (P:Nat) (h:P<=64) (i:Nat) (hi:i < P):((List.finRange 64).take P).take (i+1)=(((List.finRange 64).take P).take i) ++ [⟨i,by omega⟩]:=by
 rw[List.take_take,List.take_take,Nat.min_eq_left (by omega),Nat.min_eq_left (by omega),List.take_add_one,List.getElem?_eq_getElem (by simp; omega)];simp
theorem sidesN_in (n:Nat) (hn:1<=n/\n<=6) (es:List (Nat × Nat)) (hm:es.length<=15) (hes:∀p∈es,p.1 < p.2/\p.2 < n) (f:Nat) (hf:1<=f) (l G0 G1 n₀:Nat) (ev mv:Value) (J Jx:List (Fin 64)->World->Prop) (W:World) (hzz:n₀<=W.heap.size) (hJ:AbidesFrom W.heap.size J)
  (hY:∀pre x W1,J pre W1->pre.length < 2 ^ (n-1)->YieldAt Fence.wide (f-1) Tryz.prog l #[.int .u64 ((x.val:Nat):Int),.int .i64 (valN n x.val es:Nat)] W1 fun e W' =>
   (e=.returned (.bool true)/\J (pre ++ [x]) W'/\Kp2 n₀ G0 G1 W1 W')∨(e=.returned (.bool false)/\Jx (pre ++ [x]) W'))
  (hg0:W.heap[G0]?=some (.cells #[.int .i64 (n:Nat),ev,mv] 66 (0,0))) (hg1:W.heap[G1]?=some (.cells #[WantN n ev mv] 75 (0,0)))
  (hE:EdgesB n₀ W ev es) (h0:J [] W) :
  CallsIn Fence.wide f Tryz.prog 68 #[.func (.yield l) #[] #[],.pointer (some ⟨G0,0,none⟩),.pointer (some ⟨G1,0,none⟩)] W fun e W'=>(∃v,e=.returned v) /\
   ((∃ys,ys=(List.finRange 64).take (2 ^ (n-1))/\J ys W')∨(∃pre,True/\Jx pre W')):=by
 have hP2:2 ^ n=2 * 2 ^ (n-1):=by
  obtain⟨m,rfl⟩:∃m,n=m+1:=⟨n-1,by omega⟩
  rw[Nat.pow_succ,Nat.mul_comm]; rfl
 have hpr:∀s,s < 2 ^ n->(!hsN n s 0)=decide (s < 2 ^ (n-1)):=fun s=>hsN_zero n s hn.1;obtain⟨P,hP⟩:∃P,2 ^ (n-1)=P:=⟨_,rfl⟩
 have hP1:1<=P:=by rw[<-hP]; exact Nat.pow_pos (by decide)
 have hP32:P<=32:=by rw[<-hP]; exact Nat.le_trans (Nat.pow_le_pow_right (by decide) (show n-1<=5 by omega)) (by decide)
 rw[hP]at hP2 hY ⊢;simp only[hP]at hpr;obtain⟨Q,hQ⟩:∃Q,Q=2 * P:=⟨_,rfl⟩
 rw[hP2,<-hQ]at hpr;have hsh:IntKind.u64.wrap ((2:Int) ^ n)=((Q:Nat):Int):=by
  have e:((2:Int) ^ n)=((Q:Nat):Int):=by rw[hQ,<-hP2]; simp
  rw[e];exact IntWalk.u64_in _ (by omega)
 have hQ1:Q<=2 * P:=by omega
 have hQ2:2 * P<=Q:=by omega
 clear hQ;clear hP hP2;obtain⟨Lr,hLr⟩:∃Lr:Nat->List (Fin 64),Lr=fun i=>((List.finRange 64).take P).take i:=⟨_,rfl⟩
 have hL0:Lr 0 = []:=by rw[hLr]; simp
 have hLs:∀i (h:i < P),Lr (i+1)=Lr i ++ [⟨i,by omega⟩]:=fun i h=>by rw[hLr]; exact take_range P (by omega) i h
 have hLe:∀i,P<=i->Lr i=(List.finRange 64).take P:=fun i h=>by rw[hLr]; exact List.take_of_length_le (by simp; omega)
 have hLl:∀i,(Lr i).length=min i P:=fun i=>by rw[hLr]; simp; omega
 rw[<-hL0]at h0;clear hLr hL0;have HPR0:=Lib.hid hpr;have HLS:=Lib.hid hLs;have HLE:=Lib.hid hLe;have HLL:=Lib.hid hLl;have HSH:=Lib.hid hsh;have HM:=Lib.hid hm;have HES:=Lib.hid hes;clear hpr hLs hLe hLl hsh hm hes;refine callsIn_of_wp Tryz.func68 rfl trivial ?_ rfl;simp only[Tryz.ntmps68,List.size_toArray,List.length_cons,List.length_nil,Nat.reduceAdd,Nat.reduceSub,Array.replicate_succ,Array.replicate_zero,List.push_toArray,List.append_toArray,List.nil_append,List.cons_append];have g0:W.cell? ⟨G0,0,none⟩=some (.int .i64 (n:Nat)):=cell_of_row W _ 0 _ _ _ hg0
 gi_wp2
 rw[HSH.out]
 gi_loopw [8] (fun p wr=>∃i:Nat,p=.int .u64 i/\i<=Q/\J (Lr i) wr/\W.heap.size<=wr.heap.size/\wr.heap[G0]?=some (.cells #[.int .i64 (n:Nat),ev,mv] 66 (0,0))/\wr.heap[G1]?=some (.cells #[WantN n ev mv] 75 (0,0))/\EdgesB n₀ wr ev es) (fun p _=>Q-(intOf p).toNat)
 case atStart=>exact⟨0,rfl,by omega,h0,Nat.le_refl _,hg0,hg1,hE⟩
 case round =>
  clear g0 hg0 hg1 hE h0;obtain⟨i,rfl,hi,hJs,hsz,hg0,hg1,hE⟩:=hrel
  replace hzz:n₀<=wr.heap.size:=Nat.le_trans hzz hsz
  by_cases hi2:i < Q
  ·
   have hi64:i < 64:=by omega
   have hii:Value.int IntKind.u64 ((i:Int)+1)=.int .u64 ((i+1:Nat):Int):=by simp
   have HII:=Lib.hid hii;clear hii;have hpi:=HPR0.out i hi2
   by_cases hiP:i < P
   ·
    rw[decide_eq_true hiP]at hpi;have HPR:=Lib.hid hpi;clear hpi;have g0:wr.cell? ⟨G0,0,none⟩=some (.int .i64 (n:Nat)):=cell_of_row wr _ 0 _ _ _ hg0;have g1:wr.cell? ⟨G0,1,none⟩=some ev:=cell_of_row wr _ 1 _ _ _ hg0;have g2:wr.cell? ⟨G0,2,none⟩=some mv:=cell_of_row wr _ 2 _ _ _ hg0;have g3:wr.cell? ⟨G1,0,none⟩=some (WantN n ev mv):=cell_of_row wr _ 0 _ _ _ hg1;have HG0:=Lib.hid hg0;have HG1:=Lib.hid hg1;have HY:=Lib.hid hY;have HE:=Lib.hid hE;clear hg0 hg1 hY hE
    gi_wp2_with fail
    refine⟨trivial,CallsIn.mono (callsIn_wide.2 (gr_properN n ev mv i hn hi64 _)) ?_⟩;rintro e W2 ⟨rfl,hb2⟩;rw[HPR.out];have hJ2:J (Lr i) W2:=hJ _ _ _ none hJs (grownB hb2) (fun _ e=>by cases e);have hg02:=(hb2.block _ (blk_lt HG0.out)).trans HG0.out;have hg12:=(hb2.block _ (blk_lt HG1.out)).trans HG1.out;have hsz2:=hb2.size;have hE2:=HE.out.below (hb2.mono hzz);clear g0 g1 g2 g3 HE hb2 HG0 HG1 hJs;have g0:W2.cell? ⟨G0,0,none⟩=some (.int .i64 (n:Nat)):=cell_of_row W2 _ 0 _ _ _ hg02;have g1:W2.cell? ⟨G0,1,none⟩=some ev:=cell_of_row W2 _ 1 _ _ _ hg02;have g2:W2.cell? ⟨G0,2,none⟩=some mv:=cell_of_row W2 _ 2 _ _ _ hg02;have HG0:=Lib.hid hg02;have HG1:=Lib.hid hg12;have HE:=Lib.hid hE2;clear hg02 hg12 hE2
    gi_wp2_with fail
    refine⟨trivial,CallsIn.mono (callsIn_wide.2 (gr_valueN n es i ev mv hn.2 hi64 HM.out HES.out _ HE.out.at)) ?_⟩;rintro e W3 ⟨rfl,hb3⟩;have hJ3:J (Lr i) W3:=hJ _ _ _ none hJ2 (grownB hb3) (fun _ e=>by cases e);have hg03:=(hb3.block _ (blk_lt HG0.out)).trans HG0.out;have hg13:=(hb3.block _ (blk_lt HG1.out)).trans HG1.out;have hsz3:=hb3.size;have hE3:=HE.out.below (hb3.mono (Nat.le_trans hzz hsz2));clear g0 g1 g2 HE hb3 HG0 HG1 hJ2;have hvl:valN n i es<=15:=Nat.le_trans (valN_le n i es) HM.out;obtain⟨fn,tmps,assign,body,hy0,hR⟩:=HY.out (Lr i) ⟨i,hi64⟩ W3 hJ3 (by rw[HLL.out]; omega);have hy:(Instr.yield l #[.int .u64 (i:Nat),.int .i64 (valN n i es:Nat)]).run Tryz.prog W3=.ok (.round l fn tmps assign body) W3:=hy0;clear hy0;have HRR:=Lib.hid hR;have HG0:=Lib.hid hg03;have HG1:=Lib.hid hg13;have HE:=Lib.hid hE3;clear hR hg03 hg13 hJ3 hE3
    gi_wp2_with fail
    refine HRR.out.mono ?_;rintro e W4 (⟨rfl,hJ4,hk4⟩ | ⟨rfl,hJx4⟩)
    ·
     have hg04:=hk4.2.1.trans HG0.out;have hg14:=hk4.2.2.trans HG1.out;have hE4:=HE.out.below hk4.1;have hsz4:=hk4.1.size;rw[<-HLS.out i hiP]at hJ4;clear HE hk4 HG0 HG1 hy
     gi_wp2
     go_roundw
     case rel=>exact⟨i+1,HII.out,by omega,hJ4,by omega,hg04,hg14,hE4⟩
     case measure=>simp[intOf]; omega
    ·
     clear hy
     gi_wp2
     refine bodyPost_ret (results_none rfl _ _ _) rfl ?_;exact⟨⟨_,rfl⟩,.inr ⟨_,trivial,hJx4⟩⟩
   ·
    rw[decide_eq_false hiP]at hpi;have HPR:=Lib.hid hpi;clear hpi;have g0:wr.cell? ⟨G0,0,none⟩=some (.int .i64 (n:Nat)):=cell_of_row wr _ 0 _ _ _ hg0;have g1:wr.cell? ⟨G0,1,none⟩=some ev:=cell_of_row wr _ 1 _ _ _ hg0;have g2:wr.cell? ⟨G0,2,none⟩=some mv:=cell_of_row wr _ 2 _ _ _ hg0;have g3:wr.cell? ⟨G1,0,none⟩=some (WantN n ev mv):=cell_of_row wr _ 0 _ _ _ hg1;have HG0:=Lib.hid hg0;have HG1:=Lib.hid hg1;have HY:=Lib.hid hY;have HE:=Lib.hid hE;clear hg0 hg1 hY hE
    gi_wp2_with fail
    refine⟨trivial,CallsIn.mono (callsIn_wide.2 (gr_properN n ev mv i hn hi64 _)) ?_⟩;rintro e W2 ⟨rfl,hb2⟩;rw[HPR.out];have hJ2:J (Lr i) W2:=hJ _ _ _ none hJs (grownB hb2) (fun _ e=>by cases e);have hg02:=(hb2.block _ (blk_lt HG0.out)).trans HG0.out;have hg12:=(hb2.block _ (blk_lt HG1.out)).trans HG1.out;have hsz2:=hb2.size;have hE2:=HE.out.below (hb2.mono hzz);clear g0 g1 g2 g3 HE hb2 HG0 HG1 hJs
    gi_wp2
    refine⟨trivial,?_⟩
    gi_wp2
    refine⟨fun _ _=>trivial,?_⟩
    gi_wp2
    have hJ4:J (Lr (i+1)) W2:=by rw[HLE.out (i+1) (by omega),<-HLE.out i (by omega)]; exact hJ2
    go_roundw
    case rel=>exact⟨i+1,HII.out,by omega,hJ4,by omega,hg02,hg12,hE2⟩
    case measure=>simp[intOf]; omega
  ·
   have hie:=HLE.out i (by omega);rw[hie]at hJs;clear hg0 hg1 hE
   gi_wp2
   go_end0
   first | exact⟨⟨_,rfl⟩,.inl ⟨_,rfl,hJs⟩⟩ | exact .inl ⟨_,rfl,hJs⟩ | exact .inl hJs
open Go.RowKit Go.Shelf
attribute [local go_sem] Oper.semAt_some
/-- best, most, many -/
def bstep (n:Nat) (es:List (Nat × Nat)) (b:Nat × Nat × Nat) (x:Fin 64):Nat × Nat × Nat:=if b.2.2=0 then (x.val,valN n x.val es,1) else if b.2.1 < valN n x.val es then (x.val,valN n x.val es,1) else if valN n x.val es=b.2.1 then (b.1,b.2.1,b.2.2+1) else b
def bstN (n:Nat) (es:List (Nat × Nat)) (pre:List (Fin 64)):Nat × Nat × Nat:=pre.foldl (bstep n es) (0,0,0)
theorem bstN_snoc (n:Nat) (es:List (Nat × Nat)) (pre:List (Fin 64)) (x:Fin 64):bstN n es (pre ++ [x])=bstep n es (bstN n es pre) x:=by simp[bstN,List.foldl_append]
theorem bstN_fold (n:Nat) (es:List (Nat × Nat)):∀(pre:List (Fin 64)) (b:Nat × Nat × Nat),b.1 < 64->b.2.1<=es.length->(pre.foldl (bstep n es) b).1 < 64/\(pre.foldl (bstep n es) b).2.1<=es.length/\(pre.foldl (bstep n es) b).2.2<=b.2.2+pre.length
 | [],b,h1,h2=>⟨h1,h2,by simp⟩
 | x :: pre,b,h1,h2=>by
  have hv:=valN_le n x.val es;have h:(bstep n es b x).1 < 64/\(bstep n es b x).2.1<=es.length/\(bstep n es b x).2.2<=b.2.2+1:=by
   unfold bstep;have hx:=x.isLt
   split
   · exact⟨hx,hv,by simp⟩
   ·
    split
    · exact⟨hx,hv,by simp⟩
    ·
     split
     · exact⟨h1,h2,by simp⟩
     · exact⟨h1,h2,by omega⟩
  obtain⟨a1,a2,a3⟩:=bstN_fold n es pre _ h.1 h.2.1;refine⟨a1,a2,?_⟩;simp only[List.foldl_cons,List.length_cons];omega
theorem bstN_le (n:Nat) (es:List (Nat × Nat)) (pre:List (Fin 64)):(bstN n es pre).1 < 64/\(bstN n es pre).2.1<=es.length/\(bstN n es pre).2.2<=pre.length:=by
 have h:=bstN_fold n es pre (0,0,0) (by decide) (Nat.zero_le _)
 simpa[bstN]using h
def BestN (n:Nat) (es:List (Nat × Nat)) (w:World) (pre:List (Fin 64)) (W:World):Prop :=
 ((W.heap[w.heap.size+1]?=some (.cells #[.int .u64 ((bstN n es pre).1:Nat)] 69 (0,0))/\W.heap[w.heap.size+1+1]?=some (.cells #[.int .i64 (bstN n es pre).2.1] 3 (0,0)))/\W.heap[w.heap.size+1+1+1]?=some (.cells #[.int .i64 (bstN n es pre).2.2] 3 (0,0)))/\Below w.heap.size w W
theorem BestN.all {n:Nat} {es:List (Nat × Nat)} {w W:World} {pre pre':List (Fin 64)} {b m c:Nat} (h:BestN n es w pre W) (hn:bstN n es pre'=(b,m,c)) :
  BestN n es w pre' (((W.setCell ⟨w.heap.size+1,0,none⟩ (.int .u64 (b:Nat))).setCell ⟨w.heap.size+1+1,0,none⟩ (.int .i64 (m:Nat))).setCell ⟨w.heap.size+1+1+1,0,none⟩ (.int .i64 (c:Nat))):=by
 obtain⟨⟨⟨h1,h2⟩,h3⟩,B⟩:=h;unfold BestN;rw[hn];exact⟨⟨⟨blk_farI 0 _ (by omega) (blk_farI 0 _ (by omega) ((blk_setI 0 _ h1).trans rfl)),blk_farI 0 _ (by omega) ((blk_setI 0 _ (blk_farI 0 _ (by omega) h2)).trans rfl)⟩,(blk_setI 0 _ (blk_farI 0 _ (by omega) (blk_farI 0 _ (by omega) h3))).trans rfl⟩,
  ((B.setCell (p:=⟨w.heap.size+1,0,none⟩) (by show w.heap.size<=w.heap.size+1; omega) _).setCell (p:=⟨w.heap.size+1+1,0,none⟩) (by show w.heap.size<=w.heap.size+1+1; omega) _).setCell (p:=⟨w.heap.size+1+1+1,0,none⟩) (by show w.heap.size<=w.heap.size+1+1+1; omega) _⟩
theorem BestN.many {n:Nat} {es:List (Nat × Nat)} {w W:World} {pre pre':List (Fin 64)} {c:Nat} (h:BestN n es w pre W) (hn:bstN n es pre'=((bstN n es pre).1,(bstN n es pre).2.1,c)) :
  BestN n es w pre' (W.setCell ⟨w.heap.size+1+1+1,0,none⟩ (.int .i64 (c:Nat))):=by
 obtain⟨⟨⟨h1,h2⟩,h3⟩,B⟩:=h;unfold BestN;rw[hn];exact⟨⟨⟨blk_farI 0 _ (by omega) h1,blk_farI 0 _ (by omega) h2⟩,(blk_setI 0 _ h3).trans rfl⟩,B.setCell (p:=⟨w.heap.size+1+1+1,0,none⟩) (by show w.heap.size<=w.heap.size+1+1+1; omega) _⟩
theorem BestN.same {n:Nat} {es:List (Nat × Nat)} {w W:World} {pre pre':List (Fin 64)} (h:BestN n es w pre W) (hn:bstN n es pre'=bstN n es pre):BestN n es w pre' W:=by
 unfold BestN at h ⊢;rw[hn]; exact h
theorem best_gen (n:Nat) (hn:1<=n/\n<=6) (es:List (Nat × Nat)) (hm:es.length<=15) (hes:∀p∈es,p.1 < p.2/\p.2 < n) (ev mv:Value) (w:World) (hE:EdgesAt w ev es) :
  Calls Tryz.prog 25 #[GrN n ev mv,WantN n ev mv] w fun e w'=>e=.returned (.tuple #[.int .u64 ((bstN n es ((List.finRange 64).take (2 ^ (n-1)))).1:Nat),.int .i64 ((bstN n es ((List.finRange 64).take (2 ^ (n-1)))).2.1:Nat),.int .i64 ((bstN n es ((List.finRange 64).take (2 ^ (n-1)))).2.2:Nat)])/\Below w.heap.size w w':=by
 have hmix:Tryz.prog.follows .mixedOrders=true:=by kernel_rfl
 have hPP:2 ^ (n-1)<=32:=Nat.le_trans (Nat.pow_le_pow_right (by decide) (show n-1<=5 by omega)) (by decide);obtain⟨P,hP⟩:∃P,2 ^ (n-1)=P:=⟨_,rfl⟩
 rw[hP]at hPP ⊢;have HPE:=Lib.hid hP;have HES:=Lib.hid hes;clear hP hes;refine(callsIn_wide (n:=9)).1 ?_;refine callsIn_of_wp_marks Tryz.func25 rfl trivial ?_ rfl;simp only[Tryz.ntmps25,List.size_toArray,List.length_cons,List.length_nil,Nat.reduceAdd,Nat.reduceSub,Array.replicate_succ,Array.replicate_zero,List.push_toArray,List.append_toArray,List.nil_append,List.cons_append]
 gi_wp2_with (first
  | (refine⟨trivial,?_⟩; gi_at_call 47; refine CallsIn.mono (callsIn_wide.2 (sides_okN _ _ _ _)) ?_; rintro e w' ⟨rfl,rfl⟩)
  | fail)
 obtain⟨W0,h0⟩:∃W0,W0=((((((w.alloc (.cells #[.int .i64 (n:Nat),ev,mv] 66)).alloc (.cells #[.int .u64 0] 69)).alloc (.cells #[.int .i64 0] 3)).alloc (.cells #[.int .i64 0] 3)).alloc (.cells #[.int .i64 (n:Nat),ev,mv] 66)).alloc (.cells #[WantN n ev mv] 75)):=⟨_,rfl⟩
 rw[<-h0];have Z0:W0.heap[w.heap.size+1]?=some (.cells #[.int .u64 0] 69 (0,0)):=by rw[h0]; exact(by repeat (first | assumption | (with_reducible apply blk_set2) | (with_reducible apply blk_set1) | (with_reducible refine blk_far2 ?_ ?_; (first | omega | (simp; done) | (simp; omega))) | (with_reducible refine blk_far1 ?_ ?_; (first | omega | (simp; done) | (simp; omega))) | (with_reducible refine blk_new' _ _ ?_; (first | omega | (simp; done) | (simp; omega))) | (with_reducible refine blk_old ?_) | (with_reducible refine blk_drew ?_)))
 have Z1:W0.heap[w.heap.size+1+1]?=some (.cells #[.int .i64 0] 3 (0,0)):=by rw[h0]; exact(by repeat (first | assumption | (with_reducible apply blk_set2) | (with_reducible apply blk_set1) | (with_reducible refine blk_far2 ?_ ?_; (first | omega | (simp; done) | (simp; omega))) | (with_reducible refine blk_far1 ?_ ?_; (first | omega | (simp; done) | (simp; omega))) | (with_reducible refine blk_new' _ _ ?_; (first | omega | (simp; done) | (simp; omega))) | (with_reducible refine blk_old ?_) | (with_reducible refine blk_drew ?_)))
 have Z2:W0.heap[w.heap.size+1+1+1]?=some (.cells #[.int .i64 0] 3 (0,0)):=by rw[h0]; exact(by repeat (first | assumption | (with_reducible apply blk_set2) | (with_reducible apply blk_set1) | (with_reducible refine blk_far2 ?_ ?_; (first | omega | (simp; done) | (simp; omega))) | (with_reducible refine blk_far1 ?_ ?_; (first | omega | (simp; done) | (simp; omega))) | (with_reducible refine blk_new' _ _ ?_; (first | omega | (simp; done) | (simp; omega))) | (with_reducible refine blk_old ?_) | (with_reducible refine blk_drew ?_)))
 have Z3:W0.heap[w.heap.size+1+1+1+1]?=some (.cells #[.int .i64 (n:Nat),ev,mv] 66 (0,0)):=by rw[h0]; exact(by repeat (first | assumption | (with_reducible apply blk_set2) | (with_reducible apply blk_set1) | (with_reducible refine blk_far2 ?_ ?_; (first | omega | (simp; done) | (simp; omega))) | (with_reducible refine blk_far1 ?_ ?_; (first | omega | (simp; done) | (simp; omega))) | (with_reducible refine blk_new' _ _ ?_; (first | omega | (simp; done) | (simp; omega))) | (with_reducible refine blk_old ?_) | (with_reducible refine blk_drew ?_)))
 have Z4:W0.heap[w.heap.size+1+1+1+1+1]?=some (.cells #[WantN n ev mv] 75 (0,0)):=by rw[h0]; exact(by repeat (first | assumption | (with_reducible apply blk_set2) | (with_reducible apply blk_set1) | (with_reducible refine blk_far2 ?_ ?_; (first | omega | (simp; done) | (simp; omega))) | (with_reducible refine blk_far1 ?_ ?_; (first | omega | (simp; done) | (simp; omega))) | (with_reducible refine blk_new' _ _ ?_; (first | omega | (simp; done) | (simp; omega))) | (with_reducible refine blk_old ?_) | (with_reducible refine blk_drew ?_)))
 have B0:Below w.heap.size w W0:=by rw[h0]; exact(by repeat (first | exact Below.refl _ _ | exact Nat.le_refl _ | refine Below.alloc ?_ ?_ _ | refine Below.setCell ?_ ?_ _ | refine Below.drew ?_ | refine bl_drewN ?_ _ | (assumption) | refine bl_call ?_ (by assumption) ?_ | omega | (simp <;> omega)))
 have hsz:W0.heap.size=w.heap.size+6:=by rw[h0]; simp
 clear h0;have hEB:=EdgesB.below hE.b B0;refine wpIn_rangeFunc_ownH (α:=Fin 64) rfl (by omega) (gf:=68) (lb:=#[.pointer (some ⟨w.heap.size+1+1+1+1,0,none⟩),.pointer (some ⟨w.heap.size+1+1+1+1+1,0,none⟩)]) rfl trivial (enters_of Tryz.func68 (by kernel_rfl) rfl)
  (encs:=fun k=>#[.int .u64 ((k.val:Nat):Int),.int .i64 (valN n k.val es:Nat)]) (Kp:=Kp2 w.heap.size (w.heap.size+1+1+1+1) (w.heap.size+1+1+1+1+1)) (S:=fun ys=>ys=(List.finRange 64).take P) (Sp:=fun _=>True) (N:=P) (w0:=W0)
  (fun l J Jx W hW hJ _ hY h0=>by
   have h:=sidesN_in n hn es hm HES.out 8 (by omega) l (w.heap.size+1+1+1+1) (w.heap.size+1+1+1+1+1) w.heap.size ev mv J Jx W (by have:=hW.size; omega) hJ (by rw[HPE.out]; exact hY) ((hW.block _ (by omega)).trans Z3) ((hW.block _ (by omega)).trans Z4) (hEB.below (hW.mono (by omega))) h0;rw[HPE.out]at h;exact h)
  (fun h1 h2=>h1.trans h2) (fun W l o o' hl h1 h2 h3=>⟨belowK_b (w:=w) (Nat.le_refl _) W l _ _ (by omega) h1 h2 h3,World.putObj_heap_other (by omega),World.putObj_heap_other (by omega)⟩) (Below.refl _ _) (fun _=>rfl)
  (BestN n es w) (fun _ _ _=>False)
  (OwnFrom.and (OwnFrom.and (OwnFrom.and (Own.from (cellOwn _ _ (fun _=>rfl)) _) (Own.from (cellOwn _ _ (fun _=>rfl)) _)) (Own.from (cellOwn _ _ (fun _=>rfl)) _)) (ownFrom_below (Nat.le_refl _) (by omega)))
  (fun _ _ _ _ _ hs _ _=>hs)
  ⟨⟨⟨Z0,Z1⟩,Z2⟩,B0⟩
  (fun k a' W=>a' = { tmps:=#[GrN n ev mv,WantN n ev mv,.pointer (some ⟨w.heap.size,0,none⟩),undef,.int .u64 0,.int .i64 0,.int .i64 0,.pointer (some ⟨w.heap.size+1,0,none⟩),.pointer (some ⟨w.heap.size+1+1,0,none⟩),.pointer (some ⟨w.heap.size+1+1+1,0,none⟩),.int .u64 ((k.val:Nat):Int),.int .i64 (valN n k.val es:Nat),GrN n ev mv,WantN n ev mv,.func (.func 68) #[] #[.pointer (some ⟨w.heap.size+1+1+1+1,0,none⟩),.pointer (some ⟨w.heap.size+1+1+1+1+1,0,none⟩)],.int .u64 ((k.val:Nat):Int),.int .i64 (valN n k.val es:Nat),undef,undef,undef,undef,undef,undef,undef,undef,undef,undef,undef,undef,undef,undef,undef,undef,undef,undef,undef],defers:=[] })
  (fun k a' _ X Y row hs hg hr=>hs)
  ?assign ?body ?done ?stop
 case assign =>
  rintro l pre k W K hI hK;have HK:=Lib.hid hK;have HI:=Lib.hid hI;clear hK hI
  gi_wp2
  exact HK.out _ _ ((KeepsOthers.refl _).from _) ⟨Below.refl _ _,rfl,rfl⟩ HI.out rfl
 case body =>
  rintro l pre x a' W hl ⟨r,hr⟩ hI rfl hlt;have HI:=Lib.hid hI;have hb:=bstN_snoc n es pre x;have hb0:=bstN_le n es pre;have hv:=valN_le n x.val es;have hx64:=x.isLt;obtain⟨⟨⟨h1,h2⟩,h3⟩,B⟩:=hI;obtain⟨b,m,c,hbm⟩:∃b m c,bstN n es pre=(b,m,c):=⟨_,_,_,rfl⟩
  rw[hbm]at h1 h2 h3 hb hb0;obtain⟨xv,hxv⟩:∃xv,x.val=xv:=⟨_,rfl⟩
  unfold bstep at hb;rw[hxv]at hb hv hx64 ⊢;obtain⟨v,hvv⟩:∃v,valN n xv es=v:=⟨_,rfl⟩
  rw[hvv]at hb hv ⊢;dsimp only at hb h1 h2 h3 hb0;have c1:=row1_0 h1;have c2:=row1_0 h2;have c3:=row1_0 h3;have f1:=row_f h1;have f2:=row_f h2;have f3:=row_f h3;have hc33:c<=33:=by omega
  have HBM:=Lib.hid hbm;clear h1 h2 h3 hr Z0 Z1 Z2 Z3 Z4 hEB hE hlt hbm hb0 hxv hvv hPP HPE HES
  by_cases hc0:c=0
  ·
   rw[if_pos hc0]at hb;have HB:=Lib.hid hb;clear hb;subst hc0
   gi_wp2
   exact⟨((KeepsOthers.setCell _ _ _).trans ((KeepsOthers.setCell _ _ _).trans (KeepsOthers.setCell _ _ _))).from _,kpAll,HI.out.all (HB.out)⟩
  ·
   rw[if_neg hc0]at hb;have q0:((c:Int) == 0)=false:=by simp; omega
   by_cases hmv:m < v
   ·
    rw[if_pos hmv]at hb;have HB:=Lib.hid hb;clear hb
    gi_wp2
    exact⟨((KeepsOthers.setCell _ _ _).trans ((KeepsOthers.setCell _ _ _).trans (KeepsOthers.setCell _ _ _))).from _,kpAll,HI.out.all (HB.out)⟩
   ·
    rw[if_neg hmv]at hb
    by_cases hve:v=m
    ·
     rw[if_pos hve]at hb;have HB:=Lib.hid hb;clear hb;subst hve
     gi_wp2
     exact⟨(KeepsOthers.setCell _ _ _).from _,kpMany,HI.out.many (HB.out.trans (by rw[HBM.out]))⟩
    ·
     rw[if_neg hve]at hb;have HB:=Lib.hid hb;clear hb
     gi_wp2
     exact⟨(KeepsOthers.refl _).from _,⟨Below.refl _ _,rfl,rfl⟩,HI.out.same (HB.out.trans (by rw[HBM.out]))⟩
 case done =>
  rintro D zs W hD rfl ⟨⟨⟨h1,h2⟩,h3⟩,B⟩ hK;have c1:=row1_0 h1;have c2:=row1_0 h2;have c3:=row1_0 h3;obtain⟨b,m,c,hbm⟩:∃b m c,bstN n es ((List.finRange 64).take P)=(b,m,c):=⟨_,_,_,rfl⟩
  rw[hbm]at c1 c2 c3;have hb0:=bstN_le n es ((List.finRange 64).take P);rw[hbm]at hb0;dsimp only at c1 c2 c3 hb0;have HBM:=Lib.hid hbm;clear h1 h2 h3 hbm
  gi_wp2
  gi_big_quiet_th (fail)
  gi_wp2
  have hK':(W.drewN nq).heap[D]?=some (.deferred (some [])):=hK;have B':Below w.heap.size w (W.drewN nq):=⟨B.os,B.tape,B.output,B.size,B.block⟩
  refine⟨by simp,.inl ⟨_,_,rfl,run_takeDeferred hK',?_⟩⟩;exact⟨.tuple #[.int .u64 (b:Nat),.int .i64 (m:Nat),.int .i64 (c:Nat)],by simp[results,Tryz.results25,go_sem],by rw[HBM.out],B'.trans (belowK_b (w:=w) (Nat.le_refl _) _ D _ _ (by omega) hK' rfl rfl)⟩
 case stop =>
  rintro D c pre W _ _ h _;exact h.elim
end Go.Proofs.YtaffkceklkdokaaGreatDoor
