/- The steps of the machine. -/
import Derived.RangeFuncNested
import Derived.RangeFuncBound
import Derived.RangeFuncCalls
import Derived.RangeFuncLeaves
import Derived.Shelf.Abstract
import Derived.Shelf.RegionOpen
import Derived.WalkKit
import Derived.OwnWalkIn
import Derived.TacticsInMore
import Derived.LoopNIn
import Derived.LoopIn
import Derived.Sort.BigQuietIn
import Derived.Test.YtaffkceklkdokaaGreatDoorTM
set_option maxRecDepth 100000
set_option maxHeartbeats 4000000
namespace Go.Proofs.YtaffkceklkdokaaGreatDoor
open Go.RowKit Go.Shelf
attribute [local go_sem] Oper.semAt_some
def RA:Nat->Int
 | 0=>1 | 1=>-1 | 2=>3 | _=>-1
def RB:Nat->Int
 | 0=>2 | _=>-1
/-- the machine lies there -/
structure Mach (W:World) (L mb gs cs gn cn:Nat) (r c:Nat->Nat):Prop where
 m1:W.cell? ⟨mb,1,none⟩=some (.slice (some ⟨gs,0,none⟩) 4 cs)
 m2:W.cell? ⟨mb,2,none⟩=some (.slice (some ⟨gn,0,none⟩) 4 cn)
 row:∀i,i < 4->W.cell? ⟨gn,i,none⟩=some (.slice (some ⟨r i,0,none⟩) 2 (c i))/\W.cell? ⟨r i,0,none⟩=some (.int .i64 (RA i))/\W.cell? ⟨r i,1,none⟩=some (.int .i64 (RB i))/\r i < L
 lt:mb < L/\gn < L
theorem Mach.keep {W W':World} {L mb gs cs gn cn:Nat} {r c:Nat->Nat} (h:Mach W L mb gs cs gn cn r c) (hb:∀k,k < L->W'.heap[k]?=W.heap[k]?):Mach W' L mb gs cs gn cn r c:=by
 have k:∀{b j:Nat} {v:Value},b < L->W.cell? ⟨b,j,none⟩=some v->W'.cell? ⟨b,j,none⟩=some v:=fun {b j v} hlt hv=>(World.cell?_of_block (a:=⟨b,j,none⟩) (hb b hlt)).trans hv;exact⟨k h.lt.1 h.m1,k h.lt.1 h.m2,fun i hi=>⟨k h.lt.2 (h.row i hi).1,k (h.row i hi).2.2.2 (h.row i hi).2.1,k (h.row i hi).2.2.2 (h.row i hi).2.2.1,(h.row i hi).2.2.2⟩,h.lt⟩
theorem NM.machine {w W:World} {g cs:Nat} {nv:Value} (h:NM w W W.heap.size g cs 4 nv [(1,2),(-1,-1),(3,-1),(-1,-1)]):∃gn cn r c,Mach W W.heap.size (w.heap.size+1) g cs gn cn r c:=by
 obtain⟨h1,h2,h3,⟨rvs,h4,h5⟩,h6⟩:=h;obtain⟨gn,cn,rfl⟩:=ownsRow_succ h4;have key:∀i,∃x:Nat × Nat,i < 4->W.cell? ⟨gn,i,none⟩=some (.slice (some ⟨x.1,0,none⟩) 2 x.2)/\W.cell? ⟨x.1,0,none⟩=some (.int .i64 (RA i))/\W.cell? ⟨x.1,1,none⟩=some (.int .i64 (RB i))/\x.1 < W.heap.size:=by
  intro i
  by_cases hi:i < 4
  · obtain⟨gk,ck,cur,e1,e2,e3,e4,e5⟩:=h5 i (RA i,RB i) (by rcases (by omega:i=0∨i=1∨i=2∨i=3) with rfl | rfl | rfl | rfl <;> rfl);exact⟨(gk,ck),fun _=>⟨own_cell h4 e1,(cell_of_row W gk 0 _ _ _ e3).trans e4,(cell_of_row W gk 1 _ _ _ e3).trans e5,e2⟩⟩
  · exact⟨(0,0),fun h=>absurd h hi⟩
 obtain⟨f,hf⟩:=Classical.axiomOfChoice key;have m1:W.cell? ⟨w.heap.size+1,1,none⟩=some (.slice (some ⟨g,0,none⟩) 4 cs):=cell_of_row W _ 1 _ _ _ h1;have m2:W.cell? ⟨w.heap.size+1,2,none⟩=some (.slice (some ⟨gn,0,none⟩) 4 cn):=cell_of_row W _ 2 _ _ _ h1;exact⟨gn,cn,fun i=>(f i).1,fun i=>(f i).2,m1,m2,hf,blk_lt h1,by
  obtain⟨cur,hc,-⟩:=own_blk h4;exact blk_lt hc⟩
theorem steps_ok (mb:Nat) (i:Int) (w:World) :
  Calls Tryz.prog 115 #[.pointer (some ⟨mb,0,none⟩),.int .i64 i] w fun e w'=>e=.returned (.func (.func 140) #[] #[.pointer (some ⟨w.heap.size,0,none⟩),.pointer (some ⟨w.heap.size+1,0,none⟩)])/\w'=(w.alloc (.cells #[.pointer (some ⟨mb,0,none⟩)] 177)).alloc (.cells #[.int .i64 i] 3):=by
 have hmf:∀(fn:Fn) (first cap:Array Value) (w:World),(Instr.makeFunc fn first cap).run Tryz.prog w=.ok (.func fn first cap) w:=fun _ _ _ _=>rfl;go_enter Tryz.func115,Tryz.ntmps115;go_wp2_with fail
 go_ret
 exact⟨rfl,rfl⟩
def enB:Bool->Array Value
 | false=>#[.string ⟨#[97]⟩,.int .i64 1]
 | true=>#[.string ⟨#[98]⟩,.int .i64 2]
def enU:Unit->Array Value:=fun _=>#[.string ⟨#[97]⟩,.int .i64 3]
def pB:Nat->List Bool
 | 0=>[] | 1=>[false] | _=>[false,true]
def pU:Nat->List Unit
 | 0=>[] | _=>[()]
def p0:Nat->List Unit:=fun _=>[]
theorem steps1_0 (n:Nat) (hn:1<=n) (l G0 G1 L mb gs cs gn cn:Nat) (r c:Nat->Nat) (J Jx:List Bool->World->Prop) (W:World) (hJ:AbidesFrom W.heap.size J)
  (hY:∀pre x W1,J pre W1->pre.length < 2->YieldAt Fence.wide (n-1) Tryz.prog l (enB x) W1 fun e W' =>
   (e=.returned (.bool true)/\J (pre ++ [x]) W'/\Below L W1 W')∨(e=.returned (.bool false)/\Jx (pre ++ [x]) W'))
  (hg0:W.cell? ⟨G0,0,none⟩=some (.pointer (some ⟨mb,0,none⟩))) (hg1:W.cell? ⟨G1,0,none⟩=some (.int .i64 0)) (hMa:Mach W L mb gs cs gn cn r c) (h0:J [] W) :
  CallsIn Fence.wide n Tryz.prog 140 #[.func (.yield l) #[] #[],.pointer (some ⟨G0,0,none⟩),.pointer (some ⟨G1,0,none⟩)] W fun e W'=>(∃v,e=.returned v) /\
   ((∃ys,ys=pB 2/\J ys W')∨(∃pre,True/\Jx pre W')):=by
 refine callsIn_of_wp Tryz.func140 rfl trivial ?_ rfl;simp only[Tryz.ntmps140,List.size_toArray,List.length_cons,List.length_nil,Nat.reduceAdd,Nat.reduceSub,Array.replicate_succ,Array.replicate_zero,List.push_toArray,List.append_toArray,List.nil_append,List.cons_append];have m2:=hMa.m2;have q0:=(hMa.row 0 (by decide)).1
 gi_upto_region 0 with fail
 gi_big_quiet_th (fail)
 have hJq:J [] (W.drewN nq):=hJ _ _ _ none h0 ⟨rfl,rfl,rfl,Nat.le_refl _,fun k _ _=>rfl⟩ (fun _ e=>by cases e);have hMq:Mach (W.drewN nq) L mb gs cs gn cn r c:=hMa.keep (fun _ _=>rfl);have hzq:W.heap.size<=(W.drewN nq).heap.size:=Nat.le_refl _;obtain⟨Wq,hWq⟩:∃Wq,Wq=W.drewN nq:=⟨_,rfl⟩
 rw[<-hWq]at hJq hMq hzq ⊢;clear hWq h0 hMa m2 q0
 gi_wp2
 gi_loopw [14] (fun p wr=>∃k:Nat,p=.int .i64 k/\k<=2/\J (pB k) wr/\Mach wr L mb gs cs gn cn r c/\W.heap.size<=wr.heap.size) (fun p _=>2-(intOf p).toNat)
 case atStart=>exact⟨0,rfl,by decide,hJq,hMq,hzq⟩
 case round =>
  clear hJq hMq hzq;obtain⟨k,rfl,hk,hJs,hMa,hsz⟩:=hrel;have q1:=(hMa.row 0 (by decide)).2.1;have q2:=(hMa.row 0 (by decide)).2.2.1;simp only[RA,RB]at q1 q2;rcases (by omega:k=0∨k=1∨k=2) with rfl | rfl | rfl
  ·
   have hu:=hk;clear hu;have hlo:¬1 < 0:=by decide
   have hex:(⟨#[97,98,99]⟩:ByteArray).extract 0 (0+1)=⟨#[97]⟩:=by kernel_rfl
   obtain⟨fn,tmps,assign,body,hy0,hR⟩:=hY (pB 0) false wr hJs (by decide);have hy:(Instr.yield l #[.string ⟨#[97]⟩,.int .i64 1]).run Tryz.prog wr=.ok (.round l fn tmps assign body) wr:=hy0;clear hy0;have HRR:=Lib.hid hR;have HMa:=Lib.hid hMa;have HY:=Lib.hid hY;clear hR hMa hJs hY
   gi_wp2_with fail
   refine HRR.out.mono ?_;rintro e W4 (⟨rfl,hJ4,hk4⟩ | ⟨rfl,hJx4⟩)
   ·
    have hM4:=HMa.out.keep (fun k hk=>hk4.block k hk);have hsz4:=hk4.size;clear hk4 hy
    gi_wp2
    go_roundw
    case rel=>exact⟨0+1,rfl,by decide,hJ4,hM4,by omega⟩
    case measure=>decide
   ·
    clear hy
    gi_wp2
    refine bodyPost_ret (results_none rfl _ _ _) rfl ?_;exact⟨⟨_,rfl⟩,.inr ⟨_,trivial,hJx4⟩⟩
  ·
   have hu:=hk;clear hu;have hlo:¬2 < 0:=by decide
   have hex:(⟨#[97,98,99]⟩:ByteArray).extract 1 (1+1)=⟨#[98]⟩:=by kernel_rfl
   obtain⟨fn,tmps,assign,body,hy0,hR⟩:=hY (pB 1) true wr hJs (by decide);have hy:(Instr.yield l #[.string ⟨#[98]⟩,.int .i64 2]).run Tryz.prog wr=.ok (.round l fn tmps assign body) wr:=hy0;clear hy0;have HRR:=Lib.hid hR;have HMa:=Lib.hid hMa;have HY:=Lib.hid hY;clear hR hMa hJs hY
   gi_wp2_with fail
   refine HRR.out.mono ?_;rintro e W4 (⟨rfl,hJ4,hk4⟩ | ⟨rfl,hJx4⟩)
   ·
    have hM4:=HMa.out.keep (fun k hk=>hk4.block k hk);have hsz4:=hk4.size;clear hk4 hy
    gi_wp2
    go_roundw
    case rel=>exact⟨1+1,rfl,by decide,hJ4,hM4,by omega⟩
    case measure=>decide
   ·
    clear hy
    gi_wp2
    refine bodyPost_ret (results_none rfl _ _ _) rfl ?_;exact⟨⟨_,rfl⟩,.inr ⟨_,trivial,hJx4⟩⟩
  ·
   clear hMa
   gi_wp2
   go_end0
   first | exact⟨⟨_,rfl⟩,.inl ⟨_,rfl,hJs⟩⟩ | exact .inl ⟨_,rfl,hJs⟩ | exact .inl hJs
theorem steps1_1 (n:Nat) (hn:1<=n) (l G0 G1 L mb gs cs gn cn:Nat) (r c:Nat->Nat) (J Jx:List Unit->World->Prop) (W:World) (hJ:AbidesFrom W.heap.size J)
  (_:∀pre x W1,J pre W1->pre.length < 0->YieldAt Fence.wide (n-1) Tryz.prog l (enU x) W1 fun e W' =>
   (e=.returned (.bool true)/\J (pre ++ [x]) W'/\Below L W1 W')∨(e=.returned (.bool false)/\Jx (pre ++ [x]) W'))
  (hg0:W.cell? ⟨G0,0,none⟩=some (.pointer (some ⟨mb,0,none⟩))) (hg1:W.cell? ⟨G1,0,none⟩=some (.int .i64 1)) (hMa:Mach W L mb gs cs gn cn r c) (h0:J [] W) :
  CallsIn Fence.wide n Tryz.prog 140 #[.func (.yield l) #[] #[],.pointer (some ⟨G0,0,none⟩),.pointer (some ⟨G1,0,none⟩)] W fun e W'=>(∃v,e=.returned v) /\
   ((∃ys,ys=p0 2/\J ys W')∨(∃pre,True/\Jx pre W')):=by
 refine callsIn_of_wp Tryz.func140 rfl trivial ?_ rfl;simp only[Tryz.ntmps140,List.size_toArray,List.length_cons,List.length_nil,Nat.reduceAdd,Nat.reduceSub,Array.replicate_succ,Array.replicate_zero,List.push_toArray,List.append_toArray,List.nil_append,List.cons_append];have m2:=hMa.m2;have q0:=(hMa.row 1 (by decide)).1
 gi_upto_region 0 with fail
 gi_big_quiet_th (fail)
 have hJq:J [] (W.drewN nq):=hJ _ _ _ none h0 ⟨rfl,rfl,rfl,Nat.le_refl _,fun k _ _=>rfl⟩ (fun _ e=>by cases e);have hMq:Mach (W.drewN nq) L mb gs cs gn cn r c:=hMa.keep (fun _ _=>rfl);have hzq:W.heap.size<=(W.drewN nq).heap.size:=Nat.le_refl _;obtain⟨Wq,hWq⟩:∃Wq,Wq=W.drewN nq:=⟨_,rfl⟩
 rw[<-hWq]at hJq hMq hzq ⊢;clear hWq h0 hMa m2 q0
 gi_wp2
 gi_loopw [14] (fun p wr=>∃k:Nat,p=.int .i64 k/\k<=2/\J (p0 k) wr/\Mach wr L mb gs cs gn cn r c/\W.heap.size<=wr.heap.size) (fun p _=>2-(intOf p).toNat)
 case atStart=>exact⟨0,rfl,by decide,hJq,hMq,hzq⟩
 case round =>
  clear hJq hMq hzq;obtain⟨k,rfl,hk,hJs,hMa,hsz⟩:=hrel;have q1:=(hMa.row 1 (by decide)).2.1;have q2:=(hMa.row 1 (by decide)).2.2.1;simp only[RA,RB]at q1 q2;rcases (by omega:k=0∨k=1∨k=2) with rfl | rfl | rfl
  ·
   have hu:=hk;clear hu
   gi_wp2
   refine⟨fun _ _=>trivial,?_⟩
   gi_wp2
   go_roundw
   case rel=>exact⟨0+1,rfl,by decide,hJs,hMa,by omega⟩
   case measure=>decide
  ·
   have hu:=hk;clear hu
   gi_wp2
   refine⟨fun _ _=>trivial,?_⟩
   gi_wp2
   go_roundw
   case rel=>exact⟨1+1,rfl,by decide,hJs,hMa,by omega⟩
   case measure=>decide
  ·
   clear hMa
   gi_wp2
   go_end0
   first | exact⟨⟨_,rfl⟩,.inl ⟨_,rfl,hJs⟩⟩ | exact .inl ⟨_,rfl,hJs⟩ | exact .inl hJs
theorem steps1_2 (n:Nat) (hn:1<=n) (l G0 G1 L mb gs cs gn cn:Nat) (r c:Nat->Nat) (J Jx:List Unit->World->Prop) (W:World) (hJ:AbidesFrom W.heap.size J)
  (hY:∀pre x W1,J pre W1->pre.length < 1->YieldAt Fence.wide (n-1) Tryz.prog l (enU x) W1 fun e W' =>
   (e=.returned (.bool true)/\J (pre ++ [x]) W'/\Below L W1 W')∨(e=.returned (.bool false)/\Jx (pre ++ [x]) W'))
  (hg0:W.cell? ⟨G0,0,none⟩=some (.pointer (some ⟨mb,0,none⟩))) (hg1:W.cell? ⟨G1,0,none⟩=some (.int .i64 2)) (hMa:Mach W L mb gs cs gn cn r c) (h0:J [] W) :
  CallsIn Fence.wide n Tryz.prog 140 #[.func (.yield l) #[] #[],.pointer (some ⟨G0,0,none⟩),.pointer (some ⟨G1,0,none⟩)] W fun e W'=>(∃v,e=.returned v) /\
   ((∃ys,ys=pU 2/\J ys W')∨(∃pre,True/\Jx pre W')):=by
 refine callsIn_of_wp Tryz.func140 rfl trivial ?_ rfl;simp only[Tryz.ntmps140,List.size_toArray,List.length_cons,List.length_nil,Nat.reduceAdd,Nat.reduceSub,Array.replicate_succ,Array.replicate_zero,List.push_toArray,List.append_toArray,List.nil_append,List.cons_append];have m2:=hMa.m2;have q0:=(hMa.row 2 (by decide)).1
 gi_upto_region 0 with fail
 gi_big_quiet_th (fail)
 have hJq:J [] (W.drewN nq):=hJ _ _ _ none h0 ⟨rfl,rfl,rfl,Nat.le_refl _,fun k _ _=>rfl⟩ (fun _ e=>by cases e);have hMq:Mach (W.drewN nq) L mb gs cs gn cn r c:=hMa.keep (fun _ _=>rfl);have hzq:W.heap.size<=(W.drewN nq).heap.size:=Nat.le_refl _;obtain⟨Wq,hWq⟩:∃Wq,Wq=W.drewN nq:=⟨_,rfl⟩
 rw[<-hWq]at hJq hMq hzq ⊢;clear hWq h0 hMa m2 q0
 gi_wp2
 gi_loopw [14] (fun p wr=>∃k:Nat,p=.int .i64 k/\k<=2/\J (pU k) wr/\Mach wr L mb gs cs gn cn r c/\W.heap.size<=wr.heap.size) (fun p _=>2-(intOf p).toNat)
 case atStart=>exact⟨0,rfl,by decide,hJq,hMq,hzq⟩
 case round =>
  clear hJq hMq hzq;obtain⟨k,rfl,hk,hJs,hMa,hsz⟩:=hrel;have q1:=(hMa.row 2 (by decide)).2.1;have q2:=(hMa.row 2 (by decide)).2.2.1;simp only[RA,RB]at q1 q2;rcases (by omega:k=0∨k=1∨k=2) with rfl | rfl | rfl
  ·
   have hu:=hk;clear hu;have hlo:¬3 < 0:=by decide
   have hex:(⟨#[97,98,99]⟩:ByteArray).extract 0 (0+1)=⟨#[97]⟩:=by kernel_rfl
   obtain⟨fn,tmps,assign,body,hy0,hR⟩:=hY (pU 0) () wr hJs (by decide);have hy:(Instr.yield l #[.string ⟨#[97]⟩,.int .i64 3]).run Tryz.prog wr=.ok (.round l fn tmps assign body) wr:=hy0;clear hy0;have HRR:=Lib.hid hR;have HMa:=Lib.hid hMa;have HY:=Lib.hid hY;clear hR hMa hJs hY
   gi_wp2_with fail
   refine HRR.out.mono ?_;rintro e W4 (⟨rfl,hJ4,hk4⟩ | ⟨rfl,hJx4⟩)
   ·
    have hM4:=HMa.out.keep (fun k hk=>hk4.block k hk);have hsz4:=hk4.size;clear hk4 hy
    gi_wp2
    go_roundw
    case rel=>exact⟨0+1,rfl,by decide,hJ4,hM4,by omega⟩
    case measure=>decide
   ·
    clear hy
    gi_wp2
    refine bodyPost_ret (results_none rfl _ _ _) rfl ?_;exact⟨⟨_,rfl⟩,.inr ⟨_,trivial,hJx4⟩⟩
  ·
   have hu:=hk;clear hu
   gi_wp2
   refine⟨fun _ _=>trivial,?_⟩
   gi_wp2
   go_roundw
   case rel=>exact⟨1+1,rfl,by decide,hJs,hMa,by omega⟩
   case measure=>decide
  ·
   clear hMa
   gi_wp2
   go_end0
   first | exact⟨⟨_,rfl⟩,.inl ⟨_,rfl,hJs⟩⟩ | exact .inl ⟨_,rfl,hJs⟩ | exact .inl hJs
theorem steps1_3 (n:Nat) (hn:1<=n) (l G0 G1 L mb gs cs gn cn:Nat) (r c:Nat->Nat) (J Jx:List Unit->World->Prop) (W:World) (hJ:AbidesFrom W.heap.size J)
  (_:∀pre x W1,J pre W1->pre.length < 0->YieldAt Fence.wide (n-1) Tryz.prog l (enU x) W1 fun e W' =>
   (e=.returned (.bool true)/\J (pre ++ [x]) W'/\Below L W1 W')∨(e=.returned (.bool false)/\Jx (pre ++ [x]) W'))
  (hg0:W.cell? ⟨G0,0,none⟩=some (.pointer (some ⟨mb,0,none⟩))) (hg1:W.cell? ⟨G1,0,none⟩=some (.int .i64 3)) (hMa:Mach W L mb gs cs gn cn r c) (h0:J [] W) :
  CallsIn Fence.wide n Tryz.prog 140 #[.func (.yield l) #[] #[],.pointer (some ⟨G0,0,none⟩),.pointer (some ⟨G1,0,none⟩)] W fun e W'=>(∃v,e=.returned v) /\
   ((∃ys,ys=p0 2/\J ys W')∨(∃pre,True/\Jx pre W')):=by
 refine callsIn_of_wp Tryz.func140 rfl trivial ?_ rfl;simp only[Tryz.ntmps140,List.size_toArray,List.length_cons,List.length_nil,Nat.reduceAdd,Nat.reduceSub,Array.replicate_succ,Array.replicate_zero,List.push_toArray,List.append_toArray,List.nil_append,List.cons_append];have m2:=hMa.m2;have q0:=(hMa.row 3 (by decide)).1
 gi_upto_region 0 with fail
 gi_big_quiet_th (fail)
 have hJq:J [] (W.drewN nq):=hJ _ _ _ none h0 ⟨rfl,rfl,rfl,Nat.le_refl _,fun k _ _=>rfl⟩ (fun _ e=>by cases e);have hMq:Mach (W.drewN nq) L mb gs cs gn cn r c:=hMa.keep (fun _ _=>rfl);have hzq:W.heap.size<=(W.drewN nq).heap.size:=Nat.le_refl _;obtain⟨Wq,hWq⟩:∃Wq,Wq=W.drewN nq:=⟨_,rfl⟩
 rw[<-hWq]at hJq hMq hzq ⊢;clear hWq h0 hMa m2 q0
 gi_wp2
 gi_loopw [14] (fun p wr=>∃k:Nat,p=.int .i64 k/\k<=2/\J (p0 k) wr/\Mach wr L mb gs cs gn cn r c/\W.heap.size<=wr.heap.size) (fun p _=>2-(intOf p).toNat)
 case atStart=>exact⟨0,rfl,by decide,hJq,hMq,hzq⟩
 case round =>
  clear hJq hMq hzq;obtain⟨k,rfl,hk,hJs,hMa,hsz⟩:=hrel;have q1:=(hMa.row 3 (by decide)).2.1;have q2:=(hMa.row 3 (by decide)).2.2.1;simp only[RA,RB]at q1 q2;rcases (by omega:k=0∨k=1∨k=2) with rfl | rfl | rfl
  ·
   have hu:=hk;clear hu
   gi_wp2
   refine⟨fun _ _=>trivial,?_⟩
   gi_wp2
   go_roundw
   case rel=>exact⟨0+1,rfl,by decide,hJs,hMa,by omega⟩
   case measure=>decide
  ·
   have hu:=hk;clear hu
   gi_wp2
   refine⟨fun _ _=>trivial,?_⟩
   gi_wp2
   go_roundw
   case rel=>exact⟨1+1,rfl,by decide,hJs,hMa,by omega⟩
   case measure=>decide
  ·
   clear hMa
   gi_wp2
   go_end0
   first | exact⟨⟨_,rfl⟩,.inl ⟨_,rfl,hJs⟩⟩ | exact .inl ⟨_,rfl,hJs⟩ | exact .inl hJs
end Go.Proofs.YtaffkceklkdokaaGreatDoor
