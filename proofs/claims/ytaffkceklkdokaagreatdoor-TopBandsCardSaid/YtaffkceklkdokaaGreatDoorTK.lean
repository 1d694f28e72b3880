/- The best proper side of a graph with two vertices and one edge of weight 3. -/
import Derived.RangeFuncNested
import Derived.RangeFuncBound
import Derived.RangeFuncCalls
import Derived.RangeFuncLeaves
import Derived.Shelf.Abstract
import Derived.Shelf.RegionOpen
import Derived.WalkKit
import Derived.OwnWalkIn
import Derived.TacticsInMore
import Derived.LoopNIn
import Derived.LoopIn
import Derived.Test.YtaffkceklkdokaaGreatDoorTJ
import Derived.Sort.BigQuietIn
set_option maxRecDepth 100000
set_option maxHeartbeats 4000000
namespace Go.Proofs.YtaffkceklkdokaaGreatDoor
open Go.RowKit Go.Shelf
attribute [local go_sem] Oper.semAt_some
theorem grownB {W W':World} (h:Below W.heap.size W W'):W.grownBy W' none:=⟨h.os,h.tape,h.output,h.size,fun k hk _=>h.block k hk⟩
abbrev WantV (ev mv:Value):Value:=.func (.func 26) #[GrV ev mv] #[]
def pr:Nat->List Nat
 | 0=>[] | 1=>[0] | _=>[0,1]
/-- what the rounds keep -/
def Kp2 (n₀ G0 G1:Nat) (A B:World):Prop:=Below n₀ A B/\B.heap[G0]?=A.heap[G0]?/\B.heap[G1]?=A.heap[G1]?
theorem Kp2.trans {n₀ G0 G1:Nat} {A B C:World} (h:Kp2 n₀ G0 G1 A B) (h2:Kp2 n₀ G0 G1 B C):Kp2 n₀ G0 G1 A C:=⟨h.1.trans h2.1,h2.2.1.trans h.2.1,h2.2.2.trans h.2.2⟩
theorem sides_ok (ev mv:Value) (w:World) :
  Calls Tryz.prog 47 #[GrV ev mv,WantV ev mv] w fun e w'=>e=.returned (.func (.func 68) #[] #[.pointer (some ⟨w.heap.size,0,none⟩),.pointer (some ⟨w.heap.size+1,0,none⟩)])/\w'=(w.alloc (.cells #[.int .i64 2,ev,mv] 66)).alloc (.cells #[WantV ev mv] 75):=by
 have hmf:∀(fn:Fn) (first cap:Array Value) (w:World),(Instr.makeFunc fn first cap).run Tryz.prog w=.ok (.func fn first cap) w:=fun _ _ _ _=>rfl;go_enter Tryz.func47,Tryz.ntmps47;go_wp2_with fail
 go_ret
 exact⟨rfl,rfl⟩
theorem sides1_in (n:Nat) (hn:1<=n) (l G0 G1 n₀ eb cap:Nat) (mv:Value) (J Jx:List Nat->World->Prop) (W:World) (hJ:AbidesFrom W.heap.size J)
  (hY:∀pre x W1,J pre W1->pre.length < 2->YieldAt Fence.wide (n-1) Tryz.prog l #[.int .u64 ((x:Nat):Int),.int .i64 (vl x)] W1 fun e W' =>
   (e=.returned (.bool true)/\J (pre ++ [x]) W'/\Kp2 n₀ G0 G1 W1 W')∨(e=.returned (.bool false)/\Jx (pre ++ [x]) W'))
  (hg0:W.heap[G0]?=some (.cells #[.int .i64 2,SlE eb cap,mv] 66 (0,0))) (hg1:W.heap[G1]?=some (.cells #[WantV (SlE eb cap) mv] 75 (0,0))) (heb:eb < n₀)
  (e0:W.cell? ⟨eb,0,none⟩=some (.int .i64 0)) (e1:W.cell? ⟨eb,1,none⟩=some (.int .i64 1)) (e2:W.cell? ⟨eb,2,none⟩=some (.int .i64 3)) (h0:J [] W) :
  CallsIn Fence.wide n Tryz.prog 68 #[.func (.yield l) #[] #[],.pointer (some ⟨G0,0,none⟩),.pointer (some ⟨G1,0,none⟩)] W fun e W'=>(∃v,e=.returned v) /\
   ((∃ys,ys = [0,1]/\J ys W')∨(∃pre,True/\Jx pre W')):=by
 refine callsIn_of_wp Tryz.func68 rfl trivial ?_ rfl;simp only[Tryz.ntmps68,List.size_toArray,List.length_cons,List.length_nil,Nat.reduceAdd,Nat.reduceSub,Array.replicate_succ,Array.replicate_zero,List.push_toArray,List.append_toArray,List.nil_append,List.cons_append];have g0:W.cell? ⟨G0,0,none⟩=some (.int .i64 2):=cell_of_row W _ 0 _ _ _ hg0
 gi_wp2
 gi_loopw [8] (fun p wr=>∃i:Nat,p=.int .u64 i/\i<=4/\J (pr i) wr/\W.heap.size<=wr.heap.size/\wr.heap[G0]?=some (.cells #[.int .i64 2,SlE eb cap,mv] 66 (0,0))/\wr.heap[G1]?=some (.cells #[WantV (SlE eb cap) mv] 75 (0,0))/\wr.cell? ⟨eb,0,none⟩=some (.int .i64 0)/\wr.cell? ⟨eb,1,none⟩=some (.int .i64 1)/\wr.cell? ⟨eb,2,none⟩=some (.int .i64 3)) (fun p _=>4-(match p with | .int _ m=>m.toNat | _=>0))
 case atStart=>exact⟨0,rfl,by decide,h0,Nat.le_refl _,hg0,hg1,e0,e1,e2⟩
 case round =>
  clear g0 hg0 hg1 e0 e1 e2 h0;obtain⟨i,rfl,hi,hJs,hsz,hg0,hg1,e0,e1,e2⟩:=hrel;rcases (by omega:i=0∨i=1∨i=2∨i=3∨i=4) with rfl | rfl | rfl | rfl | rfl
  ·
   have hu:=hi;clear hu;have g0:wr.cell? ⟨G0,0,none⟩=some (.int .i64 2):=cell_of_row wr _ 0 _ _ _ hg0;have g1:wr.cell? ⟨G0,1,none⟩=some (SlE eb cap):=cell_of_row wr _ 1 _ _ _ hg0;have g2:wr.cell? ⟨G0,2,none⟩=some mv:=cell_of_row wr _ 2 _ _ _ hg0;have g3:wr.cell? ⟨G1,0,none⟩=some (WantV (SlE eb cap) mv):=cell_of_row wr _ 0 _ _ _ hg1;have HG0:=Lib.hid hg0;have HG1:=Lib.hid hg1;have HY:=Lib.hid hY;clear hg0 hg1 hY
   gi_wp2_with fail
   refine⟨trivial,CallsIn.mono (callsIn_wide.2 (gr_proper (SlE eb cap) mv 0 (by decide) _)) ?_⟩;rintro e W2 ⟨rfl,hb2⟩;rw[show(!hs2 0 0)=true from rfl];have hJ2:J (pr 0) W2:=hJ _ _ _ none hJs (grownB hb2) (fun _ e=>by cases e);have hg02:=(hb2.block _ (blk_lt HG0.out)).trans HG0.out;have hg12:=(hb2.block _ (blk_lt HG1.out)).trans HG1.out;have hsz2:=hb2.size;have f0:=keepc hb2 e0;have f1:=keepc hb2 e1;have f2:=keepc hb2 e2;clear g0 g1 g2 g3 e0 e1 e2 hb2 HG0 HG1 hJs;have g0:W2.cell? ⟨G0,0,none⟩=some (.int .i64 2):=cell_of_row W2 _ 0 _ _ _ hg02;have g1:W2.cell? ⟨G0,1,none⟩=some (SlE eb cap):=cell_of_row W2 _ 1 _ _ _ hg02;have g2:W2.cell? ⟨G0,2,none⟩=some mv:=cell_of_row W2 _ 2 _ _ _ hg02;have HG0:=Lib.hid hg02;have HG1:=Lib.hid hg12;clear hg02 hg12
   gi_wp2_with fail
   refine⟨trivial,CallsIn.mono (callsIn_wide.2 (gr_value eb cap 0 mv (by decide) _ f0 f1 f2)) ?_⟩;rintro e W3 ⟨rfl,hb3⟩;have hJ3:J (pr 0) W3:=hJ _ _ _ none hJ2 (grownB hb3) (fun _ e=>by cases e);have hg03:=(hb3.block _ (blk_lt HG0.out)).trans HG0.out;have hg13:=(hb3.block _ (blk_lt HG1.out)).trans HG1.out;have hsz3:=hb3.size;have e0:=keepc hb3 f0;have e1:=keepc hb3 f1;have e2:=keepc hb3 f2;clear g0 g1 g2 f0 f1 f2 hb3 HG0 HG1 hJ2;obtain⟨fn,tmps,assign,body,hy0,hR⟩:=HY.out (pr 0) 0 W3 hJ3 (by decide);have hy:(Instr.yield l #[.int .u64 0,.int .i64 (vl 0)]).run Tryz.prog W3=.ok (.round l fn tmps assign body) W3:=hy0;clear hy0;have HRR:=Lib.hid hR;have HG0:=Lib.hid hg03;have HG1:=Lib.hid hg13;clear hR hg03 hg13 hJ3
   gi_wp2_with fail
   refine HRR.out.mono ?_;rintro e W4 (⟨rfl,hJ4,hk4⟩ | ⟨rfl,hJx4⟩)
   ·
    have hg04:=hk4.2.1.trans HG0.out;have hg14:=hk4.2.2.trans HG1.out;have q0:=(hk4.1.cell heb).trans e0;have q1:=(hk4.1.cell heb).trans e1;have q2:=(hk4.1.cell heb).trans e2;have hsz4:=hk4.1.size;clear e0 e1 e2 hk4 HG0 HG1 hy
    gi_wp2
    go_roundw
    case rel=>exact⟨0+1,rfl,by decide,hJ4,by omega,hg04,hg14,q0,q1,q2⟩
    case measure=>decide
   ·
    clear hy
    gi_wp2
    refine bodyPost_ret (results_none rfl _ _ _) rfl ?_;exact⟨⟨_,rfl⟩,.inr ⟨_,trivial,hJx4⟩⟩
  ·
   have hu:=hi;clear hu;have g0:wr.cell? ⟨G0,0,none⟩=some (.int .i64 2):=cell_of_row wr _ 0 _ _ _ hg0;have g1:wr.cell? ⟨G0,1,none⟩=some (SlE eb cap):=cell_of_row wr _ 1 _ _ _ hg0;have g2:wr.cell? ⟨G0,2,none⟩=some mv:=cell_of_row wr _ 2 _ _ _ hg0;have g3:wr.cell? ⟨G1,0,none⟩=some (WantV (SlE eb cap) mv):=cell_of_row wr _ 0 _ _ _ hg1;have HG0:=Lib.hid hg0;have HG1:=Lib.hid hg1;have HY:=Lib.hid hY;clear hg0 hg1 hY
   gi_wp2_with fail
   refine⟨trivial,CallsIn.mono (callsIn_wide.2 (gr_proper (SlE eb cap) mv 1 (by decide) _)) ?_⟩;rintro e W2 ⟨rfl,hb2⟩;rw[show(!hs2 1 0)=true from rfl];have hJ2:J (pr 1) W2:=hJ _ _ _ none hJs (grownB hb2) (fun _ e=>by cases e);have hg02:=(hb2.block _ (blk_lt HG0.out)).trans HG0.out;have hg12:=(hb2.block _ (blk_lt HG1.out)).trans HG1.out;have hsz2:=hb2.size;have f0:=keepc hb2 e0;have f1:=keepc hb2 e1;have f2:=keepc hb2 e2;clear g0 g1 g2 g3 e0 e1 e2 hb2 HG0 HG1 hJs;have g0:W2.cell? ⟨G0,0,none⟩=some (.int .i64 2):=cell_of_row W2 _ 0 _ _ _ hg02;have g1:W2.cell? ⟨G0,1,none⟩=some (SlE eb cap):=cell_of_row W2 _ 1 _ _ _ hg02;have g2:W2.cell? ⟨G0,2,none⟩=some mv:=cell_of_row W2 _ 2 _ _ _ hg02;have HG0:=Lib.hid hg02;have HG1:=Lib.hid hg12;clear hg02 hg12
   gi_wp2_with fail
   refine⟨trivial,CallsIn.mono (callsIn_wide.2 (gr_value eb cap 1 mv (by decide) _ f0 f1 f2)) ?_⟩;rintro e W3 ⟨rfl,hb3⟩;have hJ3:J (pr 1) W3:=hJ _ _ _ none hJ2 (grownB hb3) (fun _ e=>by cases e);have hg03:=(hb3.block _ (blk_lt HG0.out)).trans HG0.out;have hg13:=(hb3.block _ (blk_lt HG1.out)).trans HG1.out;have hsz3:=hb3.size;have e0:=keepc hb3 f0;have e1:=keepc hb3 f1;have e2:=keepc hb3 f2;clear g0 g1 g2 f0 f1 f2 hb3 HG0 HG1 hJ2;obtain⟨fn,tmps,assign,body,hy0,hR⟩:=HY.out (pr 1) 1 W3 hJ3 (by decide);have hy:(Instr.yield l #[.int .u64 1,.int .i64 (vl 1)]).run Tryz.prog W3=.ok (.round l fn tmps assign body) W3:=hy0;clear hy0;have HRR:=Lib.hid hR;have HG0:=Lib.hid hg03;have HG1:=Lib.hid hg13;clear hR hg03 hg13 hJ3
   gi_wp2_with fail
   refine HRR.out.mono ?_;rintro e W4 (⟨rfl,hJ4,hk4⟩ | ⟨rfl,hJx4⟩)
   ·
    have hg04:=hk4.2.1.trans HG0.out;have hg14:=hk4.2.2.trans HG1.out;have q0:=(hk4.1.cell heb).trans e0;have q1:=(hk4.1.cell heb).trans e1;have q2:=(hk4.1.cell heb).trans e2;have hsz4:=hk4.1.size;clear e0 e1 e2 hk4 HG0 HG1 hy
    gi_wp2
    go_roundw
    case rel=>exact⟨1+1,rfl,by decide,hJ4,by omega,hg04,hg14,q0,q1,q2⟩
    case measure=>decide
   ·
    clear hy
    gi_wp2
    refine bodyPost_ret (results_none rfl _ _ _) rfl ?_;exact⟨⟨_,rfl⟩,.inr ⟨_,trivial,hJx4⟩⟩
  ·
   have hu:=hi;clear hu;have g0:wr.cell? ⟨G0,0,none⟩=some (.int .i64 2):=cell_of_row wr _ 0 _ _ _ hg0;have g1:wr.cell? ⟨G0,1,none⟩=some (SlE eb cap):=cell_of_row wr _ 1 _ _ _ hg0;have g2:wr.cell? ⟨G0,2,none⟩=some mv:=cell_of_row wr _ 2 _ _ _ hg0;have g3:wr.cell? ⟨G1,0,none⟩=some (WantV (SlE eb cap) mv):=cell_of_row wr _ 0 _ _ _ hg1;have HG0:=Lib.hid hg0;have HG1:=Lib.hid hg1;have HY:=Lib.hid hY;clear hg0 hg1 hY
   gi_wp2_with fail
   refine⟨trivial,CallsIn.mono (callsIn_wide.2 (gr_proper (SlE eb cap) mv 2 (by decide) _)) ?_⟩;rintro e W2 ⟨rfl,hb2⟩;rw[show(!hs2 2 0)=false from rfl];have hJ2:J (pr 2) W2:=hJ _ _ _ none hJs (grownB hb2) (fun _ e=>by cases e);have hg02:=(hb2.block _ (blk_lt HG0.out)).trans HG0.out;have hg12:=(hb2.block _ (blk_lt HG1.out)).trans HG1.out;have hsz2:=hb2.size;have f0:=keepc hb2 e0;have f1:=keepc hb2 e1;have f2:=keepc hb2 e2;clear g0 g1 g2 g3 e0 e1 e2 hb2 HG0 HG1 hJs
   gi_wp2
   refine⟨trivial,?_⟩
   gi_wp2
   refine⟨fun _ _=>trivial,?_⟩
   gi_wp2
   go_roundw
   case rel=>exact⟨2+1,rfl,by decide,hJ2,by omega,hg02,hg12,f0,f1,f2⟩
   case measure=>decide
  ·
   have hu:=hi;clear hu;have g0:wr.cell? ⟨G0,0,none⟩=some (.int .i64 2):=cell_of_row wr _ 0 _ _ _ hg0;have g1:wr.cell? ⟨G0,1,none⟩=some (SlE eb cap):=cell_of_row wr _ 1 _ _ _ hg0;have g2:wr.cell? ⟨G0,2,none⟩=some mv:=cell_of_row wr _ 2 _ _ _ hg0;have g3:wr.cell? ⟨G1,0,none⟩=some (WantV (SlE eb cap) mv):=cell_of_row wr _ 0 _ _ _ hg1;have HG0:=Lib.hid hg0;have HG1:=Lib.hid hg1;have HY:=Lib.hid hY;clear hg0 hg1 hY
   gi_wp2_with fail
   refine⟨trivial,CallsIn.mono (callsIn_wide.2 (gr_proper (SlE eb cap) mv 3 (by decide) _)) ?_⟩;rintro e W2 ⟨rfl,hb2⟩;rw[show(!hs2 3 0)=false from rfl];have hJ2:J (pr 3) W2:=hJ _ _ _ none hJs (grownB hb2) (fun _ e=>by cases e);have hg02:=(hb2.block _ (blk_lt HG0.out)).trans HG0.out;have hg12:=(hb2.block _ (blk_lt HG1.out)).trans HG1.out;have hsz2:=hb2.size;have f0:=keepc hb2 e0;have f1:=keepc hb2 e1;have f2:=keepc hb2 e2;clear g0 g1 g2 g3 e0 e1 e2 hb2 HG0 HG1 hJs
   gi_wp2
   refine⟨trivial,?_⟩
   gi_wp2
   refine⟨fun _ _=>trivial,?_⟩
   gi_wp2
   go_roundw
   case rel=>exact⟨3+1,rfl,by decide,hJ2,by omega,hg02,hg12,f0,f1,f2⟩
   case measure=>decide
  ·
   clear hg0 hg1 e0 e1 e2
   gi_wp2
   go_end0
   first | exact⟨⟨_,rfl⟩,.inl ⟨_,rfl,hJs⟩⟩ | exact .inl ⟨_,rfl,hJs⟩ | exact .inl hJs
open Go.RowKit Go.Shelf
attribute [local go_sem] Oper.semAt_some
theorem cellOwn {β : Type} (B:Nat) (f : β->Obj) (hc:∀s,(f s).isCells=true):Own (fun s W=>W.heap[B]?=some (f s)):=fun s X Y row hs hg hrow =>
 (hg.block B (blk_lt hs) (fun e'=>by obtain⟨o,ho,hc'⟩:=hrow B e'.symm; rw[hs]at ho; cases ho; rw[hc s]at hc'; cases hc')).trans hs
/-- best, most, many -/
def bst:List Nat->Nat × Int × Int
 | []=>(0,0,0)
 | [y]=>(y,vl y,1)
 | y :: x :: _=>if vl y < vl x then (x,vl x,1) else if vl y=vl x then (y,vl y,2) else (y,vl y,1)
theorem vl_or (x:Nat):vl x=0∨vl x=3:=by
 match x with
 | 0=>exact .inl rfl
 | 1=>exact .inr rfl
 | _+2=>exact .inl rfl
def BestI (w:World) (pre:List Nat) (W:World):Prop :=
 ((W.heap[w.heap.size+1]?=some (.cells #[.int .u64 ((bst pre).1:Nat)] 69 (0,0))/\W.heap[w.heap.size+1+1]?=some (.cells #[.int .i64 (bst pre).2.1] 3 (0,0)))/\W.heap[w.heap.size+1+1+1]?=some (.cells #[.int .i64 (bst pre).2.2] 3 (0,0)))/\Below w.heap.size w W
theorem BestI.all {w W:World} {pre pre':List Nat} {b:Nat} {m c:Int} (h:BestI w pre W) (hn:bst pre'=(b,m,c)) :
  BestI w pre' (((W.setCell ⟨w.heap.size+1,0,none⟩ (.int .u64 (b:Nat))).setCell ⟨w.heap.size+1+1,0,none⟩ (.int .i64 m)).setCell ⟨w.heap.size+1+1+1,0,none⟩ (.int .i64 c)):=by
 obtain⟨⟨⟨h1,h2⟩,h3⟩,B⟩:=h;unfold BestI;rw[hn];exact⟨⟨⟨blk_farI 0 _ (by omega) (blk_farI 0 _ (by omega) ((blk_setI 0 _ h1).trans rfl)),blk_farI 0 _ (by omega) ((blk_setI 0 _ (blk_farI 0 _ (by omega) h2)).trans rfl)⟩,(blk_setI 0 _ (blk_farI 0 _ (by omega) (blk_farI 0 _ (by omega) h3))).trans rfl⟩,
  ((B.setCell (p:=⟨w.heap.size+1,0,none⟩) (by show w.heap.size<=w.heap.size+1; omega) _).setCell (p:=⟨w.heap.size+1+1,0,none⟩) (by show w.heap.size<=w.heap.size+1+1; omega) _).setCell (p:=⟨w.heap.size+1+1+1,0,none⟩) (by show w.heap.size<=w.heap.size+1+1+1; omega) _⟩
theorem BestI.many {w W:World} {pre pre':List Nat} {c:Int} (h:BestI w pre W) (hn:bst pre'=((bst pre).1,(bst pre).2.1,c)) :
  BestI w pre' (W.setCell ⟨w.heap.size+1+1+1,0,none⟩ (.int .i64 c)):=by
 obtain⟨⟨⟨h1,h2⟩,h3⟩,B⟩:=h;unfold BestI;rw[hn];exact⟨⟨⟨blk_farI 0 _ (by omega) h1,blk_farI 0 _ (by omega) h2⟩,(blk_setI 0 _ h3).trans rfl⟩,B.setCell (p:=⟨w.heap.size+1+1+1,0,none⟩) (by show w.heap.size<=w.heap.size+1+1+1; omega) _⟩
theorem BestI.same {w W:World} {pre pre':List Nat} (h:BestI w pre W) (hn:bst pre'=bst pre):BestI w pre' W:=by
 unfold BestI at h ⊢;rw[hn]; exact h
theorem kpAll {w W:World} {v1 v2 v3:Value}:Kp2 w.heap.size (w.heap.size+1+1+1+1) (w.heap.size+1+1+1+1+1) W (((W.setCell ⟨w.heap.size+1,0,none⟩ v1).setCell ⟨w.heap.size+1+1,0,none⟩ v2).setCell ⟨w.heap.size+1+1+1,0,none⟩ v3) :=
 ⟨(((Below.refl _ W).setCell (p:=⟨w.heap.size+1,0,none⟩) (by show w.heap.size<=w.heap.size+1; omega) _).setCell (p:=⟨w.heap.size+1+1,0,none⟩) (by show w.heap.size<=w.heap.size+1+1; omega) _).setCell (p:=⟨w.heap.size+1+1+1,0,none⟩) (by show w.heap.size<=w.heap.size+1+1+1; omega) _,
  (heap_setCell_other _ _ _ _ (by show w.heap.size+1+1+1+1≠w.heap.size+1+1+1; omega)).trans ((heap_setCell_other _ _ _ _ (by show w.heap.size+1+1+1+1≠w.heap.size+1+1; omega)).trans (heap_setCell_other _ _ _ _ (by show w.heap.size+1+1+1+1≠w.heap.size+1; omega))),
  (heap_setCell_other _ _ _ _ (by show w.heap.size+1+1+1+1+1≠w.heap.size+1+1+1; omega)).trans ((heap_setCell_other _ _ _ _ (by show w.heap.size+1+1+1+1+1≠w.heap.size+1+1; omega)).trans (heap_setCell_other _ _ _ _ (by show w.heap.size+1+1+1+1+1≠w.heap.size+1; omega)))⟩
theorem kpMany {w W:World} {v3:Value}:Kp2 w.heap.size (w.heap.size+1+1+1+1) (w.heap.size+1+1+1+1+1) W (W.setCell ⟨w.heap.size+1+1+1,0,none⟩ v3) :=
 ⟨(Below.refl _ W).setCell (p:=⟨w.heap.size+1+1+1,0,none⟩) (by show w.heap.size<=w.heap.size+1+1+1; omega) _,
  heap_setCell_other _ _ _ _ (by show w.heap.size+1+1+1+1≠w.heap.size+1+1+1; omega),heap_setCell_other _ _ _ _ (by show w.heap.size+1+1+1+1+1≠w.heap.size+1+1+1; omega)⟩
theorem best_ok (eb cap:Nat) (mv:Value) (w:World) (e0:w.cell? ⟨eb,0,none⟩=some (.int .i64 0)) (e1:w.cell? ⟨eb,1,none⟩=some (.int .i64 1)) (e2:w.cell? ⟨eb,2,none⟩=some (.int .i64 3)) :
  Calls Tryz.prog 25 #[GrV (SlE eb cap) mv,WantV (SlE eb cap) mv] w fun e w'=>e=.returned (.tuple #[.int .u64 1,.int .i64 3,.int .i64 1])/\Below w.heap.size w w':=by
 have hmix:Tryz.prog.follows .mixedOrders=true:=by kernel_rfl
 have heb:=block_lt_of_cell e0;refine(callsIn_wide (n:=9)).1 ?_;refine callsIn_of_wp_marks Tryz.func25 rfl trivial ?_ rfl;simp only[Tryz.ntmps25,List.size_toArray,List.length_cons,List.length_nil,Nat.reduceAdd,Nat.reduceSub,Array.replicate_succ,Array.replicate_zero,List.push_toArray,List.append_toArray,List.nil_append,List.cons_append]
 gi_wp2_with (first
  | (refine⟨trivial,?_⟩; gi_at_call 47; refine CallsIn.mono (callsIn_wide.2 (sides_ok _ _ _)) ?_; rintro e w' ⟨rfl,rfl⟩)
  | fail)
 obtain⟨W0,h0⟩:∃W0,W0=((((((w.alloc (.cells #[.int .i64 2,SlE eb cap,mv] 66)).alloc (.cells #[.int .u64 0] 69)).alloc (.cells #[.int .i64 0] 3)).alloc (.cells #[.int .i64 0] 3)).alloc (.cells #[.int .i64 2,SlE eb cap,mv] 66)).alloc (.cells #[WantV (SlE eb cap) mv] 75)):=⟨_,rfl⟩
 rw[<-h0];have Z0:W0.heap[w.heap.size+1]?=some (.cells #[.int .u64 0] 69 (0,0)):=by rw[h0]; exact(by repeat (first | assumption | (with_reducible apply blk_set2) | (with_reducible apply blk_set1) | (with_reducible refine blk_far2 ?_ ?_; (first | omega | (simp; done) | (simp; omega))) | (with_reducible refine blk_far1 ?_ ?_; (first | omega | (simp; done) | (simp; omega))) | (with_reducible refine blk_new' _ _ ?_; (first | omega | (simp; done) | (simp; omega))) | (with_reducible refine blk_old ?_) | (with_reducible refine blk_drew ?_)))
 have Z1:W0.heap[w.heap.size+1+1]?=some (.cells #[.int .i64 0] 3 (0,0)):=by rw[h0]; exact(by repeat (first | assumption | (with_reducible apply blk_set2) | (with_reducible apply blk_set1) | (with_reducible refine blk_far2 ?_ ?_; (first | omega | (simp; done) | (simp; omega))) | (with_reducible refine blk_far1 ?_ ?_; (first | omega | (simp; done) | (simp; omega))) | (with_reducible refine blk_new' _ _ ?_; (first | omega | (simp; done) | (simp; omega))) | (with_reducible refine blk_old ?_) | (with_reducible refine blk_drew ?_)))
 have Z2:W0.heap[w.heap.size+1+1+1]?=some (.cells #[.int .i64 0] 3 (0,0)):=by rw[h0]; exact(by repeat (first | assumption | (with_reducible apply blk_set2) | (with_reducible apply blk_set1) | (with_reducible refine blk_far2 ?_ ?_; (first | omega | (simp; done) | (simp; omega))) | (with_reducible refine blk_far1 ?_ ?_; (first | omega | (simp; done) | (simp; omega))) | (with_reducible refine blk_new' _ _ ?_; (first | omega | (simp; done) | (simp; omega))) | (with_reducible refine blk_old ?_) | (with_reducible refine blk_drew ?_)))
 have Z3:W0.heap[w.heap.size+1+1+1+1]?=some (.cells #[.int .i64 2,SlE eb cap,mv] 66 (0,0)):=by rw[h0]; exact(by repeat (first | assumption | (with_reducible apply blk_set2) | (with_reducible apply blk_set1) | (with_reducible refine blk_far2 ?_ ?_; (first | omega | (simp; done) | (simp; omega))) | (with_reducible refine blk_far1 ?_ ?_; (first | omega | (simp; done) | (simp; omega))) | (with_reducible refine blk_new' _ _ ?_; (first | omega | (simp; done) | (simp; omega))) | (with_reducible refine blk_old ?_) | (with_reducible refine blk_drew ?_)))
 have Z4:W0.heap[w.heap.size+1+1+1+1+1]?=some (.cells #[WantV (SlE eb cap) mv] 75 (0,0)):=by rw[h0]; exact(by repeat (first | assumption | (with_reducible apply blk_set2) | (with_reducible apply blk_set1) | (with_reducible refine blk_far2 ?_ ?_; (first | omega | (simp; done) | (simp; omega))) | (with_reducible refine blk_far1 ?_ ?_; (first | omega | (simp; done) | (simp; omega))) | (with_reducible refine blk_new' _ _ ?_; (first | omega | (simp; done) | (simp; omega))) | (with_reducible refine blk_old ?_) | (with_reducible refine blk_drew ?_)))
 have B0:Below w.heap.size w W0:=by rw[h0]; exact(by repeat (first | exact Below.refl _ _ | exact Nat.le_refl _ | refine Below.alloc ?_ ?_ _ | refine Below.setCell ?_ ?_ _ | refine Below.drew ?_ | refine bl_drewN ?_ _ | (assumption) | refine bl_call ?_ (by assumption) ?_ | omega | (simp <;> omega)))
 have hsz:W0.heap.size=w.heap.size+6:=by rw[h0]; simp
 clear h0;have E0:=keepc B0 e0;have E1:=keepc B0 e1;have E2:=keepc B0 e2;refine wpIn_rangeFunc_ownH (α:=Nat) rfl (by omega) (gf:=68) (lb:=#[.pointer (some ⟨w.heap.size+1+1+1+1,0,none⟩),.pointer (some ⟨w.heap.size+1+1+1+1+1,0,none⟩)]) rfl trivial (enters_of Tryz.func68 (by kernel_rfl) rfl)
  (encs:=fun k=>#[.int .u64 ((k:Nat):Int),.int .i64 (vl k)]) (Kp:=Kp2 w.heap.size (w.heap.size+1+1+1+1) (w.heap.size+1+1+1+1+1)) (S:=fun ys=>ys = [0,1]) (Sp:=fun _=>True) (N:=2) (w0:=W0)
  (fun l J Jx W hW hJ _ hY h0=>sides1_in 8 (by omega) l _ _ w.heap.size eb cap mv J Jx W hJ hY ((hW.block _ (by omega)).trans Z3) ((hW.block _ (by omega)).trans Z4) heb ((hW.cell (block_lt_of_cell E0)).trans E0) ((hW.cell (block_lt_of_cell E1)).trans E1) ((hW.cell (block_lt_of_cell E2)).trans E2) h0)
  (fun h1 h2=>h1.trans h2) (fun W l o o' hl h1 h2 h3=>⟨belowK_b (w:=w) (Nat.le_refl _) W l _ _ (by omega) h1 h2 h3,World.putObj_heap_other (by omega),World.putObj_heap_other (by omega)⟩) (Below.refl _ _) (fun _=>rfl)
  (BestI w) (fun _ _ _=>False)
  (OwnFrom.and (OwnFrom.and (OwnFrom.and (Own.from (cellOwn _ _ (fun _=>rfl)) _) (Own.from (cellOwn _ _ (fun _=>rfl)) _)) (Own.from (cellOwn _ _ (fun _=>rfl)) _)) (ownFrom_below (Nat.le_refl _) (by omega)))
  (fun _ _ _ _ _ hs _ _=>hs)
  ⟨⟨⟨Z0,Z1⟩,Z2⟩,B0⟩
  (fun k a' W=>a' = { tmps:=#[GrV (SlE eb cap) mv,WantV (SlE eb cap) mv,.pointer (some ⟨w.heap.size,0,none⟩),undef,.int .u64 0,.int .i64 0,.int .i64 0,.pointer (some ⟨w.heap.size+1,0,none⟩),.pointer (some ⟨w.heap.size+1+1,0,none⟩),.pointer (some ⟨w.heap.size+1+1+1,0,none⟩),.int .u64 ((k:Nat):Int),.int .i64 (vl k),GrV (SlE eb cap) mv,WantV (SlE eb cap) mv,.func (.func 68) #[] #[.pointer (some ⟨w.heap.size+1+1+1+1,0,none⟩),.pointer (some ⟨w.heap.size+1+1+1+1+1,0,none⟩)],.int .u64 ((k:Nat):Int),.int .i64 (vl k),undef,undef,undef,undef,undef,undef,undef,undef,undef,undef,undef,undef,undef,undef,undef,undef,undef,undef,undef],defers:=[] })
  (fun k a' _ X Y row hs hg hr=>hs)
  ?assign ?body ?done ?stop
 case assign =>
  rintro l pre k W K hI hK;have HK:=Lib.hid hK;have HI:=Lib.hid hI;clear hK hI
  gi_wp2
  exact HK.out _ _ ((KeepsOthers.refl _).from _) ⟨Below.refl _ _,rfl,rfl⟩ HI.out rfl
 case body =>
  rintro l pre x a' W hl ⟨r,hr⟩ hI rfl hlt;have HI:=Lib.hid hI;have hpre:pre = []∨∃y,pre = [y]:=by
   match pre,hlt with
   | [],_=>exact .inl rfl
   | [y],_=>exact .inr ⟨y,rfl⟩
   | _ :: _ :: _,h=>exact absurd h (by simp)
  clear hr Z0 Z1 Z2 Z3 Z4 E0 E1 E2 e0 e1 e2 hlt;rcases hpre with rfl | ⟨y,rfl⟩
  ·
   obtain⟨⟨⟨h1,h2⟩,h3⟩,B⟩:=hI;have c1:=row1_0 h1;have c2:=row1_0 h2;have c3:=row1_0 h3;have f1:=row_f h1;have f2:=row_f h2;have f3:=row_f h3;clear h1 h2 h3;simp only[bst]at c1 c2 c3
   gi_wp2
   exact⟨((KeepsOthers.setCell _ _ _).trans ((KeepsOthers.setCell _ _ _).trans (KeepsOthers.setCell _ _ _))).from _,kpAll,HI.out.all (rfl)⟩
  ·
   have hb:bst ([y] ++ [x])=if vl y < vl x then (x,vl x,1) else if vl y=vl x then (y,vl y,2) else (y,vl y,1):=rfl
   obtain⟨⟨⟨h1,h2⟩,h3⟩,B⟩:=hI;have c1:=row1_0 h1;have c2:=row1_0 h2;have c3:=row1_0 h3;have f1:=row_f h1;have f2:=row_f h2;have f3:=row_f h3;clear h1 h2 h3;simp only[bst]at c1 c2 c3;rcases vl_or x with hx | hx <;> rcases vl_or y with hy | hy
   ·
    rw[hx,hy]at hb;rw[hy]at c2;rw[hx];have HB:=Lib.hid hb;have HYv:=Lib.hid hy;clear hb hx hy
    gi_wp2
    exact⟨(KeepsOthers.setCell _ _ _).from _,kpMany,HI.out.many (HB.out.trans (by simp[bst,HYv.out]))⟩
   ·
    rw[hx,hy]at hb;rw[hy]at c2;rw[hx];have HB:=Lib.hid hb;have HYv:=Lib.hid hy;clear hb hx hy
    gi_wp2
    exact⟨(KeepsOthers.refl _).from _,⟨Below.refl _ _,rfl,rfl⟩,HI.out.same (HB.out.trans (by simp[bst,HYv.out]))⟩
   ·
    rw[hx,hy]at hb;rw[hy]at c2;rw[hx];have HB:=Lib.hid hb;have HYv:=Lib.hid hy;clear hb hx hy
    gi_wp2
    exact⟨((KeepsOthers.setCell _ _ _).trans ((KeepsOthers.setCell _ _ _).trans (KeepsOthers.setCell _ _ _))).from _,kpAll,HI.out.all (HB.out.trans (by simp))⟩
   ·
    rw[hx,hy]at hb;rw[hy]at c2;rw[hx];have HB:=Lib.hid hb;have HYv:=Lib.hid hy;clear hb hx hy
    gi_wp2
    exact⟨(KeepsOthers.setCell _ _ _).from _,kpMany,HI.out.many (HB.out.trans (by simp[bst,HYv.out]))⟩
 case done =>
  rintro D zs W hD rfl ⟨⟨⟨h1,h2⟩,h3⟩,B⟩ hK;have c1:=row1_0 h1;have c2:=row1_0 h2;have c3:=row1_0 h3;have t1:W.cell? ⟨w.heap.size+1,0,none⟩=some (.int .u64 1):=c1;have t2:W.cell? ⟨w.heap.size+1+1,0,none⟩=some (.int .i64 3):=c2;have t3:W.cell? ⟨w.heap.size+1+1+1,0,none⟩=some (.int .i64 1):=c3;clear c1 c2 c3 h1 h2 h3
  gi_wp2
  gi_big_quiet_th (fail)
  gi_wp2
  have hK':(W.drewN nq).heap[D]?=some (.deferred (some [])):=hK;have B':Below w.heap.size w (W.drewN nq):=⟨B.os,B.tape,B.output,B.size,B.block⟩
  refine⟨by simp,.inl ⟨_,_,rfl,run_takeDeferred hK',?_⟩⟩;exact⟨.tuple #[.int .u64 1,.int .i64 3,.int .i64 1],by simp[results,Tryz.results25,go_sem],rfl,B'.trans (belowK_b (w:=w) (Nat.le_refl _) _ D _ _ (by omega) hK' rfl rfl)⟩
 case stop =>
  rintro D c pre W _ _ h _;exact h.elim
end Go.Proofs.YtaffkceklkdokaaGreatDoor
