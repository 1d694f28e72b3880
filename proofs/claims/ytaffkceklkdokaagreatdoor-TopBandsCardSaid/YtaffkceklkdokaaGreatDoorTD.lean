/- A range over an iterator that writes one cell of its own, its captured variable. -/
import Derived.RangeFuncNested
import Derived.RangeFuncBound
import Derived.RangeFuncCalls
import Derived.RangeFuncLeaves
import Derived.Shelf.Abstract
import Derived.Shelf.RegionOpen
import Derived.WalkKit
import Derived.OwnWalkIn
import Derived.TacticsInMore
import Derived.LoopNIn
import Derived.LoopIn
import Derived.Test.YtaffkceklkdokaaGreatDoorTC
import Derived.Sort.QuietIn
import Derived.Sort.BigQuietIn
import Derived.Test.YtaffkceklkdokaaGreatDoorTW
set_option maxRecDepth 100000
set_option maxHeartbeats 4000000
namespace Go.Proofs.YtaffkceklkdokaaGreatDoor
open Go.RowKit Go.Shelf
section
variable {F : Fence} {n : Nat} {P : Program}
/-- how a round ends: it goes on -/
def goesOn {α : Type} (n₀ B Bn:Nat) (I:List α->World->Prop) (xs:List α) (W:World):Exit->Act->World->Prop
 | .normal,_,W'=>KeepsFrom B W W'/\W'.heap[Bn]?=W.heap[Bn]?/\Below n₀ W W'/\I xs W'
 | _,_,_=>False
theorem rangeFunc_cell {α : Type} {g:Operand} {ps:Array Tmp} {assign body:Code} {Q:Exit->Act->World->Prop} {a:Act} {w:World} {Bn gf:Nat} {lb:Array Value} {encs : α->Array Value} {xs:List α} (n₀:Nat) (hn₀:n₀<=w.heap.size)
  (hro:F.round=none) (h1:1<=n) (hg:a.eval g=.func (.func gf) #[] lb) (hFg:F.fn gf) (eg:∀args w,(callFunc gf args).run P w=.ok (.enter gf args) w)
  (hBn:Bn < w.heap.size) (hps:∀x,(encs x).size=ps.size)
  (hseq:∀(l:Nat) (J:List α->World->Prop) (W:World),(∀s A v,J s A->J s (A.setCell ⟨Bn,0,none⟩ v)) ->
   (∀pre x W1,J pre W1->pre ++ [x] <+: xs->YieldAt F (n-1-1) P l (encs x) W1 fun e W'=>e=.returned (.bool true)/\J (pre ++ [x]) W'/\W'.heap[Bn]?=W1.heap[Bn]?/\Below n₀ W1 W') ->
   Below w.heap.size w W->J [] W->CallsIn F (n-1) P gf (#[.func (.yield l) #[] #[]] ++ lb) W fun e W'=>(∃v,e=.returned v)/\J xs W')
  (I:List α->World->Prop) (hI:OwnFrom w.heap.size I) (hIc:∀s A v,I s A->I s (A.setCell ⟨Bn,0,none⟩ v)) (h0:I [] w) (a₁ : α->Act)
  (hassign:∀(l:Nat) (x : α) (W:World) (K:Act->World->Prop),K (a₁ x) W ->
   assign.wpIn (F.inRound l) (n-1-1) P (Exit.then K (fun _ _ _=>False)) { tmps:=(ps.zip (encs x)).foldl (fun t (p,v)=>t.setIfInBounds p v) a.tmps,defers:=[] } W)
  (hbody:∀(l:Nat) (pre:List α) (x : α) (W:World),I pre W->pre ++ [x] <+: xs->body.wpIn (F.inRound l) (n-1-1) P (goesOn n₀ w.heap.size Bn I (pre ++ [x]) W) (a₁ x) W)
  (hdone:∀(D:Nat) (W:World),w.heap.size<=D->I xs W->W.heap[D]?=some (.deferred (some []))->Q .normal { a with defers:={ target:=.collected D,args:=#[] } :: a.defers } W) :
  (Code.rangeFunc g ps assign body).wpIn F n P Q a w:=by
 refine wpIn_rangeFunc ?_;intro fn hfn;rw[hro]
 let lr:LoopState->Loop:=fun st=>{ state:=st,pending:=none,fn,tmps:=a.tmps,params:=ps,assign,body,defers:=w.heap.size }
 obtain⟨W1,hW1⟩:∃W1,(w.alloc (.deferred (some []))).alloc (.loop (lr .ready))=W1:=⟨_,rfl⟩
 have hL1:W1.heap[w.heap.size+1]?=some (.loop (lr .ready)):=by rw[<-hW1]; exact blk_new' _ _ (by simp)
 have hD1:W1.heap[w.heap.size]?=some (.deferred (some [])):=by rw[<-hW1]; exact blk_old (blk_new _ _)
 have hI1:I [] W1:=by rw[<-hW1]; exact hI.alloc _ (hI.alloc _ h0)
 have hB1:Below w.heap.size w W1:=by rw[<-hW1]; exact((Below.refl _ w).alloc (Nat.le_refl _) _).alloc (by simp) _
 refine⟨w.heap.size+1,[{ target:=.collected w.heap.size,args:=#[] }],W1,{ target:=.fn (.func gf) lb,args:=#[.func (.yield (w.heap.size+1)) #[] #[]] },W1,gf,
  #[.func (.yield (w.heap.size+1)) #[] #[]] ++ lb,W1,?_,?_,?_,?_,fun _=>h1,?_⟩
 · rw[<-hW1]; exact run_enterLoop_outer _ _ _ _ _
 · simp only[resolve,hg];simp[go_sem]
 · intro f' hf'; simp[Target.leads]at hf'; subst hf'; exact hFg
 · simp[invoke,go_sem,eg]
 ·
  refine(hseq (w.heap.size+1) (fun pre W=>I pre W/\W.heap[w.heap.size+1]?=some (.loop (lr .ready))/\W.heap[w.heap.size]?=some (.deferred (some []))) W1
   (fun s A v h=>⟨hIc s A v h.1,(heap_setCell_other _ _ _ _ (by show w.heap.size+1≠Bn; omega)).trans h.2.1,(heap_setCell_other _ _ _ _ (by show w.heap.size≠Bn; omega)).trans h.2.2⟩) ?_ hB1 ⟨hI1,hL1,hD1⟩).mono ?_
  ·
   rintro pre x W ⟨hi,hl,hk⟩ hlen;have hlt:=blk_lt hl;refine⟨fn,_,assign,body,run_yield (P:=P) (args:=encs x) hl (hps x),roundIn_of_wpIn hfn (hassign _ x W _ ⟨_,run_beginRound hl rfl,?_⟩)⟩;obtain⟨Wb,hWb⟩:∃Wb,W.putObj (w.heap.size+1) (.loop (lr .busy))=Wb:=⟨_,rfl⟩
   have hlb:Wb.heap[w.heap.size+1]?=some (.loop (lr .busy)):=by rw[<-hWb]; exact World.putObj_heap_same hlt
   have hkb:Wb.heap[w.heap.size]?=some (.deferred (some [])):=by rw[<-hWb]; exact(World.putObj_heap_other (by omega)).trans hk
   have hnb:Wb.heap[Bn]?=W.heap[Bn]?:=by rw[<-hWb]; exact World.putObj_heap_other (by omega)
   have hbb:Below n₀ W Wb:=by rw[<-hWb]; exact belowK_b (w:=w) hn₀ W _ _ _ (by omega) hl rfl rfl
   have hib:I pre Wb:=by rw[<-hWb]; exact hI.putObj _ hi (by omega) hl rfl
   show Code.wpIn _ _ _ _ _ _ (W.putObj (w.heap.size+1) (.loop (lr .busy)));rw[hWb];refine wpIn_mono (hbody _ pre x Wb hib hlen) ?_;rintro e a3 W3 hp;cases e with
   | normal =>
    obtain⟨hk3,hn3,hb3,hi3⟩:=hp;have hl3:=hk3.same _ _ (by omega) hlb rfl;have hr:=run_endRound (P:=P) none hl3;exact⟨_,_,hr,rfl,⟨hI.putObj _ hi3 (by omega) hl3 rfl,World.putObj_heap_same (blk_lt hl3),(World.putObj_heap_other (by omega)).trans (hk3.same _ _ (Nat.le_refl _) hkb rfl)⟩,(World.putObj_heap_other (by omega)).trans (hn3.trans hnb),(hbb.trans hb3).trans (belowK_b (w:=w) hn₀ W3 _ _ _ (by omega) hl3 rfl rfl)⟩
   | ret=>exact hp.elim
   | exit id=>exact hp.elim
   | goto t=>exact hp.elim
   | panic ch=>exact hp.elim
   | outgrown=>exact hp.elim
  · rintro e W2 ⟨⟨v,rfl⟩,hi,hl,hk⟩;exact⟨none,_,run_endLoop (P:=P) hl (by simp[lr]),hdone _ _ (Nat.le_refl _) (hI.putObj _ hi (by omega) hl rfl) ((World.putObj_heap_other (by omega)).trans hk)⟩
end
/-- the points of a set -/
def pts:Nat->List Nat
 | 0=>[] | 1=>[0] | 2=>[1] | _=>[0,1]
/-- what is left of a set when some have come -/
def lft:Nat->Nat->Nat
 | 1,0=>1 | 2,0=>2 | 3,0=>3 | 3,1=>2 | _,_=>0
theorem points_any (s:Nat) (w:World) :
  Calls Tryz.prog 19 #[.int .u64 (s:Nat)] w fun e w'=>e=.returned (.func (.func 42) #[] #[.pointer (some ⟨w.heap.size,0,none⟩)])/\w'=w.alloc (.cells #[.int .u64 (s:Nat)] 49):=by
 have hmf:∀(fn:Fn) (first cap:Array Value) (w:World),(Instr.makeFunc fn first cap).run Tryz.prog w=.ok (.func fn first cap) w:=fun _ _ _ _=>rfl;go_enter Tryz.func19,Tryz.ntmps19;go_wp2_with fail
 go_ret
 exact⟨rfl,rfl⟩
theorem BitTab.keep {w w':World} (h:BitTab w) (hb:w'.heap[(2:Nat)]?=w.heap[(2:Nat)]?):BitTab w' :=
 ⟨(World.cell?_of_block (a:=⟨2,0,none⟩) hb).trans h.1,(World.cell?_of_block (a:=⟨2,1,none⟩) hb).trans h.2⟩
theorem points1_in (n:Nat) (hn:1<=n) (l Bn n₀ s:Nat) (hs:s<=3) (J:List Nat->World->Prop) (W:World) (hJc:∀s A v,J s A->J s (A.setCell ⟨Bn,0,none⟩ v))
  (hY:∀pre x W1,J pre W1->pre ++ [x] <+: pts s->YieldAt Fence.wide (n-1) Tryz.prog l #[.int .i64 ((x:Nat):Int)] W1 fun e W'=>e=.returned (.bool true)/\J (pre ++ [x]) W'/\W'.heap[Bn]?=W1.heap[Bn]?/\Below n₀ W1 W')
  (hB:W.heap[Bn]?=some (.cells #[.int .u64 (s:Nat)] 49 (0,0))) (hnB:n₀<=Bn) (hT:BitTab W) (hg:2 < n₀) (h0:J [] W) :
  CallsIn Fence.wide n Tryz.prog 42 #[.func (.yield l) #[] #[],.pointer (some ⟨Bn,0,none⟩)] W fun e W'=>(∃v,e=.returned v)/\J (pts s) W':=by
 refine callsIn_of_wp Tryz.func42 rfl trivial ?_ rfl;simp only[Tryz.ntmps42,List.size_toArray,List.length_cons,List.length_nil,Nat.reduceAdd,Nat.reduceSub,Array.replicate_succ,Array.replicate_zero,List.push_toArray,List.append_toArray,List.nil_append,List.cons_append]
 gi_wp2
 gi_loopw [] (fun wr=>∃j:Nat,j<=(pts s).length/\wr.heap[Bn]?=some (.cells #[.int .u64 (lft s j:Nat)] 49 (0,0))/\BitTab wr/\J ((pts s).take j) wr) (fun wr=>match wr.cell? ⟨Bn,0,none⟩ with | some (.int _ m)=>m.toNat | _=>0)
 case atStart=>exact⟨0,Nat.zero_le _,by rw[show lft s 0=s from(by rcases (by omega:s=0∨s=1∨s=2∨s=3) with rfl | rfl | rfl | rfl <;> rfl)]; exact hB,hT,h0⟩
 case round =>
  obtain⟨j,hj,hb,hT2,hJ2⟩:=hrel;clear hB hT h0;rcases (by omega:s=0∨s=1∨s=2∨s=3) with rfl | rfl | rfl | rfl
  ·
   obtain rfl:j=0:=by simpa[pts]using hj
   have c0:wr.cell? ⟨Bn,0,none⟩=some (.int .u64 0):=cell_of_row wr _ 0 _ _ _ hb;clear hY hb
   gi_wp2
   go_end0
   first | exact⟨⟨_,rfl⟩,hJ2⟩ | exact hJ2
  ·
   rcases (by simp[pts]at hj; omega:j=0∨j=1) with rfl | rfl
   ·
    have hu:=hj;clear hu;have HY:=Lib.hid hY;have e1:bits BinOp.and IntKind.u64 1 0=0:=by kernel_rfl
    have c0:wr.cell? ⟨Bn,0,none⟩=some (.int .u64 1):=cell_of_row wr _ 0 _ _ _ hb;have cf:=row_f hb;have HB:=Lib.hid hb;clear hY hb
    gi_wp2_with fail
    refine⟨trivial,CallsIn.mono (callsIn_wide.2 (trail 1 (by decide) _ hT2)) ?_⟩;rintro e W2 ⟨rfl,rfl⟩;rw[show low 1=0 from rfl];obtain⟨fn,tmps,assign,body,hy0,hR⟩:=HY.out [] 0 wr hJ2 (by decide);have hy:(Instr.yield l #[.int .i64 0]).run Tryz.prog wr=.ok (.round l fn tmps assign body) wr:=hy0;clear hy0;have HRR:=Lib.hid hR;clear hR
    gi_wp2_with fail
    refine HRR.out.mono ?_;rintro e W3 ⟨rfl,hJ3,hb3,hk3⟩;have hB3:=hb3.trans HB.out;clear c0 cf hy;have c0:W3.cell? ⟨Bn,0,none⟩=some (.int .u64 1):=cell_of_row W3 _ 0 _ _ _ hB3;have cf:=row_f hB3;have HB3:=Lib.hid hB3;clear hB3
    gi_wp2
    go_roundw
    case rel=>exact⟨0+1,by decide,(blk_setI 0 _ HB3.out).trans rfl,(hT2.keep (hk3.block _ hg)).keep (heap_setCell_other _ _ _ _ (by show _≠Bn; omega)),hJc _ _ _ hJ3⟩
    case measure =>
     have d1:(W3.setCell ⟨Bn,0,none⟩ (.int .u64 0)).cell? ⟨Bn,0,none⟩=some (.int .u64 0):=cell_of_row _ Bn 0 _ _ _ (blk_setI 0 (.int .u64 0) HB3.out);have d0:wr.cell? ⟨Bn,0,none⟩=some (.int .u64 1):=cell_of_row wr Bn 0 _ _ _ HB.out;rw[d1,d0];decide
   ·
    have hu:=hj;clear hu;have c0:wr.cell? ⟨Bn,0,none⟩=some (.int .u64 0):=cell_of_row wr _ 0 _ _ _ hb;clear hY hb
    gi_wp2
    go_end0
    first | exact⟨⟨_,rfl⟩,hJ2⟩ | exact hJ2
  ·
   rcases (by simp[pts]at hj; omega:j=0∨j=1) with rfl | rfl
   ·
    have hu:=hj;clear hu;have HY:=Lib.hid hY;have e1:bits BinOp.and IntKind.u64 2 1=0:=by kernel_rfl
    have c0:wr.cell? ⟨Bn,0,none⟩=some (.int .u64 2):=cell_of_row wr _ 0 _ _ _ hb;have cf:=row_f hb;have HB:=Lib.hid hb;clear hY hb
    gi_wp2_with fail
    refine⟨trivial,CallsIn.mono (callsIn_wide.2 (trail 2 (by decide) _ hT2)) ?_⟩;rintro e W2 ⟨rfl,rfl⟩;rw[show low 2=1 from rfl];obtain⟨fn,tmps,assign,body,hy0,hR⟩:=HY.out [] 1 wr hJ2 (by decide);have hy:(Instr.yield l #[.int .i64 1]).run Tryz.prog wr=.ok (.round l fn tmps assign body) wr:=hy0;clear hy0;have HRR:=Lib.hid hR;clear hR
    gi_wp2_with fail
    refine HRR.out.mono ?_;rintro e W3 ⟨rfl,hJ3,hb3,hk3⟩;have hB3:=hb3.trans HB.out;clear c0 cf hy;have c0:W3.cell? ⟨Bn,0,none⟩=some (.int .u64 2):=cell_of_row W3 _ 0 _ _ _ hB3;have cf:=row_f hB3;have HB3:=Lib.hid hB3;clear hB3
    gi_wp2
    go_roundw
    case rel=>exact⟨0+1,by decide,(blk_setI 0 _ HB3.out).trans rfl,(hT2.keep (hk3.block _ hg)).keep (heap_setCell_other _ _ _ _ (by show _≠Bn; omega)),hJc _ _ _ hJ3⟩
    case measure =>
     have d1:(W3.setCell ⟨Bn,0,none⟩ (.int .u64 0)).cell? ⟨Bn,0,none⟩=some (.int .u64 0):=cell_of_row _ Bn 0 _ _ _ (blk_setI 0 (.int .u64 0) HB3.out);have d0:wr.cell? ⟨Bn,0,none⟩=some (.int .u64 2):=cell_of_row wr Bn 0 _ _ _ HB.out;rw[d1,d0];decide
   ·
    have hu:=hj;clear hu;have c0:wr.cell? ⟨Bn,0,none⟩=some (.int .u64 0):=cell_of_row wr _ 0 _ _ _ hb;clear hY hb
    gi_wp2
    go_end0
    first | exact⟨⟨_,rfl⟩,hJ2⟩ | exact hJ2
  ·
   rcases (by simp[pts]at hj; omega:j=0∨j=1∨j=2) with rfl | rfl | rfl
   ·
    have hu:=hj;clear hu;have HY:=Lib.hid hY;have e1:bits BinOp.and IntKind.u64 3 2=2:=by kernel_rfl
    have c0:wr.cell? ⟨Bn,0,none⟩=some (.int .u64 3):=cell_of_row wr _ 0 _ _ _ hb;have cf:=row_f hb;have HB:=Lib.hid hb;clear hY hb
    gi_wp2_with fail
    refine⟨trivial,CallsIn.mono (callsIn_wide.2 (trail 3 (by decide) _ hT2)) ?_⟩;rintro e W2 ⟨rfl,rfl⟩;rw[show low 3=0 from rfl];obtain⟨fn,tmps,assign,body,hy0,hR⟩:=HY.out [] 0 wr hJ2 (by decide);have hy:(Instr.yield l #[.int .i64 0]).run Tryz.prog wr=.ok (.round l fn tmps assign body) wr:=hy0;clear hy0;have HRR:=Lib.hid hR;clear hR
    gi_wp2_with fail
    refine HRR.out.mono ?_;rintro e W3 ⟨rfl,hJ3,hb3,hk3⟩;have hB3:=hb3.trans HB.out;clear c0 cf hy;have c0:W3.cell? ⟨Bn,0,none⟩=some (.int .u64 3):=cell_of_row W3 _ 0 _ _ _ hB3;have cf:=row_f hB3;have HB3:=Lib.hid hB3;clear hB3
    gi_wp2
    go_roundw
    case rel=>exact⟨0+1,by decide,(blk_setI 0 _ HB3.out).trans rfl,(hT2.keep (hk3.block _ hg)).keep (heap_setCell_other _ _ _ _ (by show _≠Bn; omega)),hJc _ _ _ hJ3⟩
    case measure =>
     have d1:(W3.setCell ⟨Bn,0,none⟩ (.int .u64 2)).cell? ⟨Bn,0,none⟩=some (.int .u64 2):=cell_of_row _ Bn 0 _ _ _ (blk_setI 0 (.int .u64 2) HB3.out);have d0:wr.cell? ⟨Bn,0,none⟩=some (.int .u64 3):=cell_of_row wr Bn 0 _ _ _ HB.out;rw[d1,d0];decide
   ·
    have hu:=hj;clear hu;have HY:=Lib.hid hY;have e1:bits BinOp.and IntKind.u64 2 1=0:=by kernel_rfl
    have c0:wr.cell? ⟨Bn,0,none⟩=some (.int .u64 2):=cell_of_row wr _ 0 _ _ _ hb;have cf:=row_f hb;have HB:=Lib.hid hb;clear hY hb
    gi_wp2_with fail
    refine⟨trivial,CallsIn.mono (callsIn_wide.2 (trail 2 (by decide) _ hT2)) ?_⟩;rintro e W2 ⟨rfl,rfl⟩;rw[show low 2=1 from rfl];obtain⟨fn,tmps,assign,body,hy0,hR⟩:=HY.out [0] 1 wr hJ2 (by decide);have hy:(Instr.yield l #[.int .i64 1]).run Tryz.prog wr=.ok (.round l fn tmps assign body) wr:=hy0;clear hy0;have HRR:=Lib.hid hR;clear hR
    gi_wp2_with fail
    refine HRR.out.mono ?_;rintro e W3 ⟨rfl,hJ3,hb3,hk3⟩;have hB3:=hb3.trans HB.out;clear c0 cf hy;have c0:W3.cell? ⟨Bn,0,none⟩=some (.int .u64 2):=cell_of_row W3 _ 0 _ _ _ hB3;have cf:=row_f hB3;have HB3:=Lib.hid hB3;clear hB3
    gi_wp2
    go_roundw
    case rel=>exact⟨1+1,by decide,(blk_setI 0 _ HB3.out).trans rfl,(hT2.keep (hk3.block _ hg)).keep (heap_setCell_other _ _ _ _ (by show _≠Bn; omega)),hJc _ _ _ hJ3⟩
    case measure =>
     have d1:(W3.setCell ⟨Bn,0,none⟩ (.int .u64 0)).cell? ⟨Bn,0,none⟩=some (.int .u64 0):=cell_of_row _ Bn 0 _ _ _ (blk_setI 0 (.int .u64 0) HB3.out);have d0:wr.cell? ⟨Bn,0,none⟩=some (.int .u64 2):=cell_of_row wr Bn 0 _ _ _ HB.out;rw[d1,d0];decide
   ·
    have hu:=hj;clear hu;have c0:wr.cell? ⟨Bn,0,none⟩=some (.int .u64 0):=cell_of_row wr _ 0 _ _ _ hb;clear hY hb
    gi_wp2
    go_end0
    first | exact⟨⟨_,rfl⟩,hJ2⟩ | exact hJ2
open Go.RowKit Go.Shelf
attribute [local go_sem] Oper.semAt_some
theorem blkOwn {β : Type} (B:Nat) (f : β->Obj) (hc:∀s,(f s).isCells=true):Own (fun s W=>W.heap[B]?=some (f s)):=fun s X Y row hs hg hrow =>
 (hg.block B (blk_lt hs) (fun e'=>by obtain⟨o,ho,hc'⟩:=hrow B e'.symm; rw[hs]at ho; cases ho; rw[hc s]at hc'; cases hc')).trans hs
/-- what has come together -/
def og:Nat->List Nat->Nat
 | 1,[0]=>1 | 3,[0]=>1 | 3,[0,1]=>3 | _,_=>0
def ins (s:Nat):Nat:=og s (pts s)
/-- a round that has stored -/
theorem roundEnd {w W:World} {s:Nat} {pre':List Nat} {v:Nat} {u o:Value} {B:Nat} (hO:W.heap[w.heap.size+1+1]?=some (.cells #[o] 49 (0,0))) (hX:W.heap[w.heap.size]?=some (.cells (XS 2) 52 (0,0))) (hS:W.heap[w.heap.size+1]?=some (.cells #[.int .u64 (s:Nat)] 49 (0,0))) (B1:Below w.heap.size w W) (hu:v=og s pre') (hv:u=.int .u64 (v:Nat)) (a:Act) :
  goesOn w.heap.size B (w.heap.size+1+1+1) (fun pre W=>((W.heap[w.heap.size+1+1]?=some (.cells #[.int .u64 (og s pre:Nat)] 49 (0,0))/\W.heap[w.heap.size]?=some (.cells (XS 2) 52 (0,0)))/\W.heap[w.heap.size+1]?=some (.cells #[.int .u64 (s:Nat)] 49 (0,0)))/\Below w.heap.size w W) pre' W Exit.normal a ((W.setCell ⟨w.heap.size+1+1,0,none⟩ u).drew).drew:=by
 subst hu hv;have hb:=B1.size;exact⟨((KeepsOthers.setCell _ _ _).trans ((KeepsOthers.drew _).trans (KeepsOthers.drew _))).from _,heap_setCell_other _ _ _ _ (by show w.heap.size+1+1+1≠w.heap.size+1+1; omega),((Below.refl _ W).setCell (p:=⟨w.heap.size+1+1,0,none⟩) (by show w.heap.size<=w.heap.size+1+1; omega) _).drew.drew,⟨⟨(blk_setI 0 _ hO).trans rfl,blk_farI 0 _ (by omega) hX⟩,blk_farI 0 _ (by omega) hS⟩,(B1.setCell (p:=⟨w.heap.size+1+1,0,none⟩) (by show w.heap.size<=w.heap.size+1+1; omega) _).drew.drew⟩
theorem roundSkip {w W:World} {s:Nat} {pre pre':List Nat} {B:Nat} (hO:W.heap[w.heap.size+1+1]?=some (.cells #[.int .u64 (og s pre:Nat)] 49 (0,0))) (hX:W.heap[w.heap.size]?=some (.cells (XS 2) 52 (0,0))) (hS:W.heap[w.heap.size+1]?=some (.cells #[.int .u64 (s:Nat)] 49 (0,0))) (B1:Below w.heap.size w W) (hu:og s pre=og s pre') (a:Act) :
  goesOn w.heap.size B (w.heap.size+1+1+1) (fun pre W=>((W.heap[w.heap.size+1+1]?=some (.cells #[.int .u64 (og s pre:Nat)] 49 (0,0))/\W.heap[w.heap.size]?=some (.cells (XS 2) 52 (0,0)))/\W.heap[w.heap.size+1]?=some (.cells #[.int .u64 (s:Nat)] 49 (0,0)))/\Below w.heap.size w W) pre' W Exit.normal a W.drew :=
 ⟨(KeepsOthers.drew _).from _,rfl,(Below.refl _ W).drew,⟨⟨by rw[<-hu]; exact hO,hX⟩,hS⟩,B1.drew⟩
theorem inside_ok (s:Nat) (hs:s<=3) (w:World) (hT:BitTab w) :
  Calls Tryz.prog 52 #[.agg (XS 2),.int .u64 (s:Nat)] w fun e w'=>e=.returned (.int .u64 (ins s:Nat))/\Below w.heap.size w w':=by
 have hg:=block_lt_of_cell hT.1;dsimp only at hg;refine(callsIn_wide (n:=9)).1 ?_;refine callsIn_of_wp_marks Tryz.func52 rfl trivial ?_ rfl;simp only[Tryz.ntmps52,List.size_toArray,List.length_cons,List.length_nil,Nat.reduceAdd,Nat.reduceSub,Array.replicate_succ,Array.replicate_zero,List.push_toArray,List.append_toArray,List.nil_append,List.cons_append]
 gi_wp2_with (first
  | (refine⟨trivial,?_⟩; gi_at_call 19; refine CallsIn.mono (callsIn_wide.2 (points_any s _)) ?_; rintro e w' ⟨rfl,rfl⟩)
  | fail)
 obtain⟨W0,h0⟩:∃W0,W0=((((w.alloc (.cells (XS 2) 52)).alloc (.cells #[.int .u64 (s:Nat)] 49)).alloc (.cells #[.int .u64 0] 49)).alloc (.cells #[.int .u64 (s:Nat)] 49)):=⟨_,rfl⟩
 rw[<-h0];have X0:W0.heap[w.heap.size]?=some (.cells (XS 2) 52 (0,0)):=by rw[h0]; exact(by repeat (first | assumption | (with_reducible apply blk_set2) | (with_reducible apply blk_set1) | (with_reducible refine blk_far2 ?_ ?_; (first | omega | (simp; done) | (simp; omega))) | (with_reducible refine blk_far1 ?_ ?_; (first | omega | (simp; done) | (simp; omega))) | (with_reducible refine blk_new' _ _ ?_; (first | omega | (simp; done) | (simp; omega))) | (with_reducible refine blk_old ?_) | (with_reducible refine blk_drew ?_)))
 have S0:W0.heap[w.heap.size+1]?=some (.cells #[.int .u64 (s:Nat)] 49 (0,0)):=by rw[h0]; exact(by repeat (first | assumption | (with_reducible apply blk_set2) | (with_reducible apply blk_set1) | (with_reducible refine blk_far2 ?_ ?_; (first | omega | (simp; done) | (simp; omega))) | (with_reducible refine blk_far1 ?_ ?_; (first | omega | (simp; done) | (simp; omega))) | (with_reducible refine blk_new' _ _ ?_; (first | omega | (simp; done) | (simp; omega))) | (with_reducible refine blk_old ?_) | (with_reducible refine blk_drew ?_)))
 have O0:W0.heap[w.heap.size+1+1]?=some (.cells #[.int .u64 0] 49 (0,0)):=by rw[h0]; exact(by repeat (first | assumption | (with_reducible apply blk_set2) | (with_reducible apply blk_set1) | (with_reducible refine blk_far2 ?_ ?_; (first | omega | (simp; done) | (simp; omega))) | (with_reducible refine blk_far1 ?_ ?_; (first | omega | (simp; done) | (simp; omega))) | (with_reducible refine blk_new' _ _ ?_; (first | omega | (simp; done) | (simp; omega))) | (with_reducible refine blk_old ?_) | (with_reducible refine blk_drew ?_)))
 have P0:W0.heap[w.heap.size+1+1+1]?=some (.cells #[.int .u64 (s:Nat)] 49 (0,0)):=by rw[h0]; exact(by repeat (first | assumption | (with_reducible apply blk_set2) | (with_reducible apply blk_set1) | (with_reducible refine blk_far2 ?_ ?_; (first | omega | (simp; done) | (simp; omega))) | (with_reducible refine blk_far1 ?_ ?_; (first | omega | (simp; done) | (simp; omega))) | (with_reducible refine blk_new' _ _ ?_; (first | omega | (simp; done) | (simp; omega))) | (with_reducible refine blk_old ?_) | (with_reducible refine blk_drew ?_)))
 have B0:Below w.heap.size w W0:=by rw[h0]; exact(by repeat (first | exact Below.refl _ _ | exact Nat.le_refl _ | refine Below.alloc ?_ ?_ _ | refine Below.setCell ?_ ?_ _ | refine Below.drew ?_ | refine bl_drewN ?_ _ | (assumption) | refine bl_call ?_ (by assumption) ?_ | omega | (simp <;> omega)))
 have hsz:W0.heap.size=w.heap.size+4:=by rw[h0]; simp
 clear h0;have hT0:=hT.below B0;refine rangeFunc_cell (α:=Nat) (Bn:=w.heap.size+1+1+1) (gf:=42) (lb:=#[.pointer (some ⟨w.heap.size+1+1+1,0,none⟩)]) (encs:=fun k=>#[.int .i64 ((k:Nat):Int)]) (xs:=pts s) w.heap.size (by omega) rfl (by omega) rfl trivial (enters_of Tryz.func42 (by kernel_rfl) rfl) (by omega) (fun x=>rfl)
  (fun l J W hJc hY hB hj=>points1_in 8 (by omega) l _ w.heap.size s hs J W hJc hY ((hB.block _ (by omega)).trans P0) (by omega) (hT0.keep (hB.block _ (by omega))) hg hj)
  (fun pre W=>((W.heap[w.heap.size+1+1]?=some (.cells #[.int .u64 (og s pre:Nat)] 49 (0,0))/\W.heap[w.heap.size]?=some (.cells (XS 2) 52 (0,0)))/\W.heap[w.heap.size+1]?=some (.cells #[.int .u64 (s:Nat)] 49 (0,0)))/\Below w.heap.size w W)
  (OwnFrom.and (OwnFrom.and (OwnFrom.and (Own.from (blkOwn _ _ (fun _=>rfl)) _) (Own.from (blkOwn (β:=List Nat) _ (fun _=>_) (fun _=>rfl)) _)) (Own.from (blkOwn (β:=List Nat) _ (fun _=>_) (fun _=>rfl)) _)) (ownFrom_below (Nat.le_refl _) (by omega)))
  (fun s A v h=>⟨⟨⟨blk_farI 0 _ (by omega) h.1.1.1,blk_farI 0 _ (by omega) h.1.1.2⟩,blk_farI 0 _ (by omega) h.1.2⟩,h.2.setCell (p:=⟨w.heap.size+1+1+1,0,none⟩) (by show w.heap.size<=w.heap.size+1+1+1; omega) v⟩)
  ⟨⟨⟨by rw[show og s []=0 from(by rcases (by omega:s=0∨s=1∨s=2∨s=3) with rfl | rfl | rfl | rfl <;> rfl)]; exact O0,X0⟩,S0⟩,B0⟩
  (fun x=>{ tmps:=#[.agg (XS 2),.int .u64 (s:Nat),.pointer (some ⟨w.heap.size,0,none⟩),.pointer (some ⟨w.heap.size+1,0,none⟩),.int .u64 0,.pointer (some ⟨w.heap.size+1+1,0,none⟩),.int .i64 ((x:Nat):Int),.int .u64 (s:Nat),.func (.func 42) #[] #[.pointer (some ⟨w.heap.size+1+1+1,0,none⟩)],.int .i64 ((x:Nat):Int),undef,undef,undef,undef,undef,undef,undef,undef,undef,undef,undef,undef],defers:=[] })
  ?assign ?body ?done
 case assign =>
  intro l x W K hK
  gi_wp2
  exact hK
 case body =>
  rintro l pre x W ⟨⟨⟨O1,X1⟩,S1⟩,B1⟩ hpre;have hmix:Tryz.prog.follows .mixedOrders=true:=by kernel_rfl
  have x0:W.cell? ⟨w.heap.size,1,none⟩=some (.int .u64 1):=cell_of_row W _ 1 _ _ _ X1;have x1:W.cell? ⟨w.heap.size,2,none⟩=some (.int .u64 3):=cell_of_row W _ 2 _ _ _ X1;have s0:=row1_0 S1;have o0:=row1_0 O1;have fo:=row_f O1;have HO:=Lib.hid O1;have HX:=Lib.hid X1;have HS:=Lib.hid S1;clear O1 X1 S1;rcases (by omega:s=0∨s=1∨s=2∨s=3) with rfl | rfl | rfl | rfl
  · exact absurd hpre.length_le (by simp[pts])
  ·
   obtain⟨rfl,rfl⟩:pre = []/\x=0:=by
    have:=hpre.length_le;cases pre with
    | nil=>simpa[pts]using hpre
    | cons y l=>simp[pts]at this
   have e1:bits BinOp.andNot IntKind.u64 1 1=0:=by kernel_rfl
   have e2:bits BinOp.or IntKind.u64 0 1=1:=by kernel_rfl
   gi_wp2
   gi_region_with_o (fail)
   all_goals
    gi_wp2
    gi_region_with_o (fail)
    all_goals
     gi_wp2
     refine roundEnd (s:=1) (pre':=[0]) (v:=1) HO.out HX.out HS.out B1 rfl ?_ _
     kernel_rfl
  ·
   obtain⟨rfl,rfl⟩:pre = []/\x=1:=by
    have:=hpre.length_le;cases pre with
    | nil=>simpa[pts]using hpre
    | cons y l=>simp[pts]at this
   have e1:bits BinOp.andNot IntKind.u64 3 2=1:=by kernel_rfl
   gi_wp2
   gi_region_with_o (fail)
   all_goals
    gi_wp2
    exact roundSkip (s:=2) (pre':=[1]) (pre:=[]) HO.out HX.out HS.out B1 rfl _
  ·
   have h2:(pre = []/\x=0)∨(pre = [0]/\x=1):=by
    have h3:=hpre.length_le
    match pre,hpre,h3 with
    | [],h,_=>exact .inl ⟨rfl,by simpa[pts]using h⟩
    | [y],h,_=>exact .inr (by simpa[pts]using h)
    | _ :: _ :: _,_,h3=>simp[pts]at h3
   rcases h2 with ⟨rfl,rfl⟩ | ⟨rfl,rfl⟩
   ·
    have hu:=hs;clear hu;have e1:bits BinOp.andNot IntKind.u64 1 3=0:=by kernel_rfl
    gi_wp2
    gi_region_with_o (fail)
    all_goals
     gi_wp2
     gi_region_with_o (fail)
     all_goals
      gi_wp2
      refine roundEnd (s:=3) (pre':=[0]) (v:=1) HO.out HX.out HS.out B1 rfl ?_ _
      kernel_rfl
   ·
    have hu:=hs;clear hu;have e1:bits BinOp.andNot IntKind.u64 3 3=0:=by kernel_rfl
    gi_wp2
    gi_region_with_o (fail)
    all_goals
     gi_wp2
     gi_region_with_o (fail)
     all_goals
      gi_wp2
      refine roundEnd (s:=3) (pre':=[0,1]) (v:=3) HO.out HX.out HS.out B1 rfl ?_ _
      kernel_rfl
 case done =>
  rintro D W hD ⟨⟨⟨O1,X1⟩,S1⟩,B1⟩ hK;have o0:=row1_0 O1;clear O1 X1 S1
  gi_wp2
  refine⟨by simp,.inl ⟨_,_,rfl,run_takeDeferred hK,?_⟩⟩;exact⟨.int .u64 (ins s:Nat),by simp[results,Tryz.results52,go_sem,ins],rfl,B1.trans (belowK_b (w:=w) (Nat.le_refl _) W D _ _ (by omega) hK rfl rfl)⟩
open Go.RowKit Go.Shelf
attribute [local go_sem] Oper.semAt_some
theorem isSpace_ok (w:World) (hT:BitTab w) :
  Calls Tryz.prog 40 #[.agg (XS 2)] w fun e w'=>e=.returned (.bool true)/\Below w.heap.size w w':=by
 have hg:=block_lt_of_cell hT.1;dsimp only at hg;have hmix:Tryz.prog.follows .mixedOrders=true:=by kernel_rfl
 refine(callsIn_wide (n:=9)).1 ?_;refine callsIn_of_wp_marks Tryz.func40 rfl trivial ?_ rfl;simp only[Tryz.ntmps40,List.size_toArray,List.length_cons,List.length_nil,Nat.reduceAdd,Nat.reduceSub,Array.replicate_succ,Array.replicate_zero,List.push_toArray,List.append_toArray,List.nil_append,List.cons_append]
 gi_upto_region 1 with fail
 obtain⟨W0,h0⟩:∃W0,W0=((w.alloc (.cells (XS 2) 52)).alloc (.cells #[.bool false] 4)):=⟨_,rfl⟩
 rw[<-h0];have X0:W0.heap[w.heap.size]?=some (.cells (XS 2) 52 (0,0)):=by rw[h0]; exact(by repeat (first | assumption | (with_reducible apply blk_set2) | (with_reducible apply blk_set1) | (with_reducible refine blk_far2 ?_ ?_; (first | omega | (simp; done) | (simp; omega))) | (with_reducible refine blk_far1 ?_ ?_; (first | omega | (simp; done) | (simp; omega))) | (with_reducible refine blk_new' _ _ ?_; (first | omega | (simp; done) | (simp; omega))) | (with_reducible refine blk_old ?_) | (with_reducible refine blk_drew ?_)))
 have R0:W0.heap[w.heap.size+1]?=some (.cells #[.bool false] 4 (0,0)):=by rw[h0]; exact(by repeat (first | assumption | (with_reducible apply blk_set2) | (with_reducible apply blk_set1) | (with_reducible refine blk_far2 ?_ ?_; (first | omega | (simp; done) | (simp; omega))) | (with_reducible refine blk_far1 ?_ ?_; (first | omega | (simp; done) | (simp; omega))) | (with_reducible refine blk_new' _ _ ?_; (first | omega | (simp; done) | (simp; omega))) | (with_reducible refine blk_old ?_) | (with_reducible refine blk_drew ?_)))
 have B0:Below w.heap.size w W0:=by rw[h0]; exact(by repeat (first | exact Below.refl _ _ | exact Nat.le_refl _ | refine Below.alloc ?_ ?_ _ | refine Below.setCell ?_ ?_ _ | refine Below.drew ?_ | refine bl_drewN ?_ _ | (assumption) | refine bl_call ?_ (by assumption) ?_ | omega | (simp <;> omega)))
 have hsz:W0.heap.size=w.heap.size+2:=by rw[h0]; simp
 clear h0;have x0:W0.cell? ⟨w.heap.size,0,none⟩=some (.int .i64 2):=cell_of_row W0 _ 0 _ _ _ X0;have x1:W0.cell? ⟨w.heap.size,1,none⟩=some (.int .u64 1):=cell_of_row W0 _ 1 _ _ _ X0;have x2:W0.cell? ⟨w.heap.size,2,none⟩=some (.int .u64 3):=cell_of_row W0 _ 2 _ _ _ X0;have HX0:=Lib.hid X0;have HR0:=Lib.hid R0;clear X0 R0
 gi_wp2_with fail
 refine wpIn_loop_rounds 3 ?_;have HX:=HX0;have HR:=HR0;have hle:w.heap.size+2<=W0.heap.size:=by omega
 clear hsz;clear HX0 HR0;rw[roundsIn_succ]
 gi_upto_region 4 with fail
 obtain⟨Wb,hb⟩:∃Wb,Wb=(W0.alloc (.cells #[.int .i64 0] 3)):=⟨_,rfl⟩
 rw[<-hb];have Xb:Wb.heap[w.heap.size]?=some (.cells (XS 2) 52 (0,0)):=by rw[hb]; exact blk_old HX.out
 have Pb:Wb.heap[W0.heap.size]?=some (.cells #[.int .i64 0] 3 (0,0)):=by rw[hb]; exact blk_new _ _
 clear x0 x1 x2;have x0:Wb.cell? ⟨w.heap.size,0,none⟩=some (.int .i64 2):=cell_of_row Wb _ 0 _ _ _ Xb;have x1:Wb.cell? ⟨w.heap.size,1,none⟩=some (.int .u64 1):=cell_of_row Wb _ 1 _ _ _ Xb;have x2:Wb.cell? ⟨w.heap.size,2,none⟩=some (.int .u64 3):=cell_of_row Wb _ 2 _ _ _ Xb;have p0:=row1_0 Pb;have HB:=Lib.hid hb;clear Xb Pb hb;refine wpIn_region_quiet_lit rfl (by kernel_rfl) (by kernel_rfl) ?_
 iterate 5 (gi_big_quiet_step (fail))
 refine BigFrame.wpQuietIn_want (fun _ _ _ _=>trivial) rfl ?_;intro K hK
 gi_big_quiet_op
 gi_big_quiet_call ((exact CallsIn.quiet_of_same (CallsIn.mono (callsIn_wide.2 (has_ok 1 0 true (.inl ⟨rfl,rfl,rfl⟩) _)) (by rintro e w' ⟨rfl,rfl⟩; exact⟨rfl,rfl⟩))))
 gi_big_quiet_step (fail)
 refine wpQuietIn_nil ?_;intro _ hw';obtain⟨nq,rfl⟩:=hw';obtain⟨W1,h1⟩:∃W1,W1=(Wb.drewN nq):=⟨_,rfl⟩
 rw[<-h1];have X1:W1.heap[w.heap.size]?=some (.cells (XS 2) 52 (0,0)):=by rw[h1,HB.out]; exact blk_old HX.out
 have R1:W1.heap[w.heap.size+1]?=some (.cells #[.bool false] 4 (0,0)):=by rw[h1,HB.out]; exact blk_old HR.out
 have P1:W1.heap[W0.heap.size]?=some (.cells #[.int .i64 0] 3 (0,0)):=by rw[h1,HB.out]; exact blk_new _ _
 have B1:Below w.heap.size w W1:=by rw[h1,HB.out]; have b:=B0.alloc (by omega:w.heap.size<=W0.heap.size) (.cells #[.int .i64 0] 3); exact⟨b.os,b.tape,b.output,b.size,b.block⟩
 have BWW:Below W0.heap.size W0 W1:=by rw[h1,HB.out]; have b:=(Below.refl _ W0).alloc (Nat.le_refl _) (.cells #[.int .i64 0] 3); exact⟨b.os,b.tape,b.output,b.size,b.block⟩
 have hsz1:W0.heap.size < W1.heap.size:=blk_lt P1;clear x0 x1 x2 p0 HX HR h1 HB;have x0:W1.cell? ⟨w.heap.size,0,none⟩=some (.int .i64 2):=cell_of_row W1 _ 0 _ _ _ X1;have x1:W1.cell? ⟨w.heap.size,1,none⟩=some (.int .u64 1):=cell_of_row W1 _ 1 _ _ _ X1;have x2:W1.cell? ⟨w.heap.size,2,none⟩=some (.int .u64 3):=cell_of_row W1 _ 2 _ _ _ X1;have p0:=row1_0 P1;have HX1:=Lib.hid X1;have HR1:=Lib.hid R1;have HP1:=Lib.hid P1;clear X1 R1 P1
 gi_wp2_with (first
  | (refine⟨trivial,?_⟩; gi_at_call 19; refine CallsIn.mono (callsIn_wide.2 (points_any 1 _)) ?_; rintro e w' ⟨rfl,rfl⟩)
  | fail)
 obtain⟨Wc,hc⟩:∃Wc,Wc=(W1.alloc (.cells #[.int .u64 1] 49)):=⟨_,rfl⟩
 rw[<-hc];have hnc:Wc.heap[W1.heap.size]?=some (.cells #[.int .u64 1] 49 (0,0)):=by rw[hc]; exact blk_new _ _
 have Bc:Below w.heap.size w Wc:=by rw[hc]; exact B1.alloc (by omega) _
 have B1c:Below W1.heap.size W1 Wc:=by rw[hc]; exact(Below.refl _ _).alloc (Nat.le_refl _) _
 have hszc:W1.heap.size < Wc.heap.size:=blk_lt hnc;have hTc:=hT.below Bc;clear hc;refine rangeFunc_cell (α:=Nat) (Bn:=W1.heap.size) (gf:=42) (lb:=#[.pointer (some ⟨W1.heap.size,0,none⟩)]) (encs:=fun k=>#[.int .i64 ((k:Nat):Int)]) (xs:=pts 1) w.heap.size (by omega) rfl (by omega) rfl trivial (enters_of Tryz.func42 (by kernel_rfl) rfl) (by omega) (fun x=>rfl)
  (fun l J W hJc hY hB hj=>points1_in 8 (by omega) l _ w.heap.size 1 (by decide) J W hJc hY ((hB.block _ (by omega)).trans hnc) (by omega) (hTc.keep (hB.block _ (by omega))) hg hj)
  (fun _ W=>Below W1.heap.size W1 W) (ownFrom_below (Nat.le_refl _) (by omega))
  (fun s A v h=>h.setCell (p:=⟨W1.heap.size,0,none⟩) (Nat.le_refl _) v)
  B1c
  (fun x=>{ tmps:=#[.agg (XS 2),.pointer (some ⟨w.heap.size,0,none⟩),.pointer (some ⟨w.heap.size+1,0,none⟩),.pointer (some ⟨W0.heap.size,0,none⟩),.int .i64 ((x:Nat):Int),.pointer (some ⟨w.heap.size,0,none⟩),.int .i64 2,.int .i64 0,.bool true,.int .i64 0,.int .i64 0,.pointer (some ⟨w.heap.size,1,none⟩),.pointer (some ⟨w.heap.size,0+1,none⟩),.int .u64 1,.int .i64 0,.bool true,.bool false,.int .i64 0,.pointer (some ⟨w.heap.size,1,none⟩),.pointer (some ⟨w.heap.size,0+1,none⟩),.int .u64 1,.func (.func 42) #[] #[.pointer (some ⟨W1.heap.size,0,none⟩)],.int .i64 ((x:Nat):Int),undef,undef,undef,undef,undef,undef,undef,undef,undef,undef,undef],defers:=[] })
  ?assign0 ?body0 ?done0
 case assign0 =>
  intro l x W K hK
  gi_wp2
  exact hK
 case body0 =>
  rintro l pre x W BW hpre;have O1:=(BW.block _ (blk_lt HX1.out)).trans HX1.out;have S1:=(BW.block _ (blk_lt HP1.out)).trans HP1.out;have y0:W.cell? ⟨w.heap.size,1,none⟩=some (.int .u64 1):=cell_of_row W _ 1 _ _ _ O1;have y1:W.cell? ⟨w.heap.size,2,none⟩=some (.int .u64 3):=cell_of_row W _ 2 _ _ _ O1;have q0:=row1_0 S1;have e1:bits BinOp.andNot IntKind.u64 1 1=0:=by kernel_rfl
  have e2:bits BinOp.andNot IntKind.u64 1 3=0:=by kernel_rfl
  have e3:bits BinOp.andNot IntKind.u64 3 3=0:=by kernel_rfl
  clear O1 S1 x0 x1 x2 p0;have hx:x=0∨x=0:=by
   have:=hpre.subset (List.mem_append_right _ (List.mem_singleton.2 rfl):x∈pre ++ [x]);simp[pts]at this;omega
  rcases hx with rfl | rfl
  ·
   have hu:=hg;clear hu
   gi_wp2
   refine with_actIn fun a0 ha0=>?_;have hsz0:a0.tmps.size=34:=by rw[ha0]; rfl
   refine wpIn_region_vals (by kernel_rfl) (by kernel_rfl) [(23,.int .i64 0),(24,.pointer (some ⟨w.heap.size,1,none⟩)),(25,.pointer (some ⟨w.heap.size,0+1,none⟩)),(26,.int .u64 1),(27,.int .i64 0),(28,.pointer (some ⟨w.heap.size,1,none⟩)),(29,.pointer (some ⟨w.heap.size,0+1,none⟩)),(30,.int .u64 1),(31,.int .u64 0),(32,.bool false)] rfl (by show([23,24,25,26,27,28,29,30,31,32]:List Nat).Nodup; decide) _ hsz0 (by kernel_rfl) ⟨⟨rfl,rfl,?y1v0⟩,⟨rfl,rfl,?y1v1⟩,⟨rfl,rfl,?y1v2⟩,⟨rfl,rfl,?y1v3⟩,⟨rfl,rfl,?y1v4⟩,⟨rfl,rfl,?y1v5⟩,⟨rfl,rfl,?y1v6⟩,⟨rfl,rfl,?y1v7⟩,⟨rfl,rfl,?y1v8⟩,⟨rfl,rfl,?y1v9⟩,trivial⟩ ?y1done
   case y1v0 =>
    intro a' hA hdep;obtain⟨r4,q4⟩:=dpi hA 4 (.int .i64 0) (by kernel_rfl) (by rw[ha0]; rfl);clear hdep ha0 hA;refine⟨about_plain (fun _ h=>nomatch h),?_⟩;simp[go_sem, *]
   case y1v1 =>
    intro a' hA hdep;obtain⟨r1,q1⟩:=dpi hA 1 (.pointer (some ⟨w.heap.size,0,none⟩)) (by kernel_rfl) (by rw[ha0]; rfl);clear hdep ha0 hA;refine⟨about_plain (fun _ h=>nomatch h),?_⟩;simp[go_sem, *]
   case y1v2 =>
    intro a' hA hdep;obtain⟨r24,q24⟩:=dpv hdep ⟨1,.data⟩ (by simp) rfl rfl;obtain⟨r23,q23⟩:=dpv hdep ⟨0,.data⟩ (by simp) rfl rfl;clear hdep ha0 hA;refine⟨about_plain (fun _ h=>nomatch h),?_⟩;simp[go_sem, *]
   case y1v3 =>
    intro a' hA hdep;obtain⟨r25,q25⟩:=dpv hdep ⟨2,.data⟩ (by simp) rfl rfl;clear hdep ha0 hA;refine⟨about_plain (fun _ h=>nomatch h),?_⟩;simp[go_sem, *]
   case y1v4 =>
    intro a' hA hdep;obtain⟨r3,q3⟩:=dpi hA 3 (.pointer (some ⟨W0.heap.size,0,none⟩)) (by kernel_rfl) (by rw[ha0]; rfl);clear hdep ha0 hA;refine⟨about_plain (fun _ h=>nomatch h),?_⟩;simp[go_sem, *]
   case y1v5 =>
    intro a' hA hdep;obtain⟨r1,q1⟩:=dpi hA 1 (.pointer (some ⟨w.heap.size,0,none⟩)) (by kernel_rfl) (by rw[ha0]; rfl);clear hdep ha0 hA;refine⟨about_plain (fun _ h=>nomatch h),?_⟩;simp[go_sem, *]
   case y1v6 =>
    intro a' hA hdep;obtain⟨r28,q28⟩:=dpv hdep ⟨5,.data⟩ (by simp) rfl rfl;obtain⟨r27,q27⟩:=dpv hdep ⟨4,.data⟩ (by simp) rfl rfl;clear hdep ha0 hA;refine⟨about_plain (fun _ h=>nomatch h),?_⟩;simp[go_sem, *]
   case y1v7 =>
    intro a' hA hdep;obtain⟨r29,q29⟩:=dpv hdep ⟨6,.data⟩ (by simp) rfl rfl;clear hdep ha0 hA;refine⟨about_plain (fun _ h=>nomatch h),?_⟩;simp[go_sem, *]
   case y1v8 =>
    intro a' hA hdep;obtain⟨r26,q26⟩:=dpv hdep ⟨3,.data⟩ (by simp) rfl rfl;obtain⟨r30,q30⟩:=dpv hdep ⟨7,.data⟩ (by simp) rfl rfl;clear hdep ha0 hA;refine⟨about_plain (fun _ h=>nomatch h),?_⟩;simp[go_sem, *]
   case y1v9 =>
    intro a' hA hdep;obtain⟨r31,q31⟩:=dpv hdep ⟨8,.data⟩ (by simp) rfl rfl;clear hdep ha0 hA;refine⟨about_plain (fun _ h=>nomatch h),?_⟩;simp[go_sem, *]
   rw[ha0]; simp only[putL,Act.put,sA_,sZ_,sS_];clear ha0 hsz0
   gi_wp2
   exact⟨(KeepsOthers.drew _).from _,rfl,(Below.refl _ W).drew,BW.drew⟩
  ·
   have hu:=hg;clear hu
   gi_wp2
   refine with_actIn fun a0 ha0=>?_;have hsz0:a0.tmps.size=34:=by rw[ha0]; rfl
   refine wpIn_region_vals (by kernel_rfl) (by kernel_rfl) [(23,.int .i64 0),(24,.pointer (some ⟨w.heap.size,1,none⟩)),(25,.pointer (some ⟨w.heap.size,0+1,none⟩)),(26,.int .u64 1),(27,.int .i64 0),(28,.pointer (some ⟨w.heap.size,1,none⟩)),(29,.pointer (some ⟨w.heap.size,0+1,none⟩)),(30,.int .u64 1),(31,.int .u64 0),(32,.bool false)] rfl (by show([23,24,25,26,27,28,29,30,31,32]:List Nat).Nodup; decide) _ hsz0 (by kernel_rfl) ⟨⟨rfl,rfl,?y2v0⟩,⟨rfl,rfl,?y2v1⟩,⟨rfl,rfl,?y2v2⟩,⟨rfl,rfl,?y2v3⟩,⟨rfl,rfl,?y2v4⟩,⟨rfl,rfl,?y2v5⟩,⟨rfl,rfl,?y2v6⟩,⟨rfl,rfl,?y2v7⟩,⟨rfl,rfl,?y2v8⟩,⟨rfl,rfl,?y2v9⟩,trivial⟩ ?y2done
   case y2v0 =>
    intro a' hA hdep;obtain⟨r4,q4⟩:=dpi hA 4 (.int .i64 0) (by kernel_rfl) (by rw[ha0]; rfl);clear hdep ha0 hA;refine⟨about_plain (fun _ h=>nomatch h),?_⟩;simp[go_sem, *]
   case y2v1 =>
    intro a' hA hdep;obtain⟨r1,q1⟩:=dpi hA 1 (.pointer (some ⟨w.heap.size,0,none⟩)) (by kernel_rfl) (by rw[ha0]; rfl);clear hdep ha0 hA;refine⟨about_plain (fun _ h=>nomatch h),?_⟩;simp[go_sem, *]
   case y2v2 =>
    intro a' hA hdep;obtain⟨r24,q24⟩:=dpv hdep ⟨1,.data⟩ (by simp) rfl rfl;obtain⟨r23,q23⟩:=dpv hdep ⟨0,.data⟩ (by simp) rfl rfl;clear hdep ha0 hA;refine⟨about_plain (fun _ h=>nomatch h),?_⟩;simp[go_sem, *]
   case y2v3 =>
    intro a' hA hdep;obtain⟨r25,q25⟩:=dpv hdep ⟨2,.data⟩ (by simp) rfl rfl;clear hdep ha0 hA;refine⟨about_plain (fun _ h=>nomatch h),?_⟩;simp[go_sem, *]
   case y2v4 =>
    intro a' hA hdep;obtain⟨r3,q3⟩:=dpi hA 3 (.pointer (some ⟨W0.heap.size,0,none⟩)) (by kernel_rfl) (by rw[ha0]; rfl);clear hdep ha0 hA;refine⟨about_plain (fun _ h=>nomatch h),?_⟩;simp[go_sem, *]
   case y2v5 =>
    intro a' hA hdep;obtain⟨r1,q1⟩:=dpi hA 1 (.pointer (some ⟨w.heap.size,0,none⟩)) (by kernel_rfl) (by rw[ha0]; rfl);clear hdep ha0 hA;refine⟨about_plain (fun _ h=>nomatch h),?_⟩;simp[go_sem, *]
   case y2v6 =>
    intro a' hA hdep;obtain⟨r28,q28⟩:=dpv hdep ⟨5,.data⟩ (by simp) rfl rfl;obtain⟨r27,q27⟩:=dpv hdep ⟨4,.data⟩ (by simp) rfl rfl;clear hdep ha0 hA;refine⟨about_plain (fun _ h=>nomatch h),?_⟩;simp[go_sem, *]
   case y2v7 =>
    intro a' hA hdep;obtain⟨r29,q29⟩:=dpv hdep ⟨6,.data⟩ (by simp) rfl rfl;clear hdep ha0 hA;refine⟨about_plain (fun _ h=>nomatch h),?_⟩;simp[go_sem, *]
   case y2v8 =>
    intro a' hA hdep;obtain⟨r26,q26⟩:=dpv hdep ⟨3,.data⟩ (by simp) rfl rfl;obtain⟨r30,q30⟩:=dpv hdep ⟨7,.data⟩ (by simp) rfl rfl;clear hdep ha0 hA;refine⟨about_plain (fun _ h=>nomatch h),?_⟩;simp[go_sem, *]
   case y2v9 =>
    intro a' hA hdep;obtain⟨r31,q31⟩:=dpv hdep ⟨8,.data⟩ (by simp) rfl rfl;clear hdep ha0 hA;refine⟨about_plain (fun _ h=>nomatch h),?_⟩;simp[go_sem, *]
   rw[ha0]; simp only[putL,Act.put,sA_,sZ_,sS_];clear ha0 hsz0
   gi_wp2
   exact⟨(KeepsOthers.drew _).from _,rfl,(Below.refl _ W).drew,BW.drew⟩
 rintro D W2 hD BW2 hK;have X2:=(BW2.block _ (blk_lt HX1.out)).trans HX1.out;have R2:=(BW2.block _ (blk_lt HR1.out)).trans HR1.out;have B2:Below w.heap.size w W2:=B1.trans (BW2.mono (by omega));clear HX1 HR1 HP1;have HLE:=Lib.hid hle;clear x0 x1 x2 B0 hle;have x0:W2.cell? ⟨w.heap.size,0,none⟩=some (.int .i64 2):=cell_of_row W2 _ 0 _ _ _ X2;have x1:W2.cell? ⟨w.heap.size,1,none⟩=some (.int .u64 1):=cell_of_row W2 _ 1 _ _ _ X2;have x2:W2.cell? ⟨w.heap.size,2,none⟩=some (.int .u64 3):=cell_of_row W2 _ 2 _ _ _ X2;have hle:w.heap.size+2<=W2.heap.size:=blk_lt R2;have B0:=B2;have HX:=Lib.hid X2;have HR:=Lib.hid R2;have HK2:=Lib.hid hK;have HD2:=Lib.hid hD;have HHS:=Lib.hid hsz1;have HHT:=Lib.hid hszc;clear X2 R2 hK B2 hD Bc B1c hnc hTc hsz1 hszc B1 BW2 p0 BWW
 gi_wp2
 rw[roundsIn_succ]
 gi_upto_region 4 with fail
 obtain⟨Wb,hb⟩:∃Wb,Wb=(W2.alloc (.cells #[.int .i64 1] 3)):=⟨_,rfl⟩
 rw[<-hb];have Xb:Wb.heap[w.heap.size]?=some (.cells (XS 2) 52 (0,0)):=by rw[hb]; exact blk_old HX.out
 have Pb:Wb.heap[W2.heap.size]?=some (.cells #[.int .i64 1] 3 (0,0)):=by rw[hb]; exact blk_new _ _
 clear x0 x1 x2;have x0:Wb.cell? ⟨w.heap.size,0,none⟩=some (.int .i64 2):=cell_of_row Wb _ 0 _ _ _ Xb;have x1:Wb.cell? ⟨w.heap.size,1,none⟩=some (.int .u64 1):=cell_of_row Wb _ 1 _ _ _ Xb;have x2:Wb.cell? ⟨w.heap.size,2,none⟩=some (.int .u64 3):=cell_of_row Wb _ 2 _ _ _ Xb;have p0:=row1_0 Pb;have HB:=Lib.hid hb;clear Xb Pb hb;refine wpIn_region_quiet_lit rfl (by kernel_rfl) (by kernel_rfl) ?_
 iterate 5 (gi_big_quiet_step (fail))
 refine BigFrame.wpQuietIn_want (fun _ _ _ _=>trivial) rfl ?_;intro K hK
 gi_big_quiet_op
 gi_big_quiet_call ((exact CallsIn.quiet_of_same (CallsIn.mono (callsIn_wide.2 (has_ok 3 1 true (.inr ⟨rfl,rfl,rfl⟩) _)) (by rintro e w' ⟨rfl,rfl⟩; exact⟨rfl,rfl⟩))))
 gi_big_quiet_step (fail)
 refine wpQuietIn_nil ?_;intro _ hw';obtain⟨nq,rfl⟩:=hw';obtain⟨W1,h1⟩:∃W1,W1=(Wb.drewN nq):=⟨_,rfl⟩
 rw[<-h1];have X1:W1.heap[w.heap.size]?=some (.cells (XS 2) 52 (0,0)):=by rw[h1,HB.out]; exact blk_old HX.out
 have R1:W1.heap[w.heap.size+1]?=some (.cells #[.bool false] 4 (0,0)):=by rw[h1,HB.out]; exact blk_old HR.out
 have P1:W1.heap[W2.heap.size]?=some (.cells #[.int .i64 1] 3 (0,0)):=by rw[h1,HB.out]; exact blk_new _ _
 have B1:Below w.heap.size w W1:=by rw[h1,HB.out]; have b:=B0.alloc (by omega:w.heap.size<=W2.heap.size) (.cells #[.int .i64 1] 3); exact⟨b.os,b.tape,b.output,b.size,b.block⟩
 have BWW:Below W2.heap.size W2 W1:=by rw[h1,HB.out]; have b:=(Below.refl _ W2).alloc (Nat.le_refl _) (.cells #[.int .i64 1] 3); exact⟨b.os,b.tape,b.output,b.size,b.block⟩
 have hsz1:W2.heap.size < W1.heap.size:=blk_lt P1;clear x0 x1 x2 p0 HX HR h1 HB;have x0:W1.cell? ⟨w.heap.size,0,none⟩=some (.int .i64 2):=cell_of_row W1 _ 0 _ _ _ X1;have x1:W1.cell? ⟨w.heap.size,1,none⟩=some (.int .u64 1):=cell_of_row W1 _ 1 _ _ _ X1;have x2:W1.cell? ⟨w.heap.size,2,none⟩=some (.int .u64 3):=cell_of_row W1 _ 2 _ _ _ X1;have p0:=row1_0 P1;have HX1:=Lib.hid X1;have HR1:=Lib.hid R1;have HP1:=Lib.hid P1;clear X1 R1 P1
 gi_wp2_with (first
  | (refine⟨trivial,?_⟩; gi_at_call 19; refine CallsIn.mono (callsIn_wide.2 (points_any 3 _)) ?_; rintro e w' ⟨rfl,rfl⟩)
  | fail)
 obtain⟨Wc,hc⟩:∃Wc,Wc=(W1.alloc (.cells #[.int .u64 3] 49)):=⟨_,rfl⟩
 rw[<-hc];have hnc:Wc.heap[W1.heap.size]?=some (.cells #[.int .u64 3] 49 (0,0)):=by rw[hc]; exact blk_new _ _
 have Bc:Below w.heap.size w Wc:=by rw[hc]; exact B1.alloc (by omega) _
 have B1c:Below W1.heap.size W1 Wc:=by rw[hc]; exact(Below.refl _ _).alloc (Nat.le_refl _) _
 have hszc:W1.heap.size < Wc.heap.size:=blk_lt hnc;have hTc:=hT.below Bc;clear hc;refine rangeFunc_cell (α:=Nat) (Bn:=W1.heap.size) (gf:=42) (lb:=#[.pointer (some ⟨W1.heap.size,0,none⟩)]) (encs:=fun k=>#[.int .i64 ((k:Nat):Int)]) (xs:=pts 3) w.heap.size (by omega) rfl (by omega) rfl trivial (enters_of Tryz.func42 (by kernel_rfl) rfl) (by omega) (fun x=>rfl)
  (fun l J W hJc hY hB hj=>points1_in 8 (by omega) l _ w.heap.size 3 (by decide) J W hJc hY ((hB.block _ (by omega)).trans hnc) (by omega) (hTc.keep (hB.block _ (by omega))) hg hj)
  (fun _ W=>Below W1.heap.size W1 W) (ownFrom_below (Nat.le_refl _) (by omega))
  (fun s A v h=>h.setCell (p:=⟨W1.heap.size,0,none⟩) (Nat.le_refl _) v)
  B1c
  (fun x=>{ tmps:=#[.agg (XS 2),.pointer (some ⟨w.heap.size,0,none⟩),.pointer (some ⟨w.heap.size+1,0,none⟩),.pointer (some ⟨W2.heap.size,0,none⟩),.int .i64 ((x:Nat):Int),.pointer (some ⟨w.heap.size,0,none⟩),.int .i64 2,.int .i64 1,.bool true,.int .i64 1,.int .i64 1,.pointer (some ⟨w.heap.size,1,none⟩),.pointer (some ⟨w.heap.size,1+1,none⟩),.int .u64 3,.int .i64 1,.bool true,.bool false,.int .i64 1,.pointer (some ⟨w.heap.size,1,none⟩),.pointer (some ⟨w.heap.size,1+1,none⟩),.int .u64 3,.func (.func 42) #[] #[.pointer (some ⟨W1.heap.size,0,none⟩)],.int .i64 ((x:Nat):Int),undef,undef,undef,undef,undef,undef,undef,undef,undef,undef,.int .i64 1],defers:=[] })
  ?assign1 ?body1 ?done1
 case assign1 =>
  intro l x W K hK
  gi_wp2
  exact hK
 case body1 =>
  rintro l pre x W BW hpre;have O1:=(BW.block _ (blk_lt HX1.out)).trans HX1.out;have S1:=(BW.block _ (blk_lt HP1.out)).trans HP1.out;have y0:W.cell? ⟨w.heap.size,1,none⟩=some (.int .u64 1):=cell_of_row W _ 1 _ _ _ O1;have y1:W.cell? ⟨w.heap.size,2,none⟩=some (.int .u64 3):=cell_of_row W _ 2 _ _ _ O1;have q0:=row1_0 S1;have e1:bits BinOp.andNot IntKind.u64 1 1=0:=by kernel_rfl
  have e2:bits BinOp.andNot IntKind.u64 1 3=0:=by kernel_rfl
  have e3:bits BinOp.andNot IntKind.u64 3 3=0:=by kernel_rfl
  clear O1 S1 x0 x1 x2 p0;have hx:x=0∨x=1:=by
   have:=hpre.subset (List.mem_append_right _ (List.mem_singleton.2 rfl):x∈pre ++ [x]);simp[pts]at this;omega
  rcases hx with rfl | rfl
  ·
   have hu:=hg;clear hu
   gi_wp2
   refine with_actIn fun a0 ha0=>?_;have hsz0:a0.tmps.size=34:=by rw[ha0]; rfl
   refine wpIn_region_vals (by kernel_rfl) (by kernel_rfl) [(23,.int .i64 0),(24,.pointer (some ⟨w.heap.size,1,none⟩)),(25,.pointer (some ⟨w.heap.size,0+1,none⟩)),(26,.int .u64 1),(27,.int .i64 1),(28,.pointer (some ⟨w.heap.size,1,none⟩)),(29,.pointer (some ⟨w.heap.size,1+1,none⟩)),(30,.int .u64 3),(31,.int .u64 0),(32,.bool false)] rfl (by show([23,24,25,26,27,28,29,30,31,32]:List Nat).Nodup; decide) _ hsz0 (by kernel_rfl) ⟨⟨rfl,rfl,?y3v0⟩,⟨rfl,rfl,?y3v1⟩,⟨rfl,rfl,?y3v2⟩,⟨rfl,rfl,?y3v3⟩,⟨rfl,rfl,?y3v4⟩,⟨rfl,rfl,?y3v5⟩,⟨rfl,rfl,?y3v6⟩,⟨rfl,rfl,?y3v7⟩,⟨rfl,rfl,?y3v8⟩,⟨rfl,rfl,?y3v9⟩,trivial⟩ ?y3done
   case y3v0 =>
    intro a' hA hdep;obtain⟨r4,q4⟩:=dpi hA 4 (.int .i64 0) (by kernel_rfl) (by rw[ha0]; rfl);clear hdep ha0 hA;refine⟨about_plain (fun _ h=>nomatch h),?_⟩;simp[go_sem, *]
   case y3v1 =>
    intro a' hA hdep;obtain⟨r1,q1⟩:=dpi hA 1 (.pointer (some ⟨w.heap.size,0,none⟩)) (by kernel_rfl) (by rw[ha0]; rfl);clear hdep ha0 hA;refine⟨about_plain (fun _ h=>nomatch h),?_⟩;simp[go_sem, *]
   case y3v2 =>
    intro a' hA hdep;obtain⟨r24,q24⟩:=dpv hdep ⟨1,.data⟩ (by simp) rfl rfl;obtain⟨r23,q23⟩:=dpv hdep ⟨0,.data⟩ (by simp) rfl rfl;clear hdep ha0 hA;refine⟨about_plain (fun _ h=>nomatch h),?_⟩;simp[go_sem, *]
   case y3v3 =>
    intro a' hA hdep;obtain⟨r25,q25⟩:=dpv hdep ⟨2,.data⟩ (by simp) rfl rfl;clear hdep ha0 hA;refine⟨about_plain (fun _ h=>nomatch h),?_⟩;simp[go_sem, *]
   case y3v4 =>
    intro a' hA hdep;obtain⟨r3,q3⟩:=dpi hA 3 (.pointer (some ⟨W2.heap.size,0,none⟩)) (by kernel_rfl) (by rw[ha0]; rfl);clear hdep ha0 hA;refine⟨about_plain (fun _ h=>nomatch h),?_⟩;simp[go_sem, *]
   case y3v5 =>
    intro a' hA hdep;obtain⟨r1,q1⟩:=dpi hA 1 (.pointer (some ⟨w.heap.size,0,none⟩)) (by kernel_rfl) (by rw[ha0]; rfl);clear hdep ha0 hA;refine⟨about_plain (fun _ h=>nomatch h),?_⟩;simp[go_sem, *]
   case y3v6 =>
    intro a' hA hdep;obtain⟨r28,q28⟩:=dpv hdep ⟨5,.data⟩ (by simp) rfl rfl;obtain⟨r27,q27⟩:=dpv hdep ⟨4,.data⟩ (by simp) rfl rfl;clear hdep ha0 hA;refine⟨about_plain (fun _ h=>nomatch h),?_⟩;simp[go_sem, *]
   case y3v7 =>
    intro a' hA hdep;obtain⟨r29,q29⟩:=dpv hdep ⟨6,.data⟩ (by simp) rfl rfl;clear hdep ha0 hA;refine⟨about_plain (fun _ h=>nomatch h),?_⟩;simp[go_sem, *]
   case y3v8 =>
    intro a' hA hdep;obtain⟨r26,q26⟩:=dpv hdep ⟨3,.data⟩ (by simp) rfl rfl;obtain⟨r30,q30⟩:=dpv hdep ⟨7,.data⟩ (by simp) rfl rfl;clear hdep ha0 hA;refine⟨about_plain (fun _ h=>nomatch h),?_⟩;simp[go_sem, *]
   case y3v9 =>
    intro a' hA hdep;obtain⟨r31,q31⟩:=dpv hdep ⟨8,.data⟩ (by simp) rfl rfl;clear hdep ha0 hA;refine⟨about_plain (fun _ h=>nomatch h),?_⟩;simp[go_sem, *]
   rw[ha0]; simp only[putL,Act.put,sA_,sZ_,sS_];clear ha0 hsz0
   gi_wp2
   exact⟨(KeepsOthers.drew _).from _,rfl,(Below.refl _ W).drew,BW.drew⟩
  ·
   have hu:=hg;clear hu
   gi_wp2
   refine with_actIn fun a0 ha0=>?_;have hsz0:a0.tmps.size=34:=by rw[ha0]; rfl
   refine wpIn_region_vals (by kernel_rfl) (by kernel_rfl) [(23,.int .i64 1),(24,.pointer (some ⟨w.heap.size,1,none⟩)),(25,.pointer (some ⟨w.heap.size,1+1,none⟩)),(26,.int .u64 3),(27,.int .i64 1),(28,.pointer (some ⟨w.heap.size,1,none⟩)),(29,.pointer (some ⟨w.heap.size,1+1,none⟩)),(30,.int .u64 3),(31,.int .u64 0),(32,.bool false)] rfl (by show([23,24,25,26,27,28,29,30,31,32]:List Nat).Nodup; decide) _ hsz0 (by kernel_rfl) ⟨⟨rfl,rfl,?y4v0⟩,⟨rfl,rfl,?y4v1⟩,⟨rfl,rfl,?y4v2⟩,⟨rfl,rfl,?y4v3⟩,⟨rfl,rfl,?y4v4⟩,⟨rfl,rfl,?y4v5⟩,⟨rfl,rfl,?y4v6⟩,⟨rfl,rfl,?y4v7⟩,⟨rfl,rfl,?y4v8⟩,⟨rfl,rfl,?y4v9⟩,trivial⟩ ?y4done
   case y4v0 =>
    intro a' hA hdep;obtain⟨r4,q4⟩:=dpi hA 4 (.int .i64 1) (by kernel_rfl) (by rw[ha0]; rfl);clear hdep ha0 hA;refine⟨about_plain (fun _ h=>nomatch h),?_⟩;simp[go_sem, *]
   case y4v1 =>
    intro a' hA hdep;obtain⟨r1,q1⟩:=dpi hA 1 (.pointer (some ⟨w.heap.size,0,none⟩)) (by kernel_rfl) (by rw[ha0]; rfl);clear hdep ha0 hA;refine⟨about_plain (fun _ h=>nomatch h),?_⟩;simp[go_sem, *]
   case y4v2 =>
    intro a' hA hdep;obtain⟨r24,q24⟩:=dpv hdep ⟨1,.data⟩ (by simp) rfl rfl;obtain⟨r23,q23⟩:=dpv hdep ⟨0,.data⟩ (by simp) rfl rfl;clear hdep ha0 hA;refine⟨about_plain (fun _ h=>nomatch h),?_⟩;simp[go_sem, *]
   case y4v3 =>
    intro a' hA hdep;obtain⟨r25,q25⟩:=dpv hdep ⟨2,.data⟩ (by simp) rfl rfl;clear hdep ha0 hA;refine⟨about_plain (fun _ h=>nomatch h),?_⟩;simp[go_sem, *]
   case y4v4 =>
    intro a' hA hdep;obtain⟨r3,q3⟩:=dpi hA 3 (.pointer (some ⟨W2.heap.size,0,none⟩)) (by kernel_rfl) (by rw[ha0]; rfl);clear hdep ha0 hA;refine⟨about_plain (fun _ h=>nomatch h),?_⟩;simp[go_sem, *]
   case y4v5 =>
    intro a' hA hdep;obtain⟨r1,q1⟩:=dpi hA 1 (.pointer (some ⟨w.heap.size,0,none⟩)) (by kernel_rfl) (by rw[ha0]; rfl);clear hdep ha0 hA;refine⟨about_plain (fun _ h=>nomatch h),?_⟩;simp[go_sem, *]
   case y4v6 =>
    intro a' hA hdep;obtain⟨r28,q28⟩:=dpv hdep ⟨5,.data⟩ (by simp) rfl rfl;obtain⟨r27,q27⟩:=dpv hdep ⟨4,.data⟩ (by simp) rfl rfl;clear hdep ha0 hA;refine⟨about_plain (fun _ h=>nomatch h),?_⟩;simp[go_sem, *]
   case y4v7 =>
    intro a' hA hdep;obtain⟨r29,q29⟩:=dpv hdep ⟨6,.data⟩ (by simp) rfl rfl;clear hdep ha0 hA;refine⟨about_plain (fun _ h=>nomatch h),?_⟩;simp[go_sem, *]
   case y4v8 =>
    intro a' hA hdep;obtain⟨r26,q26⟩:=dpv hdep ⟨3,.data⟩ (by simp) rfl rfl;obtain⟨r30,q30⟩:=dpv hdep ⟨7,.data⟩ (by simp) rfl rfl;clear hdep ha0 hA;refine⟨about_plain (fun _ h=>nomatch h),?_⟩;simp[go_sem, *]
   case y4v9 =>
    intro a' hA hdep;obtain⟨r31,q31⟩:=dpv hdep ⟨8,.data⟩ (by simp) rfl rfl;clear hdep ha0 hA;refine⟨about_plain (fun _ h=>nomatch h),?_⟩;simp[go_sem, *]
   rw[ha0]; simp only[putL,Act.put,sA_,sZ_,sS_];clear ha0 hsz0
   gi_wp2
   exact⟨(KeepsOthers.drew _).from _,rfl,(Below.refl _ W).drew,BW.drew⟩
 rintro D3 W3 hD3 BW3 hK3;have R3:=(BW3.block _ (blk_lt HR1.out)).trans HR1.out;have B3:Below w.heap.size w W3:=B1.trans (BW3.mono (by omega));have hK2:W3.heap[D]?=some (.deferred (some [])):=((BWW.trans (BW3.mono (by omega))).block _ (blk_lt HK2.out)).trans HK2.out;have r0:=row1_0 R3;have rf:=row_f R3;have hne:D≠D3:=by
  have h1:=blk_lt HK2.out;omega
 have hneD:=HD2.out;have hneE:=HHS.out;have hneF:=HHT.out;have hneG:=HLE.out;clear HX1 HR1 HP1 HK2 HD2 HHS HHT hTc hnc Bc B1c BW3 BWW B1 x0 x1 x2 p0;have HR3:=Lib.hid R3;clear R3
 gi_wp2
 rw[roundsIn_succ]
 gi_wp2
 have hsz3:=block_lt_of_cell r0;dsimp only at hsz3;obtain⟨W4,h4⟩:∃W4,W4=W3.setCell ⟨w.heap.size+1,0,none⟩ (.bool true):=⟨_,rfl⟩
 rw[<-h4];have k3:W4.heap[D3]?=some (.deferred (some [])):=by rw[h4]; exact(heap_setCell_other _ _ _ _ (by show D3≠w.heap.size+1; omega)).trans hK3
 have k2:W4.heap[D]?=some (.deferred (some [])):=by rw[h4]; exact(heap_setCell_other _ _ _ _ (by show D≠w.heap.size+1; omega)).trans hK2
 have B4:Below w.heap.size w W4:=by rw[h4]; exact B3.setCell (p:=⟨w.heap.size+1,0,none⟩) (by show w.heap.size<=w.heap.size+1; omega) _
 have r4:W4.cell? ⟨w.heap.size+1,0,none⟩=some (.bool true):=by rw[h4]; exact World.cell?_setCell_same _ _ _ r0
 clear h4 r0 rf hK2 hK3;obtain⟨W5,h5⟩:∃W5,W5=W4.putObj D3 (.deferred none):=⟨_,rfl⟩
 have k5:W5.heap[D]?=some (.deferred (some [])):=by rw[h5]; exact(World.putObj_heap_other (by omega)).trans k2
 have B5:Below w.heap.size w W5:=by rw[h5]; exact B4.trans (belowK_b (w:=w) (Nat.le_refl _) W4 D3 _ _ (by omega) k3 rfl rfl)
 have r5:W5.cell? ⟨w.heap.size+1,0,none⟩=some (.bool true):=by rw[h5]; exact(World.cell?_of_block (a:=⟨w.heap.size+1,0,none⟩) (World.putObj_heap_other (by show w.heap.size+1≠D3; omega))).trans r4
 refine⟨by simp,.inl ⟨_,_,rfl,run_takeDeferred k3,?_⟩⟩;rw[<-h5];clear h5;obtain⟨W6,h6⟩:∃W6,W6=W5.putObj D (.deferred none):=⟨_,rfl⟩
 have B6:Below w.heap.size w W6:=by rw[h6]; exact B5.trans (belowK_b (w:=w) (Nat.le_refl _) W5 D _ _ (by omega) k5 rfl rfl)
 have r6:W6.cell? ⟨w.heap.size+1,0,none⟩=some (.bool true):=by rw[h6]; exact(World.cell?_of_block (a:=⟨w.heap.size+1,0,none⟩) (World.putObj_heap_other (by show w.heap.size+1≠D; omega))).trans r5
 refine⟨by simp,.inl ⟨_,_,rfl,run_takeDeferred k5,?_⟩⟩;rw[<-h6];clear h6;exact⟨.bool true,by simp[results,Tryz.results40,go_sem,r6],rfl,B6⟩
end Go.Proofs.YtaffkceklkdokaaGreatDoor
