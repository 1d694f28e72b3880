/- The powers of w that the program lays down are the powers of w. -/
import Derived.Test.YtaffkceklkdokaaGreatDoorYA
import Derived.Test.YtaffkceklkdokaaGreatDoorYB
import Derived.Test.YtaffkceklkdokaaGreatDoorZ1
import Derived.WalkSpells
import Derived.Laws.OwnMore
import Derived.Deep.LoopGhost
import Derived.Deep.AppendLies
import Derived.Laws.CopyOwn
set_option maxRecDepth 100000
set_option maxHeartbeats 1000000
namespace Go.Proofs.YtaffkceklkdokaaGreatDoor.GG
open Go.RowKit
attribute [local go_sem ↓] Go.wp_at_zero Go.wp_at_succ
/-- the cells of a row of numbers -/
def fl (l:List (Int × Int)):List Value:=l.flatMap fun p=>[.int .i64 p.1,.int .i64 p.2]
theorem fl_length (l:List (Int × Int)):(fl l).length=l.length * 2:=by
 induction l with
 | nil=>rfl
 | cons p l ih=>simp[fl]at ih ⊢; omega
theorem fl_append (l:List (Int × Int)) (p:Int × Int):fl (l ++ [p])=fl l ++ [.int .i64 p.1,.int .i64 p.2]:=by simp[fl]
theorem fl_get0 (l:List (Int × Int)):∀(k:Nat) (p:Int × Int),l[k]?=some p->(fl l)[k * 2]?=some (.int .i64 p.1):=by
 induction l with
 | nil=>intro k p h; simp at h
 | cons q l ih =>
  intro k p h;cases k with
  | zero=>simp at h; subst h; simp[fl]
  | succ k =>
   have:=ih k p (by simpa using h);rw[show(k+1) * 2=k * 2+2 by omega]
   simpa[fl]using this
theorem fl_get1 (l:List (Int × Int)):∀(k:Nat) (p:Int × Int),l[k]?=some p->(fl l)[k * 2+1]?=some (.int .i64 p.2):=by
 induction l with
 | nil=>intro k p h; simp at h
 | cons q l ih =>
  intro k p h;cases k with
  | zero=>simp at h; subst h; simp[fl]
  | succ k =>
   have:=ih k p (by simpa using h);rw[show(k+1) * 2+1=(k * 2+1)+2 by omega]
   simpa[fl]using this
def ups (k:Nat):List (Int × Int):=(List.range (k+1)).map GM.pu
def dns (k:Nat):List (Int × Int):=(List.range (k+1)).map GM.pd
theorem ups_succ (k:Nat):ups (k+1)=ups k ++ [GM.pu (k+1)]:=by unfold ups; rw[List.range_succ (n:=k+1)]; simp
theorem dns_succ (k:Nat):dns (k+1)=dns k ++ [GM.pd (k+1)]:=by unfold dns; rw[List.range_succ (n:=k+1)]; simp
theorem ups_last (k:Nat):(ups k)[k]?=some (GM.pu k):=by unfold ups; simp
theorem dns_last (k:Nat):(dns k)[k]?=some (GM.pd k):=by unfold dns; simp
theorem cell_two_new (w:World) (a b:Value) (t:TypeId):∀j u,[a,b][j]?=some u->(w.alloc (.cells #[a,b] t)).cell? ((⟨w.heap.size,0,none⟩:Addr).add j)=some u:=by
 intro j u hj
 match j,hj with
 | 0,hj=>simp at hj; subst hj; simp[Addr.add]
 | 1,hj=>simp at hj; subst hj; simp[Addr.add]
 | j+2,hj=>simp at hj
theorem own_below {w w':World} {B e size n:Nat} {v:Value} {xs:List Value} (h:w.ownsRow B e size v n xs) (hb:Below w.heap.size w w'):w'.ownsRow B e size v n xs:=by
 obtain⟨h1,h2⟩:=h;refine⟨h1,?_⟩;rcases h2 with h2 | ⟨g,cap,cur,a,b,c,d⟩
 · exact .inl h2
 · exact .inr ⟨g,cap,cur,a,b,blk_call hb c,d⟩
theorem info23:(Tryz.prog.info? 43).map (fun i=>(i.zero,i.size,i.bytes))=some (some (.agg #[.int .i64 0,.int .i64 0]),2,16):=by kernel_rfl
theorem pu_bd' (k:Nat) (h:k<=42) : -1000000000<=(GM.pu k).1/\(GM.pu k).1<=1000000000/\-1000000000<=(GM.pu k).2/\(GM.pu k).2<=1000000000:=by
 have h1:∀n:Fin 43,-1000000000<=(GM.pu n).1/\(GM.pu n).1<=1000000000/\-1000000000<=(GM.pu n).2/\(GM.pu n).2<=1000000000:=by decide +kernel
 exact h1 ⟨k,by omega⟩
theorem pd_bd' (k:Nat) (h:k<=42) : -1000000000<=(GM.pd k).1/\(GM.pd k).1<=1000000000/\-1000000000<=(GM.pd k).2/\(GM.pd k).2<=1000000000:=by
 have h1:∀n:Fin 43,-1000000000<=(GM.pd n).1/\(GM.pd n).1<=1000000000/\-1000000000<=(GM.pd n).2/\(GM.pd n).2<=1000000000:=by decide +kernel
 exact h1 ⟨k,by omega⟩
theorem ups_len (k:Nat):(ups k).length=k+1:=by simp[ups]
/-- two rows of the call's own, apart from each other -/
structure Two (B:Nat) (w:World) (v1 v2:Value) (n:Nat) (xs ys:List Value):Prop where
 one:w.ownsRow B 43 2 v1 n xs
 two:w.ownsRow B 43 2 v2 n ys
 apart:v1.ownBlock≠v2.ownBlock
theorem new_ne {B e size n g1 g H:Nat} {w:World} {v2:Value} {ys:List Value} (hw:w.ownsRow B e size v2 n ys) (hne:some g1≠v2.ownBlock) (h:(some g1:Option Nat)=some g∨g=H) (hH:w.heap.size<=H):some g≠v2.ownBlock:=by
 rcases h with h | h
 · rw[<-h]; exact hne
 · intro h2;have:=(hw.lt g h2.symm).2;omega
theorem prod_w (a b:Int) (w:World) (a1 : -1000000000<=a) (a2:a<=1000000000) (b1 : -1000000000<=b) (b2:b<=1000000000) :
  Calls Tryz.prog 58 #[.agg #[.int .i64 a,.int .i64 b],.agg #[.int .i64 0,.int .i64 1]] w fun e w'=>e=.returned (.agg #[.int .i64 b,.int .i64 (a+b)])/\Below w.heap.size w w':=by
 refine(product_any a b 0 1 w a1 a2 b1 b2 (by omega) (by omega) (by omega) (by omega)).mono ?_;rintro e w' ⟨rfl,hb⟩;exact⟨by rw[show a * 0+b * 1=b by omega,show a * 1+b * 0+b * 1=a+b by omega],hb⟩
theorem prod_v (a b:Int) (w:World) (a1 : -1000000000<=a) (a2:a<=1000000000) (b1 : -1000000000<=b) (b2:b<=1000000000) :
  Calls Tryz.prog 58 #[.agg #[.int .i64 a,.int .i64 b],.agg #[.int .i64 (-1),.int .i64 1]] w fun e w'=>e=.returned (.agg #[.int .i64 (b-a),.int .i64 a])/\Below w.heap.size w w':=by
 refine(product_any a b (-1) 1 w a1 a2 b1 b2 (by omega) (by omega) (by omega) (by omega)).mono ?_;rintro e w' ⟨rfl,hb⟩;exact⟨by rw[show a * -1+b * 1=b-a by omega,show a * 1+b * -1+b * 1=a by omega],hb⟩
theorem two_cells (x y:Int):∀u∈[Value.int .i64 x,Value.int .i64 y],u.oneCell'=true:=by
 intro u hu; simp at hu; rcases hu with rfl | rfl <;> rfl
theorem run_copy_wide {P:Program} (w:World) (dT sT ty elem:TypeId) (g o dLen dCap:Nat) (a:Addr) (sLen sCap size:Nat) (cur:Array Value) (t:TypeId) (cs:List Value)
  (hu:P.underlying dT=some (.slice elem)) (hs:(P.info? elem).map (·.size)=some size)
  (hg:w.heap[g]?=some (.cells cur t (0,0))) (hn:cs.length=Nat.min sLen dLen * size)
  (hsrc:∀j v,cs[j]?=some v->w.cell? (a.add j)=some v) (hfit:o+cs.length<=cur.size) (h1:∀v∈cs,v.oneCell'=true) :
  (Builtin.copy_ #[dT,sT] ty #[.slice (some ⟨g,o,none⟩) dLen dCap,.slice (some a) sLen sCap]).run P w =
   .ok (goInt (Nat.min sLen dLen)) (w.setRow g (cur.toList.take o ++ cs ++ cur.toList.drop (o+cs.length)).toArray):=by
 have hl:=run_loadCells_list (P:=P) w a cs hsrc;have hst:=run_storeCells_at P g o t cs 0 cur w hg (by simpa using hfit) h1;cases hq:P.info? elem with
 | none=>simp[hq]at hs
 | some i =>
  have hi:i.size=size:=by simpa[hq]using hs
  simp[Builtin.copy_,run_underlying hu,Builtin.lenOf,Builtin.firstCells,sizeOf,typeInfo,hq,hi,<-hn,hl,hst]
theorem wpList_copy_wide {P:Program} {w:World} {ops:Array Oper} {rest:List Oper} {o:Oper} {a:Act} {Q:Exit->Act->World->Prop} (hgd:o.guard=none) (d s:Operand) (dT sT:TypeId)
  (ho:o.op=.call { callee:=.builtin .copy,args:=#[d,s],argTypes:=#[dT,sT] }) (elem:TypeId) (size:Nat) (hu:P.underlying dT=some (.slice elem)) (hsz:(P.info? elem).map (·.size)=some size)
  (g off dLen dCap:Nat) (ad:Addr) (sLen sCap:Nat) (hd:a.eval d=.slice (some ⟨g,off,none⟩) dLen dCap) (hs:a.eval s=.slice (some ad) sLen sCap)
  (cur:Array Value) (t:TypeId) (hg:w.heap[g]?=some (.cells cur t (0,0))) (cs:List Value) (hn:cs.length=Nat.min sLen dLen * size)
  (hsrc:∀j v,cs[j]?=some v->w.cell? (ad.add j)=some v) (hfit:off+cs.length<=cur.size) (h1:∀v∈cs,v.oneCell'=true)
  (h:∀w2,Hid (w2=w.setRow g (cur.toList.take off ++ cs ++ cur.toList.drop (off+cs.length)).toArray)->wpList P ops Q rest (a.put o.dst (goInt (Nat.min sLen dLen))) w2):wpList P ops Q (o :: rest) a w:=by
 refine wpList_plain hgd fun K hK=>?_;have hrun:=run_copy_wide (P:=P) w dT sT o.type elem g off dLen dCap ad sLen sCap size cur t cs hu hsz hg hn hsrc hfit h1;unfold Oper.wp;simp only[execOp,ho,resolve,invoke,builtin,Sem.run_bind,Sem.run_pure,Result.andThen_ok,List.map_toArray,List.map_cons,List.map_nil,hd,hs,hrun];exact hK _ _ (h _ (Lib.hid rfl))
theorem fl_one (l:List (Int × Int)):∀u∈fl l,u.oneCell'=true:=by
 intro u hu;simp only[fl,List.mem_flatMap]at hu;obtain⟨p,-,hp⟩:=hu;simp at hp;rcases hp with rfl | rfl <;> rfl
theorem own_cells {w:World} {B g e n cap:Nat} {xs:List Value} {size:Nat} (h:w.ownsRow B e size (.slice (some ⟨g,0,none⟩) n cap) n xs):∀j v,xs[j]?=some v->w.cell? ((⟨g,0,none⟩:Addr).add j)=some v:=by
 intro j v hv;have hadd:(⟨g,0,none⟩:Addr).add j=⟨g,j,none⟩:=by unfold Addr.add; split <;> simp_all
 have hj:j < n * size:=by
  rcases Nat.lt_or_ge j xs.length with h1 | h1
  · rw[h.1]at h1; exact h1
  · rw[List.getElem?_eq_none h1]at hv; cases hv
 rw[hadd,h.cellAt j hj,hv]
/-- the powers as the loop has laid them so far -/
def gk (k i:Nat):Int × Int:=if 41<=i+max k 1 then GM.pt i else (0,0)
def lk (k:Nat):List (Int × Int):=(List.range 81).map (gk k)
theorem zero75:Tryz.zeroCells84=(fl (List.replicate 81 (0,0))).toArray:=by kernel_rfl
theorem row_start:(fl (List.replicate 81 (0,0))).take 80 ++ fl (ups 40) ++ (fl (List.replicate 81 (0,0))).drop (80+(fl (ups 40)).length)=fl (lk 0):=by kernel_rfl
theorem fl_set (l:List (Int × Int)):∀(i:Nat) (p:Int × Int),fl (l.set i p)=((fl l).set (i * 2) (.int .i64 p.1)).set (i * 2+1) (.int .i64 p.2):=by
 induction l with
 | nil=>intro i p; simp[fl]
 | cons q l ih =>
  intro i p;cases i with
  | zero=>simp[fl]
  | succ i =>
   have:=ih i p;rw[show(i+1) * 2=i * 2+2 by omega];simp[fl]at this ⊢;exact this
theorem lk_set (k:Nat) (hk:k<=40):(lk k).set (40-k) (GM.pd k)=lk (k+1):=by
 apply List.ext_getElem
 · simp[lk]
 ·
  intro i h1 h2;simp only[lk,List.getElem_set,List.getElem_map,List.getElem_range];simp[lk]at h1 h2;unfold gk
  by_cases e:40-k=i
  ·
   rw[if_pos e,if_pos (by omega)];subst e;unfold GM.pt
   by_cases h:40-k < 40
   · rw[if_pos h,show 40-(40-k)=k by omega]
   ·
    obtain rfl:k=0:=by omega
    rfl
  ·
   rw[if_neg e]
   by_cases h:41<=i+max k 1
   · rw[if_pos h,if_pos (by omega)]
   · rw[if_neg h,if_neg (by omega)]
theorem lk_end:lk 41=(List.range 81).map GM.pt:=by
 unfold lk;apply List.map_congr_left;intro i hi;unfold gk;rw[if_pos (by omega)]
theorem blk_setn {w:World} {g t j:Nat} {cs:List Value} {u:Value} (h:w.heap[g]?=some (.cells cs.toArray t (0,0))) :
  (w.setCell ⟨g,j,none⟩ u).heap[g]?=some (.cells (cs.set j u).toArray t (0,0)):=by
 simp[World.setCell,Array.getElem?_modify,h]
theorem row_n {w:World} {g t j:Nat} {cs:List Value} (h:w.heap[g]?=some (.cells cs.toArray t (0,0))):w.cell? ⟨g,j,none⟩=cs[j]?:=by
 rw[cell_of_row w g j _ _ _ h]; simp
theorem blk_farn {w:World} {g k j:Nat} {o:Obj} {u:Value} (hne:k≠g) (h:w.heap[k]?=some o):(w.setCell ⟨g,j,none⟩ u).heap[k]?=some o :=
 (heap_setCell_other _ ⟨g,j,none⟩ k u hne).trans h
theorem cur_cell {w:World} {g t:Nat} {cur:Array Value} (Y:w.heap[g]?=some (.cells cur t (0,0))) (hd:cur.toList.take 82=fl (dns 40)) (k:Nat) (hk:k < 41) :
  w.cell? ⟨g,k * 2,none⟩=some (.int .i64 (GM.pd k).1)/\w.cell? ⟨g,k * 2+1,none⟩=some (.int .i64 (GM.pd k).2):=by
 have hl:(dns 40)[k]?=some (GM.pd k):=by unfold dns; simp[hk]
 have h:∀j,j < 82->cur[j]?=(fl (dns 40))[j]?:=by
  intro j hj;rw[<-hd,List.getElem?_take,if_pos hj]; simp
 rw[cell_of_row w g _ _ _ _ Y,cell_of_row w g _ _ _ _ Y,h _ (by omega),h _ (by omega)];exact⟨fl_get0 _ k _ hl,fl_get1 _ k _ hl⟩
theorem size75:(Tryz.prog.info? 84).map (·.size)=some 162:=by kernel_rfl
theorem lk_put (k m:Nat) (h:m+k=40):((fl (lk k)).set (m * 2) (.int .i64 (GM.pd k).1)).set (m * 2+1) (.int .i64 (GM.pd k).2)=fl (lk (k+1)):=by
 rw[<-fl_set,<-lk_set k (by omega),show 40-k=m by omega]
theorem lk_cell {w:World} {g t k m:Nat} (X:w.heap[g]?=some (.cells (fl (lk k)).toArray t (0,0))) (hm:m < 81) :
  w.cell? ⟨g,m * 2,none⟩=some (.int .i64 (gk k m).1)/\w.cell? ⟨g,m * 2+1,none⟩=some (.int .i64 (gk k m).2):=by
 have hl:(lk k)[m]?=some (gk k m):=by unfold lk; simp[hm]
 rw[row_n X,row_n X];exact⟨fl_get0 _ m _ hl,fl_get1 _ m _ hl⟩
theorem newPowers_any (w:World) :
  Calls Tryz.prog 34 #[] w fun e w'=>e=.returned (.agg (fl ((List.range 81).map GM.pt)).toArray)/\Below w.heap.size w w':=by
 obtain⟨i0,hi,hz0,hz1,hz2⟩:=info_parts info23;go_enter Tryz.func34,Tryz.ntmps34;go_upto_region 1 with fail;generalize hZ:Tryz.zeroCells84=Z;have HZ:=Lib.hid hZ;clear hZ;go_wp2_with fail;go_loopw [11,1,2] (fun x v1 v2 wr=>∃k:Nat,x=.int .i64 k/\k<=40/\Two (w.heap.size+1) wr v1 v2 (k+1) (fl (ups k)) (fl (dns k))/\wr.heap[w.heap.size]?=some (.cells Z 84 (0,0))/\Below w.heap.size w wr) (fun x _ _ _=>40-(intOf x).toNat)
 case atStart =>
  refine⟨0,rfl,by omega,⟨?_,?_,by simp[Value.ownBlock]⟩,(by repeat (first | assumption | (with_reducible apply blk_set2) | (with_reducible apply blk_set1) | (with_reducible refine blk_far2 ?_ ?_; (first | omega | (simp; done) | (simp; omega))) | (with_reducible refine blk_far1 ?_ ?_; (first | omega | (simp; done) | (simp; omega))) | (with_reducible refine blk_new' _ _ ?_; (first | omega | (simp; done) | (simp; omega))) | (with_reducible refine blk_old ?_) | (with_reducible refine blk_drew ?_))),(by repeat (first | exact Below.refl _ _ | exact Nat.le_refl _ | refine Below.alloc ?_ ?_ _ | refine Below.setCell ?_ ?_ _ | refine Below.drew ?_ | refine bl_drewN ?_ _ | (assumption) | refine bl_call ?_ (by assumption) ?_ | omega | (simp <;> omega)))⟩
  · refine World.ownsRow.alloc ?_ _;have h:=World.ownsRow_lit (base:=w.heap.size+1) (e:=43) (size:=2) (w.alloc (.cells Z 84)) #[.int .i64 1,.int .i64 0] 1 (by simp) (by decide) rfl;rw[show(w.alloc (.cells Z 84)).heap.size=w.heap.size+1 by simp]at h;exact h
  · have h:=World.ownsRow_lit (base:=w.heap.size+1) (e:=43) (size:=2) ((w.alloc (.cells Z 84)).alloc (.cells #[.int .i64 1,.int .i64 0] 43)) #[.int .i64 1,.int .i64 0] 1 (by simp) (by decide) rfl;rw[show((w.alloc (.cells Z 84)).alloc (.cells #[.int .i64 1,.int .i64 0] 43)).heap.size=w.heap.size+1+1 by simp]at h;exact h
 case round =>
  obtain⟨k,rfl,l1,H2,H0,HB⟩:=hrel
  by_cases hk:k < 40
  ·
   obtain⟨hw1,hw2,hne⟩:=H2;obtain⟨g1,p1,rfl,hg1,hg1'⟩:=World.ownsRow.form hw1 (by omega);have c0:=(hw1.cellAt (k * 2) (by omega)).trans (fl_get0 _ k _ (ups_last k));have c1:=(hw1.cellAt (k * 2+1) (by omega)).trans (fl_get1 _ k _ (ups_last k));have hp:GM.pu (k+1)=((GM.pu k).2,(GM.pu k).1+(GM.pu k).2):=rfl;have hd:GM.pd (k+1)=((GM.pd k).2-(GM.pd k).1,(GM.pd k).1):=rfl;have eu:=ups_succ k;have ed:=dns_succ k;rw[hp]at eu;rw[hd]at ed;obtain⟨b1,b2,b3,b4⟩:=pu_bd' k (by omega);obtain⟨d1,d2,d3,d4⟩:=pd_bd' k (by omega);have hdl:=dns_last k;generalize GM.pu k=p at *;generalize GM.pd k=q at *;obtain⟨x,y⟩:=p;obtain⟨s,t⟩:=q;dsimp only at *;have eu2:fl (ups (k+1))=fl (ups k) ++ [.int .i64 y,.int .i64 (x+y)]:=by rw[eu,fl_append]
   have ed2:fl (dns (k+1))=fl (dns k) ++ [.int .i64 (t-s),.int .i64 s]:=by rw[ed,fl_append]
   have EU:=Lib.hid eu2;have ED:=Lib.hid ed2;have HDL:=Lib.hid hdl;clear hp hd eu ed eu2 ed2 hdl;go_wp2_with fail;refine(prod_w x y _ b1 b2 b3 b4).mono ?_;rintro e w1 ⟨rfl,hb1⟩;have k1:=own_below hw1 hb1;have k2:=own_below hw2 hb1;have k0:=blk_call hb1 H0;have kB:=bl_call HB hb1 (by have:=blk_lt H0; omega);have kz:=blk_lt k0;clear hw1 hw2 H0 HB hb1 c0 c1 hg1';go_wp2_with (first | (at_builtin; refine wpList_append_lies _ rfl _ _ 111 rfl (w.heap.size+1) 43 i0 (.agg #[.int .i64 0,.int .i64 0]) 2 16 Tryz.underlying111 hi hz0 hz1 hz2 rfl (by decide) _ _ _ rfl (k1.alloc _) ⟨w1.heap.size,0,none⟩ 1 1 [.int .i64 (y),.int .i64 (x+y)] rfl rfl (cell_two_new _ _ _ _) (two_cells _ _) (by decide) (by unfold maxLen; omega) (by omega) (by simp; omega) (w1.heap.size+1) (by simp) ?_) | fail)
   intro g3 p3 w3 m1 hgr hg hlt;rw[<-EU.out]at m1;have m2:=(k2.alloc (.cells #[.int .i64 y,.int .i64 (x+y)] 43)).kept hgr (.inr (fun h=>hne h.symm));have m0:w3.heap[w.heap.size]?=some (.cells Z 84 (0,0)):=(hgr.block _ (by simp; omega) (fun h=>by simp[Value.ownBlock]at h; omega)).trans (blk_old k0);have mB:Below w.heap.size w w3:=Below.grown (kB.alloc (by omega) _) hgr (by simp; omega) (fun j hj=>by simp[Value.ownBlock]at hj; omega);have ne3:=new_ne (k2.alloc (.cells #[.int .i64 y,.int .i64 (x+y)] 43)) hne hg (by simp);clear k1 k2 k0 kB kz hgr hg hlt hne hg1;obtain⟨g2,p2,rfl,hg2,hg2'⟩:=World.ownsRow.form m2 (by omega);have c0:=(m2.cellAt (k * 2) (by omega)).trans (fl_get0 _ k _ HDL.out);have c1:=(m2.cellAt (k * 2+1) (by omega)).trans (fl_get1 _ k _ HDL.out);clear HDL;go_wp2_with fail;refine(prod_v s t _ d1 d2 d3 d4).mono ?_;rintro e w4 ⟨rfl,hb4⟩;have k1:=own_below m1 hb4;have k2:=own_below m2 hb4;have k0:=blk_call hb4 m0;have kB:=bl_call mB hb4 (by have:=blk_lt m0; omega);have kz:=blk_lt k0;clear m1 m2 m0 mB hb4 c0 c1 hg2';go_wp2_with (first | (at_builtin; refine wpList_append_lies _ rfl _ _ 111 rfl (w.heap.size+1) 43 i0 (.agg #[.int .i64 0,.int .i64 0]) 2 16 Tryz.underlying111 hi hz0 hz1 hz2 rfl (by decide) _ _ _ rfl (k2.alloc _) ⟨w4.heap.size,0,none⟩ 1 1 [.int .i64 (t-s),.int .i64 (s)] rfl rfl (cell_two_new _ _ _ _) (two_cells _ _) (by decide) (by unfold maxLen; omega) (by omega) (by simp; omega) (w4.heap.size+1) (by simp) ?_) | fail)
   intro g5 p5 w5 m2 hgr hg hlt;rw[<-ED.out]at m2;have m1:=(k1.alloc (.cells #[.int .i64 (t-s),.int .i64 s] 43)).kept hgr (.inr (fun h=>ne3 h));have m0:w5.heap[w.heap.size]?=some (.cells Z 84 (0,0)):=(hgr.block _ (by simp; omega) (fun h=>by simp[Value.ownBlock]at h; omega)).trans (blk_old k0);have mB:Below w.heap.size w w5:=Below.grown (kB.alloc (by omega) _) hgr (by simp; omega) (fun j hj=>by simp[Value.ownBlock]at hj; omega);have ne5:=new_ne (k1.alloc (.cells #[.int .i64 (t-s),.int .i64 s] 43)) (Ne.symm ne3) hg (by simp);clear k1 k2 k0 kB kz hgr hg hlt ne3 hg2;go_wp2_with fail
   go_roundw
   case rel=>exact⟨k+1,by simp,by omega,⟨m1,m2,Ne.symm ne5⟩,m0,mB⟩
   case measure=>simp[intOf]; omega
  ·
   obtain rfl:k=40:=by omega
   obtain⟨hw1,hw2,hne⟩:=H2;obtain⟨g1,p1,rfl,hg1,hg1'⟩:=World.ownsRow.form hw1 (by omega);obtain⟨g2,p2,rfl,hg2,hg2'⟩:=World.ownsRow.form hw2 (by omega);go_wp2_with (refine wpList_copy_wide rfl (.tmp 33) (.tmp 34) 111 111 rfl 43 2 Tryz.underlying111 (by rw[hi]; simp[hz1]) wr.heap.size 80 41 41 ⟨g1,0,none⟩ 41 p1 rfl rfl Tryz.zeroCells84 84 (blk_new _ _) (fl (ups 40)) ?_ ?_ ?_ ?_ ?_)
   · rw[fl_length,ups_len]; rfl
   · exact own_cells (hw1.alloc _)
   · rw[zero75,fl_length,ups_len]; simp[fl_length]
   · exact fl_one _
   intro w2 hw2h;have hw2e:=hw2h.out;clear hw2h;obtain⟨P,hP⟩:∃P,P=wr.heap.size:=⟨_,rfl⟩
   obtain⟨cur,hcur,hdn⟩:∃cur:Array Value,wr.heap[g2]?=some (.cells cur 43 (0,0))/\cur.toList.take 82=fl (dns 40):=by
    rcases hw2.2 with ⟨h,_⟩ | ⟨g',cap',cur,h',_,hg,_,_,_,htake⟩
    · simp at h
    · simp only[Value.slice.injEq,Option.some.injEq,Addr.mk.injEq,and_true,true_and]at h';obtain⟨rfl,rfl⟩:=h';exact⟨cur,hg,htake⟩
   have q0:w2.heap[w.heap.size]?=some (.cells Z 84 (0,0)):=by rw[hw2e]; exact(setRow_other _ _ _ _ (by have:=blk_lt H0; omega)).trans (blk_old H0)
   have q2:w2.heap[g2]?=some (.cells cur 43 (0,0)):=by rw[hw2e]; exact(setRow_other _ _ _ _ (by omega)).trans (blk_old hcur)
   have qP:w2.heap[P]?=some (.cells (fl (lk 0)).toArray 84 (0,0)):=by
    rw[hw2e,hP,setRow_heap _ _ _ _ _ _ (blk_new _ _),zero75,<-row_start,List.append_assoc]
   have qB:Below w.heap.size w w2:=by rw[hw2e]; exact below_setRow (HB.alloc (by have:=blk_lt H0; omega) _) (by have:=blk_lt H0; omega) _
   have hP0:w.heap.size≠P:=by have:=blk_lt H0; omega
   have hP2:g2≠P:=by omega
   have hPB:w.heap.size<=P:=by omega
   rw[<-hP];clear hw2e hP HB H0 hcur hw1 hw2 hne hg1 hg1' hg2' l1 hk;have HDN:=Lib.hid hdn;clear hdn;go_wp2_with fail;go_loopw [38] (fun x wr=>∃k:Nat,x=.int .i64 k/\k<=41/\wr.heap[P]?=some (.cells (fl (lk k)).toArray 84 (0,0))/\wr.heap[g2]?=some (.cells cur 43 (0,0))/\wr.heap[w.heap.size]?=some (.cells Z 84 (0,0))/\Below w.heap.size w wr) (fun x _=>41-(intOf x).toNat)
   case atStart=>exact⟨0,rfl,by omega,qP,q2,q0,qB⟩
   case round =>
    obtain⟨k,rfl,l1,X,Y,H0,HB⟩:=hrel
    by_cases hk:k < 41
    ·
     obtain⟨m,hm⟩:∃m:Nat,40-(k:Int)=m:=⟨40-k,by omega⟩
     obtain⟨c0,c1⟩:=cur_cell Y HDN.out k hk;obtain⟨e0,e1⟩:=lk_cell X (m:=m) (by omega);have hf:=row_f X;have hP2':=Ne.symm hP2;have hPs:=blk_lt X;have hm1:m < 81:=by omega
     have HX:=Lib.hid X;have HY:=Lib.hid Y;have HH:=Lib.hid H0;have HL:=Lib.hid (lk_put k m (by omega));clear X Y H0;go_wp2_with fail
     go_roundw
     case rel =>
      refine⟨k+1,by simp,by omega,?_,blk_old (blk_farn hP2 (blk_farn hP2 HY.out)),blk_old (blk_farn hP0 (blk_farn hP0 HH.out)),(by repeat (first | exact Below.refl _ _ | exact Nat.le_refl _ | refine Below.alloc ?_ ?_ _ | refine Below.setCell ?_ ?_ _ | refine Below.drew ?_ | refine bl_drewN ?_ _ | (assumption) | refine bl_call ?_ (by assumption) ?_ | omega | (simp <;> omega)))⟩;rw[<-HL.out];exact blk_old (blk_setn (blk_setn HX.out))
     case measure=>simp[intOf]; omega
    ·
     obtain rfl:k=41:=by omega
     rw[lk_end]at X;have hRs:(fl ((List.range 81).map GM.pt)).toArray.size=162:=by simp[fl_length]
     have hR1:(fl ((List.range 81).map GM.pt)).toArray.all (·.oneCell')=true:=by
      rw[Array.all_eq_true_iff_forall_mem];intro u hu;exact fl_one _ u (by simpa using hu)
     have hZs:Z.size=162:=by rw[<-HZ.out,zero75]; simp[fl_length]
     obtain⟨R,hR⟩:∃R,(fl ((List.range 81).map GM.pt)).toArray=R:=⟨_,rfl⟩
     rw[hR]at X hRs hR1;have HRE:=Lib.hid hR;clear hR;have HX:=Lib.hid X;have HH:=Lib.hid H0;have HR1:=Lib.hid hR1;clear X H0 hR1;go_wp2_with (first
      | (refine wpList_load_row rfl 84 (.tmp 4) rfl P rfl 84 R (0,0) (.array 81 43) HX.out Tryz.underlying84 rfl (by rw[hRs]; exact size75) ?_)
      | (refine wpList_store_row rfl 84 (.tmp 0) (.tmp 48) rfl w.heap.size R rfl rfl 84 Z HH.out (by rw[hRs]; exact size75) (by rw[hRs,hZs]) HR1.out ?_))
     exact bodyPost_ret (v:=.agg R) (results_cell_row (p:=0) (ty:=84) (by kernel_rfl) _ _ w.heap.size 84 R (0,0) (.array 81 43) rfl (setRow_heap _ _ _ _ _ _ HH.out) Tryz.underlying84 rfl (by rw[hRs]; exact size75)) rfl ⟨by rw[HRE.out],below_setRow HB (Nat.le_refl _) _⟩
end Go.Proofs.YtaffkceklkdokaaGreatDoor.GG
