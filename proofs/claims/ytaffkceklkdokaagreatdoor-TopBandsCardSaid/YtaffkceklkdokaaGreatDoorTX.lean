/- The bands of a space in which no three points stand below one another: plain. -/
import Derived.Test.YtaffkceklkdokaaGreatDoorTS
import Derived.Test.YtaffkceklkdokaaGreatDoorTU
import Derived.Deep.AppendLies
set_option maxRecDepth 100000
namespace Go.Proofs.YtaffkceklkdokaaGreatDoor
/-- the pairs of points one of which is below the other -/
def esC (c:Nat->Nat) (n:Nat):List (Nat × Nat):=(List.range n).flatMap fun i=>((List.range i).filter (hasb (c i))).map fun j=>(j,i)
theorem esC_congr {c c':Nat->Nat} {n:Nat} (h:∀i,i < n->c i=c' i):esC c n=esC c' n:=by
 unfold esC;refine congrArg List.flatten (List.map_congr_left fun i hi=>?_);rw[h i (List.mem_range.1 hi)]
def sumG (g:Nat->Int) (l:List Nat):Int:=l.foldl (fun m q=>m-g q) 1
/-- how many more odd chains than even ones end at a point -/
def gB (c:Nat->Nat) (q:Nat):Int:=1-((ptsN (clear2 (c q) (2 ^ q))).length:Nat)
def totG (g:Nat->Int) (l:List Nat):Int:=l.foldl (fun m q=>m+g q) 0
def ndB:List (Nat × Nat)->Bool
 | []=>true
 | p :: l=>(l.all fun q=>p.1 != q.1 || p.2 != q.2) && ndB l
theorem ndB_nodup:∀{l:List (Nat × Nat)},ndB l=true->l.Nodup
 | [],_=>List.nodup_nil
 | p :: l,h=>by
  unfold ndB at h;rw[Bool.and_eq_true]at h;refine List.nodup_cons.2 ⟨fun hm=>?_,ndB_nodup h.2⟩;have h2:=List.all_eq_true.1 h.1 p hm;simp at h2
/-- the greatest value and how many sides have it -/
def bstA (n:Nat) (es:List (Nat × Nat)):List Nat->Nat->Nat->Nat × Nat
 | [],m,c=>(m,c)
 | s :: l,m,c=>if c=0 then bstA n es l (valN n s es) 1 else if m < valN n s es then bstA n es l (valN n s es) 1 else if valN n s es=m then bstA n es l m (c+1) else bstA n es l m c
theorem bstA_eq (n:Nat) (es:List (Nat × Nat)):∀(pre:List (Fin 64)) (b:Nat × Nat × Nat),(pre.foldl (bstep n es) b).2=bstA n es (pre.map (·.val)) b.2.1 b.2.2
 | [],_=>rfl
 | x :: pre,b=>by
  rw[List.foldl_cons,bstA_eq n es pre,List.map_cons];simp only[bstA,bstep]
  split
  · rfl
  ·
   split
   · rfl
   ·
    split
    · rfl
    · rfl
theorem fin_range (k:Nat) (hk:k<=64):((List.finRange 64).take k).map (·.val)=List.range k:=by
 apply List.ext_getElem
 · simp; omega
 · intro i h1 h2;simp
def chkS (n:Nat) (c:Nat->Nat):Bool:=(List.range n).all fun p=>decide (c p < 2 ^ n) && hasb (c p) p && (ptsN (c p)).all fun q=>decide (q < n) && clear2 (c q) (c p) == 0
def chkP (n:Nat) (c:Nat->Nat):Bool:=(List.range n).all fun p=>(List.range p).all fun j=>c j != c p
def chkG (n:Nat) (c:Nat->Nat):Bool:=(List.range n).all fun p=>decide (gB c p=sumG (gB c) (ptsN (clear2 (c p) (2 ^ p)))) && (ptsN (clear2 (c p) (2 ^ p))).all fun q=>decide (q < p)
def chkE (n:Nat) (es:List (Nat × Nat)):Bool:=decide (es.length<=15) && es.all (fun p=>decide (p.1 < p.2) && decide (p.2 < n)) && ndB es
def chkB (es:List (Nat × Nat)) (r:Option Nat) (b:Nat × Nat):Bool:=match r with
 | none=>false
 | some m=>decide (1<=m) && decide (m<=6) && b.1 == es.length && b.2 == 2 ^ (m-1)
def chk (n:Nat) (c:Nat->Nat) (es:List (Nat × Nat)):Bool :=
 chkS n c && chkP n c && chkG n c && chkE n es && decide (totG (gB c) (List.range n)=(n:Int)-es.length) && ((List.range (2 ^ (n-1))).any fun s=>cutAll n s es) &&
  chkB es (pcN (2 ^ n-1) c (turnF n c) 6 (2 ^ n-1)) (bstA n es (List.range (2 ^ (n-1))) 0 0)
def chkL (l:List Nat):Bool:=chk l.length (cof l) (esC (cof l) l.length)
/-- what the walk asks of the cells -/
structure Bands (n:Nat) (c:Nat->Nat) (es:List (Nat × Nat)):Prop where
 lt:∀p,p < n->c p < 2 ^ n
 sp:IsSp n c
 plain:∀p,p < n->∀j,j < p->c j≠c p
 g:∀p,p < n->gB c p=sumG (gB c) (ptsN (clear2 (c p) (2 ^ p)))/\∀q∈ptsN (clear2 (c p) (2 ^ p)),q < p
 len:es.length<=15
 ed:∀p∈es,p.1 < p.2/\p.2 < n
 nd:es.Nodup
 tot:totG (gB c) (List.range n)=(n:Int)-es.length
 ex:∃s,s < 2 ^ (n-1)/\cutAll n s es=true
 best:∃m,pcN (2 ^ n-1) c (turnF n c) 6 (2 ^ n-1)=some m/\1<=m/\m<=6/\(bstN n es ((List.finRange 64).take (2 ^ (n-1)))).2=(es.length,2 ^ (m-1))
theorem bands_of {n:Nat} {c:Nat->Nat} {es:List (Nat × Nat)} (hn:1<=n/\n<=6) (h:chk n c es=true):Bands n c es:=by
 have h64:2 ^ n<=64:=Nat.le_trans (Nat.pow_le_pow_right (by decide) hn.2) (by decide);have hP:2 ^ (n-1)<=64:=Nat.le_trans (Nat.pow_le_pow_right (by decide) (show n-1<=6 by omega)) (by decide);unfold chk at h;simp only[Bool.and_eq_true]at h;obtain⟨⟨⟨⟨⟨⟨hS,hPl⟩,hG⟩,hE⟩,hT⟩,hX⟩,hB⟩:=h;have hS':∀p,p < n->c p < 2 ^ n/\hasb (c p) p=true/\∀q∈ptsN (c p),q < n/\clear2 (c q) (c p)=0:=by
  intro p hp;have h1:=List.all_eq_true.1 hS p (List.mem_range.2 hp);simp only[Bool.and_eq_true,decide_eq_true_eq,List.all_eq_true,beq_iff_eq]at h1;exact⟨h1.1.1,h1.1.2,h1.2⟩
 refine⟨fun p hp=>(hS' p hp).1,fun p hp=>?_,fun p hp j hj=>?_,fun p hp=>?_,?_,?_,?_,of_decide_eq_true hT,?_,?_⟩
 · obtain⟨h1,h2,h3⟩:=hS' p hp;refine⟨by omega,h2,fun q hq=>⟨(h3 q hq).1,?_⟩⟩;rw[not64 (by have:=(hS' q (h3 q hq).1).1; omega) (by omega),(h3 q hq).2];rfl
 ·
  have h1:=List.all_eq_true.1 (List.all_eq_true.1 hPl p (List.mem_range.2 hp)) j (List.mem_range.2 hj)
  simpa using h1
 · have h1:=List.all_eq_true.1 hG p (List.mem_range.2 hp);simp only[Bool.and_eq_true,decide_eq_true_eq,List.all_eq_true]at h1;exact h1
 · unfold chkE at hE;simp only[Bool.and_eq_true,decide_eq_true_eq,List.all_eq_true]at hE;exact hE.1.1
 · unfold chkE at hE;simp only[Bool.and_eq_true,decide_eq_true_eq,List.all_eq_true]at hE;exact hE.1.2
 · unfold chkE at hE;simp only[Bool.and_eq_true]at hE;exact ndB_nodup hE.2
 · obtain⟨s,hs,hc⟩:=List.any_eq_true.1 hX;exact⟨s,List.mem_range.1 hs,hc⟩
 ·
  unfold chkB at hB
  split at hB
  · cases hB
  · rename_i m hm;simp only[Bool.and_eq_true,decide_eq_true_eq,beq_iff_eq]at hB;refine⟨m,hm,hB.1.1.1,hB.1.1.2,?_⟩;rw[bstN,bstA_eq,fin_range _ hP];exact Prod.ext hB.1.2 hB.2
theorem chk6:((List.range 8).all fun x=>(List.range 8).all fun y=>(List.range 8).all fun z=>chkL [1,2,4,8+x,16+y,32+z])=true:=by kernel_rfl
theorem chk5:((List.range 4).all fun x=>(List.range 4).all fun y=>(List.range 4).all fun z=>chkL [1,2,4+x,8+y,16+z])=true:=by kernel_rfl
theorem chk4:((List.range 4).all fun x=>(List.range 4).all fun y=>chkL [1,2,4+x,8+y])=true:=by kernel_rfl
theorem chk3:((List.range 2).all fun x=>(List.range 2).all fun y=>chkL [1,2+x,4+y])=true:=by kernel_rfl
theorem chk2:((List.range 2).all fun x=>chkL [1,2+x])=true:=by kernel_rfl
theorem chk1:chkL [1]=true:=by kernel_rfl
theorem all_lt {p:Nat->Bool} {n:Nat} (h:(List.range n).all p=true) {x:Nat} (hx:x < n):p x=true:=List.all_eq_true.1 h x (List.mem_range.2 hx)
/-- the cells of a space of two bands -/
def cellsN (d:Nat->Nat) (n:Nat):List Nat:=(List.range n).map fun i=>2 ^ i+d i
theorem cellsN_chk (d:Nat->Nat) (n:Nat) (hn:1<=n/\n<=6) (hd:∀i,d i < 2 ^ (n / 2)) (h0:∀i,i < n / 2->d i=0):chkL (cellsN d n)=true:=by
 rcases (by omega:n=1∨n=2∨n=3∨n=4∨n=5∨n=6) with rfl | rfl | rfl | rfl | rfl | rfl
 ·
  have e:cellsN d 1 = [1]:=by
   have:=hd 0;simp[cellsN,List.range_succ]at this ⊢;omega
  rw[e]; exact chk1
 ·
  have e:cellsN d 2 = [1,2+d 1]:=by simp[cellsN,List.range_succ,h0 0 (by decide)]
  rw[e]; exact all_lt chk2 (hd 1)
 ·
  have e:cellsN d 3 = [1,2+d 1,4+d 2]:=by simp[cellsN,List.range_succ,h0 0 (by decide)]
  rw[e]; exact all_lt (all_lt chk3 (hd 1)) (hd 2)
 ·
  have e:cellsN d 4 = [1,2,4+d 2,8+d 3]:=by simp[cellsN,List.range_succ,h0 0 (by decide),h0 1 (by decide)]
  rw[e]; exact all_lt (all_lt chk4 (hd 2)) (hd 3)
 ·
  have e:cellsN d 5 = [1,2,4+d 2,8+d 3,16+d 4]:=by simp[cellsN,List.range_succ,h0 0 (by decide),h0 1 (by decide)]
  rw[e]; exact all_lt (all_lt (all_lt chk5 (hd 2)) (hd 3)) (hd 4)
 ·
  have e:cellsN d 6 = [1,2,4,8+d 3,16+d 4,32+d 5]:=by simp[cellsN,List.range_succ,h0 0 (by decide),h0 1 (by decide),h0 2 (by decide)]
  rw[e]; exact all_lt (all_lt (all_lt chk6 (hd 3)) (hd 4)) (hd 5)
theorem cellsN_len (d:Nat->Nat) (n:Nat):(cellsN d n).length=n:=by simp[cellsN]
theorem cellsN_cof (d:Nat->Nat) (n:Nat) {i:Nat} (hi:i < n):cof (cellsN d n) i=2 ^ i+d i:=by simp[cof,cellsN,hi]
theorem cellsN_bands (d:Nat->Nat) (n:Nat) (hn:1<=n/\n<=6) (hd:∀i,d i < 2 ^ (n / 2)) (h0:∀i,i < n / 2->d i=0):Bands n (cof (cellsN d n)) (esC (fun i=>2 ^ i+d i) n):=by
 have h:=cellsN_chk d n hn hd h0;unfold chkL at h;rw[cellsN_len,esC_congr (fun i hi=>cellsN_cof d n hi)]at h;exact bands_of hn h
open Go.RowKit
def eV (es:List (Nat × Nat)):List Value:=es.flatMap fun p=>[.int .i64 (p.1:Nat),.int .i64 (p.2:Nat),.int .i64 1]
def nV (l:List Nat):List Value:=l.map fun k=>.int .i64 (k:Nat)
theorem eV_snoc (es:List (Nat × Nat)) (p:Nat × Nat):eV (es ++ [p])=eV es ++ [.int .i64 (p.1:Nat),.int .i64 (p.2:Nat),.int .i64 1]:=by simp[eV]
theorem nV_snoc (l:List Nat) (k:Nat):nV (l ++ [k])=nV l ++ [.int .i64 (k:Nat)]:=by simp[nV]
theorem eV_at:∀(es:List (Nat × Nat)) (k:Nat) (p:Nat × Nat),es[k]?=some p->(eV es)[k * 3]?=some (.int .i64 (p.1:Nat))/\(eV es)[k * 3+1]?=some (.int .i64 (p.2:Nat))/\(eV es)[k * 3+2]?=some (.int .i64 1)
 | [],k,p,h=>by simp at h
 | q :: es,0,p,h=>by
  simp at h;subst h;exact⟨rfl,rfl,rfl⟩
 | q :: es,k+1,p,h=>by
  have e:∀j,(eV (q :: es))[j+3]?=(eV es)[j]?:=fun j=>rfl;have h2:=eV_at es k p (by simpa using h);have e1:(k+1) * 3=k * 3+3:=by omega
  rw[e1];refine⟨(e _).trans h2.1,?_,?_⟩
  · rw[show k * 3+3+1=k * 3+1+3 by omega]; exact(e _).trans h2.2.1
  · rw[show k * 3+3+2=k * 3+2+3 by omega]; exact(e _).trans h2.2.2
theorem add0 (g j:Nat):(⟨g,0,none⟩:Addr).add j=⟨g,j,none⟩:=by unfold Addr.add; split <;> simp_all
theorem infoEdge:(Tryz.prog.info? 26).map (fun i=>(i.zero,i.size,i.bytes))=some (some (.agg #[.int .i64 0,.int .i64 0,.int .i64 0]),3,24):=by kernel_rfl
theorem edge_cells (w:World) (x y z:Int) (t:TypeId):∀j u,[Value.int .i64 x,.int .i64 y,.int .i64 z][j]?=some u->(w.alloc (.cells #[.int .i64 x,.int .i64 y,.int .i64 z] t)).cell? ((⟨w.heap.size,0,none⟩:Addr).add j)=some u:=by
 intro j u hu;rw[add0];exact(cell_of_row _ w.heap.size j _ _ _ (blk_new _ _)).trans (by simpa using hu)
theorem edge_one (x y z:Int):∀u∈[Value.int .i64 x,.int .i64 y,.int .i64 z],u.oneCell'=true:=by
 intro u hu;simp at hu;rcases hu with rfl | rfl | rfl <;> rfl
/-- cells and edges lie there, apart -/
structure Two (B:Nat) (W:World) (cv ev:Value) (l:List Nat) (es:List (Nat × Nat)):Prop where
 c:W.ownsRow B 3 1 cv l.length (nV l)
 e:W.ownsRow B 26 3 ev es.length (eV es)
 ap:∀q,cv.ownBlock=some q->ev.ownBlock=some q->False
theorem own_belT {w w':World} {B e size n:Nat} {v:Value} {xs:List Value} (h:w.ownsRow B e size v n xs) (hb:Below w.heap.size w w'):w'.ownsRow B e size v n xs:=own_below h hb
theorem Two.below {B:Nat} {W W':World} {cv ev:Value} {l:List Nat} {es:List (Nat × Nat)} (h:Two B W cv ev l es) (hb:Below W.heap.size W W'):Two B W' cv ev l es :=
 ⟨own_belT h.c hb,own_belT h.e hb,h.ap⟩
theorem Two.alloc {B:Nat} {W:World} {cv ev:Value} {l:List Nat} {es:List (Nat × Nat)} (h:Two B W cv ev l es) (o:Obj):Two B (W.alloc o) cv ev l es:=⟨h.c.alloc o,h.e.alloc o,h.ap⟩
theorem Two.pushE {B g cap:Nat} {W W':World} {cv ev:Value} {l:List Nat} {es:List (Nat × Nat)} {p:Nat × Nat} (h:Two B W cv ev l es)
  (ho:W'.ownsRow B 26 3 (.slice (some ⟨g,0,none⟩) (es.length+1) cap) (es.length+1) (eV es ++ [.int .i64 (p.1:Nat),.int .i64 (p.2:Nat),.int .i64 1])) (hg:W.grownBy W' ev.ownBlock) (hl:ev.ownBlock=some g∨g=W.heap.size) :
  Two B W' cv (.slice (some ⟨g,0,none⟩) (es.length+1) cap) l (es ++ [p]):=by
 refine⟨h.c.kept hg ?_,?_,fun q hq hq2=>?_⟩
 ·
  cases hc:cv.ownBlock with
  | none=>exact .inl rfl
  | some q=>exact .inr fun e=>h.ap q hc e.symm
 · rw[eV_snoc,List.length_append];exact ho
 ·
  have hq3:g=q:=Option.some.inj hq2;subst hq3;rcases hl with hl | hl
  · exact h.ap _ hq hl
  · have:=(h.c.lt _ hq).2;omega
theorem Two.pushC {B g cap k:Nat} {W W':World} {cv ev:Value} {l:List Nat} {es:List (Nat × Nat)} (h:Two B W cv ev l es)
  (ho:W'.ownsRow B 3 1 (.slice (some ⟨g,0,none⟩) (l.length+1) cap) (l.length+1) (nV l ++ [.int .i64 (k:Nat)])) (hg:W.grownBy W' cv.ownBlock) (hl:cv.ownBlock=some g∨g=W.heap.size) :
  Two B W' (.slice (some ⟨g,0,none⟩) (l.length+1) cap) ev (l ++ [k]) es:=by
 refine⟨?_,h.e.kept hg ?_,fun q hq2 hq=>?_⟩
 · rw[nV_snoc,List.length_append];exact ho
 ·
  cases hc:ev.ownBlock with
  | none=>exact .inl rfl
  | some q=>exact .inr fun e=>h.ap q e.symm hc
 ·
  have hq3:g=q:=Option.some.inj hq2;subst hq3;rcases hl with hl | hl
  · exact h.ap _ hl hq
  · have:=(h.e.lt _ hq).2;omega
theorem Two.ints {B:Nat} {W:World} {cv ev:Value} {l:List Nat} {es:List (Nat × Nat)} (h:Two B W cv ev l es):IntsAt W cv l:=by
 have hc:=h.c;rcases hc.2 with ⟨rfl,h0⟩ | ⟨g,cap,cur,rfl,-⟩
 · exact⟨none,0,by rw[h0],.inl (List.eq_nil_of_length_eq_zero h0)⟩
 · refine⟨_,cap,rfl,.inr ⟨g,rfl,fun k p hk=>?_⟩⟩;have hh:=hc.cells rfl k (.int .i64 (p:Nat)) (by simp[nV,hk]);rw[add0]at hh;exact hh
theorem Two.edges {B:Nat} {W:World} {cv ev:Value} {l:List Nat} {es:List (Nat × Nat)} (h:Two B W cv ev l es):EdgesAt W ev es:=by
 have hc:=h.e;rcases hc.2 with ⟨rfl,h0⟩ | ⟨g,cap,cur,rfl,-⟩
 · exact⟨none,0,by rw[h0],.inl (List.eq_nil_of_length_eq_zero h0)⟩
 · refine⟨_,cap,rfl,.inr ⟨g,rfl,fun k p hk=>?_⟩⟩;obtain⟨h1,h2,h3⟩:=eV_at es k p hk;have g1:=hc.cells rfl _ _ h1;have g2:=hc.cells rfl _ _ h2;have g3:=hc.cells rfl _ _ h3;rw[add0]at g1 g2 g3;exact⟨g1,g2,g3⟩
/-- the edges of a point, of those to the first j points -/
def eRow (c:Nat->Nat) (i j:Nat):List (Nat × Nat):=((List.range j).filter (hasb (c i))).map fun j=>(j,i)
theorem eRow_yes {c:Nat->Nat} {i j:Nat} (h:hasb (c i) j=true):eRow c i (j+1)=eRow c i j ++ [(j,i)]:=by simp[eRow,List.range_succ,h]
theorem eRow_no {c:Nat->Nat} {i j:Nat} (h:hasb (c i) j=false):eRow c i (j+1)=eRow c i j:=by simp[eRow,List.range_succ,h]
theorem eRow_zero (c:Nat->Nat) (i:Nat):eRow c i 0 = []:=rfl
theorem eRow_len (c:Nat->Nat) (i j:Nat):(eRow c i j).length<=j:=by
 unfold eRow;rw[List.length_map];exact Nat.le_trans (List.length_filter_le _ _) (by rw[List.length_range]; exact Nat.le_refl _)
theorem esC_succ (c:Nat->Nat) (i:Nat):esC c (i+1)=esC c i ++ eRow c i i:=by simp[esC,eRow,List.range_succ]
theorem esC_len (c:Nat->Nat):∀i,i<=6->(esC c i).length<=6 * i
 | 0,_=>by simp[esC]
 | i+1,h=>by
  rw[esC_succ,List.length_append];have:=esC_len c i (by omega);have:=eRow_len c i i;omega
/-- the cells' lower parts, out of the argument -/
def topZ2 (x n:Int):Int:=(x % 18446744073709551616) % n
theorem topZ2_bd (x n:Int) (h:0 < n):0<=topZ2 x n/\topZ2 x n < n:=⟨Int.emod_nonneg _ (by omega),Int.emod_lt_of_pos _ h⟩
def dB (xs:List Int) (low i:Nat):Nat:=if low<=i/\i < xs.length/\0 < low then (topZ2 (xs.getD i 0) ((2 ^ low:Nat):Int)).toNat else 0
theorem dB_lt (xs:List Int) (low i:Nat):dB xs low i < 2 ^ low:=by
 have hp:0 < 2 ^ low:=Nat.pow_pos (by decide);unfold dB
 split
 · have:=topZ2_bd (xs.getD i 0) ((2 ^ low:Nat):Int) (by omega);omega
 · exact hp
theorem dB_zero (xs:List Int) {low i:Nat} (h:i < low):dB xs low i=0:=by
 unfold dB;rw[if_neg (by omega)]
theorem dB_yes {xs:List Int} {low i:Nat} {x:Int} (h1:low<=i) (h2:xs[i]?=some x) (h3:0 < low):((dB xs low i:Nat):Int)=topZ2 x ((2 ^ low:Nat):Int):=by
 have hp:0 < 2 ^ low:=Nat.pow_pos (by decide);have hl:=(List.getElem?_eq_some_iff.1 h2).1;have hb:=topZ2_bd x ((2 ^ low:Nat):Int) (by omega);unfold dB;rw[if_pos ⟨h1,hl,h3⟩,List.getD,h2];simp only[Option.getD_some];omega
theorem dB_no {xs:List Int} {low i:Nat} (h:¬(low<=i/\i < xs.length/\0 < low)):dB xs low i=0:=by
 unfold dB;rw[if_neg h]
theorem cellsN_succ (d:Nat->Nat) (i:Nat):cellsN d (i+1)=cellsN d i ++ [2 ^ i+d i]:=by simp[cellsN,List.range_succ]
theorem cell_bit (x j:Nat):(((x:Int) / 2 ^ j).tmod 2 == 1)=hasb x j:=by
 have e1:((x:Int) / 2 ^ j)=((x / 2 ^ j:Nat):Int):=by rw[Int.natCast_ediv,Int.natCast_pow]; rfl
 rw[e1,Int.tmod_eq_emod_of_nonneg (Int.natCast_nonneg _)];unfold hasb;rcases Nat.mod_two_eq_zero_or_one (x / 2 ^ j) with h | h
 ·
  have e:(((x / 2 ^ j:Nat):Int) % 2)=0:=by omega
  rw[e,h]; rfl
 ·
  have e:(((x / 2 ^ j:Nat):Int) % 2)=1:=by omega
  rw[e,h]; rfl
end Go.Proofs.YtaffkceklkdokaaGreatDoor
