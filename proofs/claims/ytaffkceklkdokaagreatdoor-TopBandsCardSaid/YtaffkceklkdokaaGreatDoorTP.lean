/- Edges of a graph; pairs as keys of a map. -/
import Derived.Test.YtaffkceklkdokaaGreatDoorT36
import Derived.WideKeyRuns
import Derived.Laws.StructEq
import Derived.Carry
set_option maxRecDepth 100000
set_option maxHeartbeats 4000000
namespace Go.Proofs.YtaffkceklkdokaaGreatDoor
open Go.RowKit Go.ChangeMaps
abbrev PV (a b:Nat):Value:=.agg #[.int .i64 (a:Nat),.int .i64 (b:Nat)]
theorem pairFields:∃f1 f2:Field,(Tryz.prog.fieldsOf 95).toList = [f1,f2]/\f1.name≠ "_"/\f2.name≠ "_"/\f1.type=3/\f2.type=3/\f1.offset=0/\f2.offset=1 :=
 ⟨(Tryz.prog.fieldsOf 95)[0]!,(Tryz.prog.fieldsOf 95)[1]!,by kernel_rfl,by decide +kernel,by decide +kernel,by kernel_rfl,by kernel_rfl,by kernel_rfl,by kernel_rfl⟩
theorem pair_eq (a b c d:Nat) (w:World):(Op.equal 95 (PV a b) (PV c d)).run Tryz.prog w=.ok (decide (a=c/\b=d)) w:=by
 obtain⟨f1,f2,hf,n1,n2,t1,t2,o1,o2⟩:=pairFields;have h:=run_equalIn_struct (P:=Tryz.prog) w 9999 95 #[.int .i64 (a:Nat),.int .i64 (b:Nat)] #[.int .i64 (c:Nat),.int .i64 (d:Nat)] (by kernel_rfl) (by kernel_rfl);unfold Op.equal;refine(show _=_ from h).trans ?_;rw[hf];have p:∀(x y:Int) (o:Nat) (v:Value),#[Value.int .i64 x,Value.int .i64 y][o]?=some v->(part 3 #[.int .i64 x,.int .i64 y] o).run Tryz.prog w=.ok v w:=fun x y o v hv=>run_part_plain w (by kernel_rfl) hv;have q:=fun(x y:Int)=>run_equalIn_int (P:=Tryz.prog) w 9998 3 .i64 .i64 x y Tryz.underlying3;have p0:∀x y:Int,(part 3 #[.int .i64 x,.int .i64 y] 0).run Tryz.prog w=.ok (.int .i64 x) w:=fun x y=>p x y 0 _ rfl;have p1:∀x y:Int,(part 3 #[.int .i64 x,.int .i64 y] 1).run Tryz.prog w=.ok (.int .i64 y) w:=fun x y=>p x y 1 _ rfl;have q':∀x y:Int,(Op.equalIn 9999 3 (.int .i64 x) (.int .i64 y)).run Tryz.prog w=.ok (x == y) w:=q;clear h p q
 by_cases h1:a=c
 ·
  by_cases h2:b=d
  · simp[Op.eqFields,n1,n2,t1,t2,o1,o2,Sem.run_bind,Result.andThen,p0,p1,q',h1,h2]
  ·
   have h2':¬((b:Int)=d):=by omega
   simp[Op.eqFields,n1,n2,t1,t2,o1,o2,Sem.run_bind,Result.andThen,p0,p1,q',h1,h2,h2']
 ·
  have h1':¬((a:Int)=c):=by omega
  simp[Op.eqFields,n1,t1,o1,Sem.run_bind,Result.andThen,p0,q',h1,h1']
/-- the entries of a graph's map -/
def PE (es:List (Nat × Nat)):List MapEntry:=es.zipIdx.map fun x=>⟨PV x.1.1 x.1.2,.int .i64 1,x.2⟩
theorem pair_ask (p:Nat × Nat) (w:World):∀(l:List MapEntry) (i:Nat),(∀e∈l,∃q:Nat × Nat,e.key=PV q.1 q.2/\q≠p)->(Instr.findAsking 95 (PV p.1 p.2) l i).run Tryz.prog w=.ok none w
 | [],_,_=>rfl
 | e :: l,i,h=>by
  obtain⟨q,hk,hne⟩:=h e (.head _);have hf:decide (p.1=q.1/\p.2=q.2)=false:=decide_eq_false fun⟨h1,h2⟩=>hne (Prod.ext h1.symm h2.symm);unfold Instr.findAsking;simp only[Sem.run_bind,hk,pair_eq,hf,Result.andThen,Bool.false_eq_true,if_false];exact pair_ask p w l (i+1) fun e' he=>h e' (.tail _ he)
theorem pair_find (p:Nat × Nat) (es:List (Nat × Nat)) (hn:p ∉ es) (w:World):(Instr.findKey 95 (PV p.1 p.2) (PE es).toArray.toList).run Tryz.prog w=.ok none w:=by
 rw[run_findKey_eq w (by kernel_rfl)];refine pair_ask p w _ 0 fun e he=>?_;simp only[PE,List.mem_map]at he;obtain⟨x,hx,rfl⟩:=he;exact⟨x.1,rfl,fun e=>hn (by rw[<-e]; exact List.fst_mem_of_mem_zipIdx hx)⟩
theorem pair_check (b:Bool) (p q:Nat) (w:World):(Instr.checkKey b 10000 95 (PV p q)).run Tryz.prog w=.ok () w:=by
 cases b <;> kernel_rfl
theorem PE_push (es:List (Nat × Nat)) (p:Nat × Nat):(PE es).toArray.push ⟨PV p.1 p.2,.int .i64 1,es.length⟩=(PE (es ++ [p])).toArray:=by
 simp[PE,List.zipIdx_append]
open Go.RowKit Go.ChangeMaps
attribute [local go_sem ↓] Go.wp_at_zero Go.wp_at_succ
theorem belt_withinT (n lo hi:Int) (h:lo<=n/\n<=hi) (w:World) :
  Calls Tryz.prog 46 #[.int .i64 n,.int .i64 lo,.int .i64 hi] w fun e w'=>e=.returned (.bool true)/\w=w':=by
 refine(belt_within n lo hi w).mono ?_;rintro e w' ⟨rfl,rfl⟩;exact⟨by simp[h.1,h.2],rfl⟩
/-- the edges lie there -/
def EdgesAt (W:World) (ev:Value) (es:List (Nat × Nat)):Prop :=
 ∃a cap,ev=.slice a es.length cap/\(es = []∨∃eb,a=some ⟨eb,0,none⟩/\∀(k:Nat) (p:Nat × Nat),es[k]?=some p->W.cell? ⟨eb,k * 3,none⟩=some (.int .i64 (p.1:Nat))/\W.cell? ⟨eb,k * 3+1,none⟩=some (.int .i64 (p.2:Nat))/\W.cell? ⟨eb,k * 3+2,none⟩=some (.int .i64 1))
theorem EdgesAt.below {W W':World} {ev:Value} {es:List (Nat × Nat)} (h:EdgesAt W ev es) (hb:Below W.heap.size W W'):EdgesAt W' ev es:=by
 obtain⟨a,cap,h1,h2⟩:=h;refine⟨a,cap,h1,h2.imp id fun⟨eb,h3,h4⟩=>⟨eb,h3,fun k p hk=>?_⟩⟩;obtain⟨e1,e2,e3⟩:=h4 k p hk;exact⟨keepc hb e1,keepc hb e2,keepc hb e3⟩
abbrev GrN (n:Nat) (ev mv:Value):Value:=.agg #[.int .i64 (n:Nat),ev,mv]
theorem newGraph_gen (n:Nat) (hn:1<=n/\n<=6) (es:List (Nat × Nat)) (hm:es.length<=15) (hes:∀p∈es,p.1 < p.2/\p.2 < n) (hnd:es.Nodup) (ev:Value) (w:World) (hE:EdgesAt w ev es) :
  Calls Tryz.prog 22 #[.int .i64 (n:Nat),ev] w fun e w'=>e=.returned (.tuple #[GrN n ev (.map (some (w.heap.size+1))),.bool true])/\Below w.heap.size w w':=by
 have hmm:=@run_makeMap Tryz.prog;obtain⟨ad,cap,rfl,hE⟩:=hE;obtain⟨m,hml⟩:∃m,es.length=m:=⟨_,rfl⟩
 rw[hml]at hm ⊢;have h40:¬(40:Int) < (m:Int):=by omega
 have HML:=Lib.hid hml;have HE:=Lib.hid hE;have HES:=Lib.hid hes;have HND:=Lib.hid hnd;clear hE hes hnd hml;go_enter Tryz.func22,Tryz.ntmps22;go_wp2_with (first
  | (go_at_call 46; refine(belt_withinT _ _ _ (by omega) _).mono ?_; rintro e w' ⟨rfl,rfl⟩)
  | fail)
 go_loopw [26] (fun x wr=>∃k:Nat,x=.int .i64 k/\k<=m/\wr.heap[w.heap.size]?=some (.cells #[.int .i64 0,.slice none 0 0,.map none] 66 (0,0))/\wr.heap[w.heap.size+1+1]?=some (.cells #[.int .i64 (n:Nat),.slice ad m cap,.map (some (w.heap.size+1))] 66 (0,0))/\wr.heap[w.heap.size+1]?=some (.map (PE (es.take k)).toArray k)/\Below w.heap.size w wr) (fun x _=>m-(intOf x).toNat)
 case atStart =>
  have hpe0:(PE (es.take 0)).toArray=#[]:=by simp[PE]
  exact⟨0,rfl,Nat.zero_le _,(by repeat (first | assumption | (with_reducible apply blk_set2) | (with_reducible apply blk_set1) | (with_reducible refine blk_far2 ?_ ?_; (first | omega | (simp; done) | (simp; omega))) | (with_reducible refine blk_far1 ?_ ?_; (first | omega | (simp; done) | (simp; omega))) | (with_reducible refine blk_new' _ _ ?_; (first | omega | (simp; done) | (simp; omega))) | (with_reducible refine blk_old ?_) | (with_reducible refine blk_drew ?_))),(by repeat (first | assumption | (with_reducible apply blk_set2) | (with_reducible apply blk_set1) | (with_reducible refine blk_far2 ?_ ?_; (first | omega | (simp; done) | (simp; omega))) | (with_reducible refine blk_far1 ?_ ?_; (first | omega | (simp; done) | (simp; omega))) | (with_reducible refine blk_new' _ _ ?_; (first | omega | (simp; done) | (simp; omega))) | (with_reducible refine blk_old ?_) | (with_reducible refine blk_drew ?_))),by rw[hpe0]; exact(by repeat (first | assumption | (with_reducible apply blk_set2) | (with_reducible apply blk_set1) | (with_reducible refine blk_far2 ?_ ?_; (first | omega | (simp; done) | (simp; omega))) | (with_reducible refine blk_far1 ?_ ?_; (first | omega | (simp; done) | (simp; omega))) | (with_reducible refine blk_new' _ _ ?_; (first | omega | (simp; done) | (simp; omega))) | (with_reducible refine blk_old ?_) | (with_reducible refine blk_drew ?_))),(by repeat (first | exact Below.refl _ _ | exact Nat.le_refl _ | refine Below.alloc ?_ ?_ _ | refine Below.setCell ?_ ?_ _ | refine Below.drew ?_ | refine bl_drewN ?_ _ | (assumption) | refine bl_call ?_ (by assumption) ?_ | omega | (simp <;> omega)))⟩
 case round =>
  obtain⟨k,rfl,hk,hO,hR,hM,B⟩:=hrel
  by_cases hkm:k < m
  ·
   obtain⟨p,hp⟩:∃p,es[k]?=some p:=⟨es[k]'(by rw[HML.out]; exact hkm),by simp[HML.out,hkm]⟩
   have hpe:=HES.out p (List.mem_of_getElem? hp);obtain⟨eb,rfl,hcell⟩:∃eb,ad=some ⟨eb,0,none⟩/\∀(k:Nat) (p:Nat × Nat),es[k]?=some p->w.cell? ⟨eb,k * 3,none⟩=some (.int .i64 (p.1:Nat))/\w.cell? ⟨eb,k * 3+1,none⟩=some (.int .i64 (p.2:Nat))/\w.cell? ⟨eb,k * 3+2,none⟩=some (.int .i64 1):=by
    rcases HE.out with h | h
    · rw[h]at hp; simp at hp
    · exact h
   obtain⟨c0,c1,c2⟩:=hcell k p hp;obtain⟨pa,pb⟩:=p;dsimp only at c0 c1 c2 hpe;have f0:=keepc B c0;have f1:=keepc B c1;have f2:=keepc B c2;have hsz:=blk_lt hR;have HO:=Lib.hid hO;have HR:=Lib.hid hR;have HM:=Lib.hid hM;have HP:=Lib.hid hp;clear hO hR hM hcell c0 c1 c2 hp;go_upto_region 9 with (first
    | (go_at_call 46; refine(belt_withinT _ _ _ (by omega) _).mono ?_; rintro e w' ⟨rfl,rfl⟩)
    | fail)
   obtain⟨W0,h0⟩:∃W0,W0=wr.alloc (.cells #[.int .i64 (pa:Nat),.int .i64 (pb:Nat),.int .i64 1] 26):=⟨_,rfl⟩
   rw[<-h0];have B0:Below w.heap.size w W0:=by rw[h0]; exact B.alloc B.size _
   have M0:W0.heap[w.heap.size+1]?=some (.map (PE (es.take k)).toArray k):=by rw[h0]; exact blk_old HM.out
   have R0:W0.heap[w.heap.size+1+1]?=some (.cells #[.int .i64 (n:Nat),.slice (some ⟨eb,0,none⟩) m cap,.map (some (w.heap.size+1))] 66 (0,0)):=by rw[h0]; exact blk_old HR.out
   have O0:W0.heap[w.heap.size]?=some (.cells #[.int .i64 0,.slice none 0 0,.map none] 66 (0,0)):=by rw[h0]; exact blk_old HO.out
   have E0:W0.heap[wr.heap.size]?=some (.cells #[.int .i64 (pa:Nat),.int .i64 (pb:Nat),.int .i64 1] 26 (0,0)):=by rw[h0]; exact blk_new _ _
   clear h0;have g2:W0.cell? ⟨w.heap.size+1+1,2,none⟩=some (.map (some (w.heap.size+1))):=cell_of_row W0 _ 2 _ _ _ R0;have d0:W0.cell? ⟨wr.heap.size,0,none⟩=some (.int .i64 (pa:Nat)):=cell_of_row W0 _ 0 _ _ _ E0;have d1:W0.cell? ⟨wr.heap.size,1,none⟩=some (.int .i64 (pb:Nat)):=cell_of_row W0 _ 1 _ _ _ E0;have d2:W0.cell? ⟨wr.heap.size,2,none⟩=some (.int .i64 1):=cell_of_row W0 _ 2 _ _ _ E0;have hni:(pa,pb) ∉ es.take k:=fun hmem=>by
    obtain⟨j,hj⟩:=List.mem_iff_getElem?.1 hmem;rw[List.getElem?_take]at hj
    split at hj
    · rename_i hjk;have:=(List.getElem?_inj (by have:=(List.getElem?_eq_some_iff.1 hj).1; exact this) HND.out).1 (hj.trans HP.out.symm);omega
    · cases hj
   have hfind:=pair_find (pa,pb) (es.take k) hni W0;have hlen:(es.take k).length=k:=by rw[List.length_take]; have:=HML.out; omega
   have hlk:(Instr.lookup 64 (.map (some (w.heap.size+1))) (PV pa pb) true).run Tryz.prog W0=.ok (.tuple #[.int .i64 0,.bool false]) W0:=look_none M0 Tryz.underlying64 (pair_check _ _ _ W0) hfind (pk_z W0) true;have hpush:(PE (es.take k)).toArray.push ⟨PV pa pb,.int .i64 1,k⟩=(PE (es.take (k+1))).toArray:=by
    have h:=PE_push (es.take k) (pa,pb);rw[hlen]at h;rw[h,List.take_add_one,HP.out];rfl
   have hpt:(Instr.mapUpdate 64 (.map (some (w.heap.size+1))) (PV pa pb) (.int .i64 1)).run Tryz.prog W0=.ok () (setBlock W0 (w.heap.size+1) (.map (PE (es.take (k+1))).toArray (k+1))):=by
    rw[<-hpush];exact put_new M0 Tryz.underlying64 (pair_check _ _ _ W0) hfind
   have HM0:=Lib.hid M0;have HR0:=Lib.hid R0;have HO0:=Lib.hid O0;clear M0 R0 O0 E0 HM HR HO f0 f1 f2 hfind hpush hni hlen;go_wp2;exact⟨⟨k+1,by simp,by omega,(sb_other (by omega)).trans HO0.out,(sb_other (by omega)).trans HR0.out,sb_new HM0.out,sb_below _ B0 (by omega)⟩,by simp[intOf]; omega⟩
  ·
   have hke:k=m:=by omega
   have g0:wr.cell? ⟨w.heap.size+1+1,0,none⟩=some (.int .i64 (n:Nat)):=cell_of_row wr _ 0 _ _ _ hR;have g1:wr.cell? ⟨w.heap.size+1+1,1,none⟩=some (.slice ad m cap):=cell_of_row wr _ 1 _ _ _ hR;have g2:wr.cell? ⟨w.heap.size+1+1,2,none⟩=some (.map (some (w.heap.size+1))):=cell_of_row wr _ 2 _ _ _ hR;have o0:wr.cell? ⟨w.heap.size,0,none⟩=some (.int .i64 0):=cell_of_row wr _ 0 _ _ _ hO;have o1:wr.cell? ⟨w.heap.size,1,none⟩=some (.slice none 0 0):=cell_of_row wr _ 1 _ _ _ hO;have o2:wr.cell? ⟨w.heap.size,2,none⟩=some (.map none):=cell_of_row wr _ 2 _ _ _ hO;have fo:=row_f hO;have zo:=blk_lt hO;clear hR hO hM;go_wp2;exact bodyPost_ret (v:=.tuple #[GrN n (.slice ad m cap) (.map (some (w.heap.size+1))),.bool true]) (by simp[results,Tryz.results22,go_sem, *]) rfl ⟨rfl,(by repeat (first | exact Below.refl _ _ | exact Nat.le_refl _ | refine Below.alloc ?_ ?_ _ | refine Below.setCell ?_ ?_ _ | refine Below.drew ?_ | refine bl_drewN ?_ _ | (assumption) | refine bl_call ?_ (by assumption) ?_ | omega | (simp <;> omega)))⟩
open Go.RowKit
attribute [local go_sem ↓] Go.wp_at_zero Go.wp_at_succ
theorem fin64 {p:Nat->Bool} (h:(List.range 64).all p=true) {x:Nat} (hx:x < 64):p x=true:=List.all_eq_true.1 h x (List.mem_range.2 hx)
theorem and1 {x:Nat} (hx:x < 64):bits BinOp.and IntKind.u64 (x:Int) 1=((x % 2:Nat):Int) :=
 of_decide_eq_true (fin64 (p:=fun x=>decide (bits BinOp.and IntKind.u64 (x:Int) 1=((x % 2:Nat):Int))) (by kernel_rfl) hx)
/-- whether a side has a vertex -/
def hsN (n s v:Nat):Bool:=s / 2 ^ (n-1-v) % 2 == 1
theorem gr_hasN (n:Nat) (ev mv:Value) (s v:Nat) (hn:n<=6) (hs:s < 64) (hv:v < n) (w:World):Calls Tryz.prog 50 #[GrN n ev mv,.int .u64 (s:Nat),.int .i64 (v:Nat)] w fun e w'=>e=.returned (.bool (hsN n s v))/\Below w.heap.size w w':=by
 have hx:(s:Int) / 2 ^ (n-1-v)=((s / 2 ^ (n-1-v):Nat):Int):=by rw[Int.natCast_ediv,Int.natCast_pow]; rfl
 have hlt:s / 2 ^ (n-1-v) < 64:=Nat.lt_of_le_of_lt (Nat.div_le_self _ _) hs;have HX:=Lib.hid hx;have HA:=Lib.hid (and1 hlt);clear hx hlt;go_enter Tryz.func50,Tryz.ntmps50;go_wp2;rw[HX.out,HA.out]
 go_ret
 refine⟨?_,(by repeat (first | exact Below.refl _ _ | exact Nat.le_refl _ | refine Below.alloc ?_ ?_ _ | refine Below.setCell ?_ ?_ _ | refine Below.drew ?_ | refine bl_drewN ?_ _ | (assumption) | refine bl_call ?_ (by assumption) ?_ | omega | (simp <;> omega)))⟩;have e:(((s / 2 ^ (n-1-v) % 2:Nat):Int) == 1)=hsN n s v:=by
  unfold hsN;rcases Nat.mod_two_eq_zero_or_one (s / 2 ^ (n-1-v)) with h | h <;> rw[h] <;> rfl
 exact congrArg (fun b=>Ending.returned (.bool b)) e
theorem gr_properN (n:Nat) (ev mv:Value) (s:Nat) (hn:1<=n/\n<=6) (hs:s < 64) (w:World):Calls Tryz.prog 26 #[GrN n ev mv,.int .u64 (s:Nat)] w fun e w'=>e=.returned (.bool (!hsN n s 0))/\Below w.heap.size w w':=by
 have HH:=Lib.hid (fun wx=>gr_hasN n ev mv s 0 hn.2 hs (by omega) wx);go_enter Tryz.func26,Tryz.ntmps26;go_wp2_with fail;refine(HH.out _).mono ?_;rintro e w1 ⟨rfl,hb1⟩;have B1:Below w.heap.size w w1:=bl_call (by repeat (first | exact Below.refl _ _ | exact Nat.le_refl _ | refine Below.alloc ?_ ?_ _ | refine Below.setCell ?_ ?_ _ | refine Below.drew ?_ | refine bl_drewN ?_ _ | (assumption) | refine bl_call ?_ (by assumption) ?_ | omega | (simp <;> omega))) hb1 (by simp);clear hb1;go_wp2
 go_ret
 exact⟨rfl,B1⟩
/-- how many edges a side cuts -/
def valN (n s:Nat):List (Nat × Nat)->Nat
 | []=>0
 | p :: l=>(if hsN n s p.1=hsN n s p.2 then 0 else 1)+valN n s l
theorem valN_snoc (n s:Nat) (l:List (Nat × Nat)) (p:Nat × Nat):valN n s (l ++ [p])=valN n s l+(if hsN n s p.1=hsN n s p.2 then 0 else 1):=by
 induction l with
 | nil=>simp[valN]
 | cons q l ih=>simp only[List.cons_append,valN,ih]; omega
theorem valN_le (n s:Nat) (l:List (Nat × Nat)):valN n s l<=l.length:=by
 induction l with
 | nil=>exact Nat.le_refl _
 | cons q l ih=>simp only[valN,List.length_cons]; split <;> omega
theorem gr_valueN (n:Nat) (es:List (Nat × Nat)) (s:Nat) (ev mv:Value) (hn:n<=6) (hs:s < 64) (hm:es.length<=15) (hes:∀p∈es,p.1 < p.2/\p.2 < n) (w:World) (hE:EdgesAt w ev es) :
  Calls Tryz.prog 69 #[GrN n ev mv,.int .u64 (s:Nat)] w fun e w'=>e=.returned (.int .i64 (valN n s es:Nat))/\Below w.heap.size w w':=by
 obtain⟨ad,cap,rfl,hE⟩:=hE;obtain⟨m,hml⟩:∃m,es.length=m:=⟨_,rfl⟩
 rw[hml]at hm ⊢;have HML:=Lib.hid hml;have HE:=Lib.hid hE;have HES:=Lib.hid hes;clear hE hes hml;go_enter Tryz.func69,Tryz.ntmps69;go_wp2;go_loopw [11,5] (fun x v wr=>∃k:Nat,x=.int .i64 k/\k<=m/\v=.int .i64 (valN n s (es.take k):Nat)/\wr.heap[w.heap.size]?=some (.cells #[.int .i64 (n:Nat),.slice ad m cap,mv] 66 (0,0))/\Below w.heap.size w wr) (fun x _ _=>m-(intOf x).toNat)
 case atStart=>exact⟨0,rfl,Nat.zero_le _,rfl,(by repeat (first | assumption | (with_reducible apply blk_set2) | (with_reducible apply blk_set1) | (with_reducible refine blk_far2 ?_ ?_; (first | omega | (simp; done) | (simp; omega))) | (with_reducible refine blk_far1 ?_ ?_; (first | omega | (simp; done) | (simp; omega))) | (with_reducible refine blk_new' _ _ ?_; (first | omega | (simp; done) | (simp; omega))) | (with_reducible refine blk_old ?_) | (with_reducible refine blk_drew ?_))),(by repeat (first | exact Below.refl _ _ | exact Nat.le_refl _ | refine Below.alloc ?_ ?_ _ | refine Below.setCell ?_ ?_ _ | refine Below.drew ?_ | refine bl_drewN ?_ _ | (assumption) | refine bl_call ?_ (by assumption) ?_ | omega | (simp <;> omega)))⟩
 case round =>
  obtain⟨k,rfl,hk,rfl,hR,B⟩:=hrel
  by_cases hkm:k < m
  ·
   obtain⟨p,hp⟩:∃p,es[k]?=some p:=⟨es[k]'(by rw[HML.out]; exact hkm),by simp[HML.out,hkm]⟩
   have hpe:=HES.out p (List.mem_of_getElem? hp);obtain⟨eb,rfl,hcell⟩:∃eb,ad=some ⟨eb,0,none⟩/\∀(k:Nat) (p:Nat × Nat),es[k]?=some p->w.cell? ⟨eb,k * 3,none⟩=some (.int .i64 (p.1:Nat))/\w.cell? ⟨eb,k * 3+1,none⟩=some (.int .i64 (p.2:Nat))/\w.cell? ⟨eb,k * 3+2,none⟩=some (.int .i64 1):=by
    rcases HE.out with h | h
    · rw[h]at hp; simp at hp
    · exact h
   obtain⟨c0,c1,c2⟩:=hcell k p hp;have ht:valN n s (es.take (k+1))=valN n s (es.take k)+(if hsN n s p.1=hsN n s p.2 then 0 else 1):=by
    rw[List.take_add_one,hp];exact valN_snoc n s _ p
   have hvb:=valN_le n s (es.take k);have hlen:(es.take k).length<=15:=by rw[List.length_take]; omega
   obtain⟨V,hV⟩:∃V,valN n s (es.take k)=V:=⟨_,rfl⟩
   rw[hV]at ht hvb ⊢;obtain⟨pa,pb⟩:=p;dsimp only at c0 c1 c2 hpe ht;have hV15:V<=15:=by omega
   have f0:=keepc B c0;have f1:=keepc B c1;have f2:=keepc B c2;have g0:wr.cell? ⟨w.heap.size,0,none⟩=some (.int .i64 (n:Nat)):=cell_of_row wr _ 0 _ _ _ hR;have g1:wr.cell? ⟨w.heap.size,1,none⟩=some (.slice (some ⟨eb,0,none⟩) m cap):=cell_of_row wr _ 1 _ _ _ hR;have g2:wr.cell? ⟨w.heap.size,2,none⟩=some mv:=cell_of_row wr _ 2 _ _ _ hR;have hsz:=blk_lt hR;have HR:=Lib.hid hR;have hA:=fun wx=>gr_hasN n (.slice (some ⟨eb,0,none⟩) m cap) mv s pa hn hs (by omega) wx;have hB:=fun wx=>gr_hasN n (.slice (some ⟨eb,0,none⟩) m cap) mv s pb hn hs (by omega) wx;clear hR hcell c0 c1 c2 hp hV hvb hlen;obtain⟨x,hx⟩:∃x,hsN n s pa=x:=⟨_,rfl⟩
   obtain⟨y,hy⟩:∃y,hsN n s pb=y:=⟨_,rfl⟩
   simp only[hx]at hA ht;simp only[hy]at hB ht;have HA:=Lib.hid hA;have HB:=Lib.hid hB;have HT:=Lib.hid ht;clear hA hB ht hx hy;cases x <;> cases y
   ·
    have hu:=hk;clear hu;go_upto_region 5 with fail;obtain⟨W0,h0⟩:∃W0,W0=(wr.alloc (.cells #[.int .i64 (pa:Nat),.int .i64 (pb:Nat),.int .i64 1] 26)):=⟨_,rfl⟩
    rw[<-h0];have B0:Below w.heap.size w W0:=by rw[h0]; exact B.alloc B.size _
    have R0:W0.heap[w.heap.size]?=some (.cells #[.int .i64 (n:Nat),.slice (some ⟨eb,0,none⟩) m cap,mv] 66 (0,0)):=by rw[h0]; exact blk_old HR.out
    have E0:W0.heap[wr.heap.size]?=some (.cells #[.int .i64 (pa:Nat),.int .i64 (pb:Nat),.int .i64 1] 26 (0,0)):=by rw[h0]; exact blk_new _ _
    clear h0 f0 f1 f2 g0 g1 g2;have g0:W0.cell? ⟨w.heap.size,0,none⟩=some (.int .i64 (n:Nat)):=cell_of_row W0 _ 0 _ _ _ R0;have g1:W0.cell? ⟨w.heap.size,1,none⟩=some (.slice (some ⟨eb,0,none⟩) m cap):=cell_of_row W0 _ 1 _ _ _ R0;have g2:W0.cell? ⟨w.heap.size,2,none⟩=some mv:=cell_of_row W0 _ 2 _ _ _ R0;have d0:W0.cell? ⟨wr.heap.size,0,none⟩=some (.int .i64 (pa:Nat)):=cell_of_row W0 _ 0 _ _ _ E0;have d1:W0.cell? ⟨wr.heap.size,1,none⟩=some (.int .i64 (pb:Nat)):=cell_of_row W0 _ 1 _ _ _ E0;have d2:W0.cell? ⟨wr.heap.size,2,none⟩=some (.int .i64 1):=cell_of_row W0 _ 2 _ _ _ E0;have hz0:=blk_lt R0;have hz1:=blk_lt E0;have HR0:=Lib.hid R0;clear R0 E0 HR;refine with_act fun a0 ha0=>?_;have hsz0:a0.tmps.size=32:=by rw[ha0]; rfl
    refine wp_region_vals (W0:=W0) (by kernel_rfl) (by kernel_rfl) [(15,GrN n (.slice (some ⟨eb,0,none⟩) m cap) mv),(16,.int .u64 (s:Nat)),(17,.pointer (some ⟨wr.heap.size,0,none⟩)),(18,.int .i64 (pa:Nat)),(19,.bool false),(20,GrN n (.slice (some ⟨eb,0,none⟩) m cap) mv),(21,.int .u64 (s:Nat)),(22,.pointer (some ⟨wr.heap.size,1,none⟩)),(23,.int .i64 (pb:Nat)),(24,.bool false),(25,.bool false)] rfl (by show([15,16,17,18,19,20,21,22,23,24,25]:List Nat).Nodup; decide) _ hsz0 (by kernel_rfl) (BelX.start _ _) ⟨⟨rfl,?y1v0⟩,⟨rfl,?y1v1⟩,⟨rfl,?y1v2⟩,⟨rfl,?y1v3⟩,⟨rfl,?y1v4⟩,⟨rfl,?y1v5⟩,⟨rfl,?y1v6⟩,⟨rfl,?y1v7⟩,⟨rfl,?y1v8⟩,⟨rfl,?y1v9⟩,⟨rfl,?y1v10⟩,trivial⟩ ?y1done
    case y1v0 =>
     intro a' w' hA hdep hX K hK;obtain⟨r2,q2⟩:=dpi hA 2 (.pointer (some ⟨w.heap.size,0,none⟩)) (by kernel_rfl) (by rw[ha0]; rfl);have kc0:w'.cell? ⟨w.heap.size,0,none⟩=some (.int .i64 (n:Nat)):=hX.cell (by simp) (by first | assumption | (go_simp; done) | (simp; done));have kc1:w'.cell? ⟨w.heap.size,1,none⟩=some (.slice (some ⟨eb,0,none⟩) m cap):=hX.cell (by simp) (by first | assumption | (go_simp; done) | (simp; done));have kc2:w'.cell? ⟨w.heap.size,2,none⟩=some (mv):=hX.cell (by simp) (by first | assumption | (go_simp; done) | (simp; done));have kc3:w'.cell? ⟨wr.heap.size,0,none⟩=some (.int .i64 (pa:Nat)):=hX.cell (by simp) (by first | assumption | (go_simp; done) | (simp; done));have kc4:w'.cell? ⟨wr.heap.size,1,none⟩=some (.int .i64 (pb:Nat)):=hX.cell (by simp) (by first | assumption | (go_simp; done) | (simp; done));clear hdep ha0 hA;refine StepG.value (wanted_none rfl) rfl ?_ (hK _ hX);simp[go_sem, *]
    case y1v1 =>
     exact mvVi rfl rfl rfl (by kernel_rfl) (by rw[ha0]; rfl)
    case y1v2 =>
     intro a' w' hA hdep hX K hK;obtain⟨r7,q7⟩:=dpi hA 7 (.pointer (some ⟨wr.heap.size,0,none⟩)) (by kernel_rfl) (by rw[ha0]; rfl);clear hdep ha0 hA;refine StepG.value (wanted_none rfl) rfl ?_ (hK _ hX);simp[go_sem, *]
    case y1v3 =>
     intro a' w' hA hdep hX K hK;obtain⟨r17,q17⟩:=dpv hdep ⟨2,.data⟩ (by simp) rfl rfl;have kc0:w'.cell? ⟨w.heap.size,0,none⟩=some (.int .i64 (n:Nat)):=hX.cell (by simp) (by first | assumption | (go_simp; done) | (simp; done));have kc1:w'.cell? ⟨w.heap.size,1,none⟩=some (.slice (some ⟨eb,0,none⟩) m cap):=hX.cell (by simp) (by first | assumption | (go_simp; done) | (simp; done));have kc2:w'.cell? ⟨w.heap.size,2,none⟩=some (mv):=hX.cell (by simp) (by first | assumption | (go_simp; done) | (simp; done));have kc3:w'.cell? ⟨wr.heap.size,0,none⟩=some (.int .i64 (pa:Nat)):=hX.cell (by simp) (by first | assumption | (go_simp; done) | (simp; done));have kc4:w'.cell? ⟨wr.heap.size,1,none⟩=some (.int .i64 (pb:Nat)):=hX.cell (by simp) (by first | assumption | (go_simp; done) | (simp; done));clear hdep ha0 hA;refine StepG.value (wanted_none rfl) rfl ?_ (hK _ hX);simp[go_sem, *]
    case y1v4 =>
     intro a' w' hA hdep hX K hK;obtain⟨r15,q15⟩:=dpv hdep ⟨0,.data⟩ (by simp) rfl rfl;obtain⟨r16,q16⟩:=dpv hdep ⟨1,.data⟩ (by simp) rfl rfl;obtain⟨r18,q18⟩:=dpv hdep ⟨3,.data⟩ (by simp) rfl rfl;clear hdep ha0 hA;refine StepG.call (wanted_none rfl) rfl ?_ ((HA.out _)) (fun w2 hb=>hK _ (hX.call hb));simp[go_sem, *]
    case y1v5 =>
     intro a' w' hA hdep hX K hK;obtain⟨r2,q2⟩:=dpi hA 2 (.pointer (some ⟨w.heap.size,0,none⟩)) (by kernel_rfl) (by rw[ha0]; rfl);have kc0:w'.cell? ⟨w.heap.size,0,none⟩=some (.int .i64 (n:Nat)):=hX.cell (by simp) (by first | assumption | (go_simp; done) | (simp; done));have kc1:w'.cell? ⟨w.heap.size,1,none⟩=some (.slice (some ⟨eb,0,none⟩) m cap):=hX.cell (by simp) (by first | assumption | (go_simp; done) | (simp; done));have kc2:w'.cell? ⟨w.heap.size,2,none⟩=some (mv):=hX.cell (by simp) (by first | assumption | (go_simp; done) | (simp; done));have kc3:w'.cell? ⟨wr.heap.size,0,none⟩=some (.int .i64 (pa:Nat)):=hX.cell (by simp) (by first | assumption | (go_simp; done) | (simp; done));have kc4:w'.cell? ⟨wr.heap.size,1,none⟩=some (.int .i64 (pb:Nat)):=hX.cell (by simp) (by first | assumption | (go_simp; done) | (simp; done));clear hdep ha0 hA;refine StepG.value (wanted_none rfl) rfl ?_ (hK _ hX);simp[go_sem, *]
    case y1v6 =>
     exact mvVi rfl rfl rfl (by kernel_rfl) (by rw[ha0]; rfl)
    case y1v7 =>
     intro a' w' hA hdep hX K hK;obtain⟨r7,q7⟩:=dpi hA 7 (.pointer (some ⟨wr.heap.size,0,none⟩)) (by kernel_rfl) (by rw[ha0]; rfl);clear hdep ha0 hA;refine StepG.value (wanted_none rfl) rfl ?_ (hK _ hX);simp[go_sem, *]
    case y1v8 =>
     intro a' w' hA hdep hX K hK;obtain⟨r22,q22⟩:=dpv hdep ⟨7,.data⟩ (by simp) rfl rfl;have kc0:w'.cell? ⟨w.heap.size,0,none⟩=some (.int .i64 (n:Nat)):=hX.cell (by simp) (by first | assumption | (go_simp; done) | (simp; done));have kc1:w'.cell? ⟨w.heap.size,1,none⟩=some (.slice (some ⟨eb,0,none⟩) m cap):=hX.cell (by simp) (by first | assumption | (go_simp; done) | (simp; done));have kc2:w'.cell? ⟨w.heap.size,2,none⟩=some (mv):=hX.cell (by simp) (by first | assumption | (go_simp; done) | (simp; done));have kc3:w'.cell? ⟨wr.heap.size,0,none⟩=some (.int .i64 (pa:Nat)):=hX.cell (by simp) (by first | assumption | (go_simp; done) | (simp; done));have kc4:w'.cell? ⟨wr.heap.size,1,none⟩=some (.int .i64 (pb:Nat)):=hX.cell (by simp) (by first | assumption | (go_simp; done) | (simp; done));clear hdep ha0 hA;refine StepG.value (wanted_none rfl) rfl ?_ (hK _ hX);simp[go_sem, *]
    case y1v9 =>
     intro a' w' hA hdep hX K hK;obtain⟨r20,q20⟩:=dpv hdep ⟨5,.data⟩ (by simp) rfl rfl;obtain⟨r21,q21⟩:=dpv hdep ⟨6,.data⟩ (by simp) rfl rfl;obtain⟨r23,q23⟩:=dpv hdep ⟨8,.data⟩ (by simp) rfl rfl;clear hdep ha0 hA;refine StepG.call (wanted_none rfl) rfl ?_ ((HB.out _)) (fun w2 hb=>hK _ (hX.call hb));simp[go_sem, *]
    case y1v10 =>
     intro a' w' hA hdep hX K hK;obtain⟨r19,q19⟩:=dpv hdep ⟨4,.data⟩ (by simp) rfl rfl;obtain⟨r24,q24⟩:=dpv hdep ⟨9,.data⟩ (by simp) rfl rfl;clear hdep ha0 hA;refine StepG.value (wanted_none rfl) rfl ?_ (hK _ hX);simp[go_sem, *]
    intro w1 hXR;rw[ha0]; simp only[putL,Act.put,sA_,sZ_,sS_];clear ha0 hsz0;have B1:Below w.heap.size w w1:=hXR.below B0 (by omega) (by simp);have HR1:=Lib.hid ((hXR.block _ (blk_lt HR0.out) (by simp)).trans HR0.out);have d2':w1.cell? ⟨wr.heap.size,2,none⟩=some (.int .i64 1):=hXR.cell (by simp) d2;clear hXR g0 g1 g2 d0 d1 d2 HR0;go_wp2;exact⟨⟨k+1,by simp,by omega,by rw[HT.out]; simp,HR1.out,B1⟩,by simp[intOf]; omega⟩
   ·
    have hu:=hk;clear hu;go_upto_region 5 with fail;obtain⟨W0,h0⟩:∃W0,W0=(wr.alloc (.cells #[.int .i64 (pa:Nat),.int .i64 (pb:Nat),.int .i64 1] 26)):=⟨_,rfl⟩
    rw[<-h0];have B0:Below w.heap.size w W0:=by rw[h0]; exact B.alloc B.size _
    have R0:W0.heap[w.heap.size]?=some (.cells #[.int .i64 (n:Nat),.slice (some ⟨eb,0,none⟩) m cap,mv] 66 (0,0)):=by rw[h0]; exact blk_old HR.out
    have E0:W0.heap[wr.heap.size]?=some (.cells #[.int .i64 (pa:Nat),.int .i64 (pb:Nat),.int .i64 1] 26 (0,0)):=by rw[h0]; exact blk_new _ _
    clear h0 f0 f1 f2 g0 g1 g2;have g0:W0.cell? ⟨w.heap.size,0,none⟩=some (.int .i64 (n:Nat)):=cell_of_row W0 _ 0 _ _ _ R0;have g1:W0.cell? ⟨w.heap.size,1,none⟩=some (.slice (some ⟨eb,0,none⟩) m cap):=cell_of_row W0 _ 1 _ _ _ R0;have g2:W0.cell? ⟨w.heap.size,2,none⟩=some mv:=cell_of_row W0 _ 2 _ _ _ R0;have d0:W0.cell? ⟨wr.heap.size,0,none⟩=some (.int .i64 (pa:Nat)):=cell_of_row W0 _ 0 _ _ _ E0;have d1:W0.cell? ⟨wr.heap.size,1,none⟩=some (.int .i64 (pb:Nat)):=cell_of_row W0 _ 1 _ _ _ E0;have d2:W0.cell? ⟨wr.heap.size,2,none⟩=some (.int .i64 1):=cell_of_row W0 _ 2 _ _ _ E0;have hz0:=blk_lt R0;have hz1:=blk_lt E0;have HR0:=Lib.hid R0;clear R0 E0 HR;refine with_act fun a0 ha0=>?_;have hsz0:a0.tmps.size=32:=by rw[ha0]; rfl
    refine wp_region_vals (W0:=W0) (by kernel_rfl) (by kernel_rfl) [(15,GrN n (.slice (some ⟨eb,0,none⟩) m cap) mv),(16,.int .u64 (s:Nat)),(17,.pointer (some ⟨wr.heap.size,0,none⟩)),(18,.int .i64 (pa:Nat)),(19,.bool false),(20,GrN n (.slice (some ⟨eb,0,none⟩) m cap) mv),(21,.int .u64 (s:Nat)),(22,.pointer (some ⟨wr.heap.size,1,none⟩)),(23,.int .i64 (pb:Nat)),(24,.bool true),(25,.bool true)] rfl (by show([15,16,17,18,19,20,21,22,23,24,25]:List Nat).Nodup; decide) _ hsz0 (by kernel_rfl) (BelX.start _ _) ⟨⟨rfl,?y2v0⟩,⟨rfl,?y2v1⟩,⟨rfl,?y2v2⟩,⟨rfl,?y2v3⟩,⟨rfl,?y2v4⟩,⟨rfl,?y2v5⟩,⟨rfl,?y2v6⟩,⟨rfl,?y2v7⟩,⟨rfl,?y2v8⟩,⟨rfl,?y2v9⟩,⟨rfl,?y2v10⟩,trivial⟩ ?y2done
    case y2v0 =>
     intro a' w' hA hdep hX K hK;obtain⟨r2,q2⟩:=dpi hA 2 (.pointer (some ⟨w.heap.size,0,none⟩)) (by kernel_rfl) (by rw[ha0]; rfl);have kc0:w'.cell? ⟨w.heap.size,0,none⟩=some (.int .i64 (n:Nat)):=hX.cell (by simp) (by first | assumption | (go_simp; done) | (simp; done));have kc1:w'.cell? ⟨w.heap.size,1,none⟩=some (.slice (some ⟨eb,0,none⟩) m cap):=hX.cell (by simp) (by first | assumption | (go_simp; done) | (simp; done));have kc2:w'.cell? ⟨w.heap.size,2,none⟩=some (mv):=hX.cell (by simp) (by first | assumption | (go_simp; done) | (simp; done));have kc3:w'.cell? ⟨wr.heap.size,0,none⟩=some (.int .i64 (pa:Nat)):=hX.cell (by simp) (by first | assumption | (go_simp; done) | (simp; done));have kc4:w'.cell? ⟨wr.heap.size,1,none⟩=some (.int .i64 (pb:Nat)):=hX.cell (by simp) (by first | assumption | (go_simp; done) | (simp; done));clear hdep ha0 hA;refine StepG.value (wanted_none rfl) rfl ?_ (hK _ hX);simp[go_sem, *]
    case y2v1 =>
     exact mvVi rfl rfl rfl (by kernel_rfl) (by rw[ha0]; rfl)
    case y2v2 =>
     intro a' w' hA hdep hX K hK;obtain⟨r7,q7⟩:=dpi hA 7 (.pointer (some ⟨wr.heap.size,0,none⟩)) (by kernel_rfl) (by rw[ha0]; rfl);clear hdep ha0 hA;refine StepG.value (wanted_none rfl) rfl ?_ (hK _ hX);simp[go_sem, *]
    case y2v3 =>
     intro a' w' hA hdep hX K hK;obtain⟨r17,q17⟩:=dpv hdep ⟨2,.data⟩ (by simp) rfl rfl;have kc0:w'.cell? ⟨w.heap.size,0,none⟩=some (.int .i64 (n:Nat)):=hX.cell (by simp) (by first | assumption | (go_simp; done) | (simp; done));have kc1:w'.cell? ⟨w.heap.size,1,none⟩=some (.slice (some ⟨eb,0,none⟩) m cap):=hX.cell (by simp) (by first | assumption | (go_simp; done) | (simp; done));have kc2:w'.cell? ⟨w.heap.size,2,none⟩=some (mv):=hX.cell (by simp) (by first | assumption | (go_simp; done) | (simp; done));have kc3:w'.cell? ⟨wr.heap.size,0,none⟩=some (.int .i64 (pa:Nat)):=hX.cell (by simp) (by first | assumption | (go_simp; done) | (simp; done));have kc4:w'.cell? ⟨wr.heap.size,1,none⟩=some (.int .i64 (pb:Nat)):=hX.cell (by simp) (by first | assumption | (go_simp; done) | (simp; done));clear hdep ha0 hA;refine StepG.value (wanted_none rfl) rfl ?_ (hK _ hX);simp[go_sem, *]
    case y2v4 =>
     intro a' w' hA hdep hX K hK;obtain⟨r15,q15⟩:=dpv hdep ⟨0,.data⟩ (by simp) rfl rfl;obtain⟨r16,q16⟩:=dpv hdep ⟨1,.data⟩ (by simp) rfl rfl;obtain⟨r18,q18⟩:=dpv hdep ⟨3,.data⟩ (by simp) rfl rfl;clear hdep ha0 hA;refine StepG.call (wanted_none rfl) rfl ?_ ((HA.out _)) (fun w2 hb=>hK _ (hX.call hb));simp[go_sem, *]
    case y2v5 =>
     intro a' w' hA hdep hX K hK;obtain⟨r2,q2⟩:=dpi hA 2 (.pointer (some ⟨w.heap.size,0,none⟩)) (by kernel_rfl) (by rw[ha0]; rfl);have kc0:w'.cell? ⟨w.heap.size,0,none⟩=some (.int .i64 (n:Nat)):=hX.cell (by simp) (by first | assumption | (go_simp; done) | (simp; done));have kc1:w'.cell? ⟨w.heap.size,1,none⟩=some (.slice (some ⟨eb,0,none⟩) m cap):=hX.cell (by simp) (by first | assumption | (go_simp; done) | (simp; done));have kc2:w'.cell? ⟨w.heap.size,2,none⟩=some (mv):=hX.cell (by simp) (by first | assumption | (go_simp; done) | (simp; done));have kc3:w'.cell? ⟨wr.heap.size,0,none⟩=some (.int .i64 (pa:Nat)):=hX.cell (by simp) (by first | assumption | (go_simp; done) | (simp; done));have kc4:w'.cell? ⟨wr.heap.size,1,none⟩=some (.int .i64 (pb:Nat)):=hX.cell (by simp) (by first | assumption | (go_simp; done) | (simp; done));clear hdep ha0 hA;refine StepG.value (wanted_none rfl) rfl ?_ (hK _ hX);simp[go_sem, *]
    case y2v6 =>
     exact mvVi rfl rfl rfl (by kernel_rfl) (by rw[ha0]; rfl)
    case y2v7 =>
     intro a' w' hA hdep hX K hK;obtain⟨r7,q7⟩:=dpi hA 7 (.pointer (some ⟨wr.heap.size,0,none⟩)) (by kernel_rfl) (by rw[ha0]; rfl);clear hdep ha0 hA;refine StepG.value (wanted_none rfl) rfl ?_ (hK _ hX);simp[go_sem, *]
    case y2v8 =>
     intro a' w' hA hdep hX K hK;obtain⟨r22,q22⟩:=dpv hdep ⟨7,.data⟩ (by simp) rfl rfl;have kc0:w'.cell? ⟨w.heap.size,0,none⟩=some (.int .i64 (n:Nat)):=hX.cell (by simp) (by first | assumption | (go_simp; done) | (simp; done));have kc1:w'.cell? ⟨w.heap.size,1,none⟩=some (.slice (some ⟨eb,0,none⟩) m cap):=hX.cell (by simp) (by first | assumption | (go_simp; done) | (simp; done));have kc2:w'.cell? ⟨w.heap.size,2,none⟩=some (mv):=hX.cell (by simp) (by first | assumption | (go_simp; done) | (simp; done));have kc3:w'.cell? ⟨wr.heap.size,0,none⟩=some (.int .i64 (pa:Nat)):=hX.cell (by simp) (by first | assumption | (go_simp; done) | (simp; done));have kc4:w'.cell? ⟨wr.heap.size,1,none⟩=some (.int .i64 (pb:Nat)):=hX.cell (by simp) (by first | assumption | (go_simp; done) | (simp; done));clear hdep ha0 hA;refine StepG.value (wanted_none rfl) rfl ?_ (hK _ hX);simp[go_sem, *]
    case y2v9 =>
     intro a' w' hA hdep hX K hK;obtain⟨r20,q20⟩:=dpv hdep ⟨5,.data⟩ (by simp) rfl rfl;obtain⟨r21,q21⟩:=dpv hdep ⟨6,.data⟩ (by simp) rfl rfl;obtain⟨r23,q23⟩:=dpv hdep ⟨8,.data⟩ (by simp) rfl rfl;clear hdep ha0 hA;refine StepG.call (wanted_none rfl) rfl ?_ ((HB.out _)) (fun w2 hb=>hK _ (hX.call hb));simp[go_sem, *]
    case y2v10 =>
     intro a' w' hA hdep hX K hK;obtain⟨r19,q19⟩:=dpv hdep ⟨4,.data⟩ (by simp) rfl rfl;obtain⟨r24,q24⟩:=dpv hdep ⟨9,.data⟩ (by simp) rfl rfl;clear hdep ha0 hA;refine StepG.value (wanted_none rfl) rfl ?_ (hK _ hX);simp[go_sem, *]
    intro w1 hXR;rw[ha0]; simp only[putL,Act.put,sA_,sZ_,sS_];clear ha0 hsz0;have B1:Below w.heap.size w w1:=hXR.below B0 (by omega) (by simp);have HR1:=Lib.hid ((hXR.block _ (blk_lt HR0.out) (by simp)).trans HR0.out);have d2':w1.cell? ⟨wr.heap.size,2,none⟩=some (.int .i64 1):=hXR.cell (by simp) d2;clear hXR g0 g1 g2 d0 d1 d2 HR0;go_wp2;exact⟨⟨k+1,by simp,by omega,by rw[HT.out]; simp,HR1.out,B1⟩,by simp[intOf]; omega⟩
   ·
    have hu:=hk;clear hu;go_upto_region 5 with fail;obtain⟨W0,h0⟩:∃W0,W0=(wr.alloc (.cells #[.int .i64 (pa:Nat),.int .i64 (pb:Nat),.int .i64 1] 26)):=⟨_,rfl⟩
    rw[<-h0];have B0:Below w.heap.size w W0:=by rw[h0]; exact B.alloc B.size _
    have R0:W0.heap[w.heap.size]?=some (.cells #[.int .i64 (n:Nat),.slice (some ⟨eb,0,none⟩) m cap,mv] 66 (0,0)):=by rw[h0]; exact blk_old HR.out
    have E0:W0.heap[wr.heap.size]?=some (.cells #[.int .i64 (pa:Nat),.int .i64 (pb:Nat),.int .i64 1] 26 (0,0)):=by rw[h0]; exact blk_new _ _
    clear h0 f0 f1 f2 g0 g1 g2;have g0:W0.cell? ⟨w.heap.size,0,none⟩=some (.int .i64 (n:Nat)):=cell_of_row W0 _ 0 _ _ _ R0;have g1:W0.cell? ⟨w.heap.size,1,none⟩=some (.slice (some ⟨eb,0,none⟩) m cap):=cell_of_row W0 _ 1 _ _ _ R0;have g2:W0.cell? ⟨w.heap.size,2,none⟩=some mv:=cell_of_row W0 _ 2 _ _ _ R0;have d0:W0.cell? ⟨wr.heap.size,0,none⟩=some (.int .i64 (pa:Nat)):=cell_of_row W0 _ 0 _ _ _ E0;have d1:W0.cell? ⟨wr.heap.size,1,none⟩=some (.int .i64 (pb:Nat)):=cell_of_row W0 _ 1 _ _ _ E0;have d2:W0.cell? ⟨wr.heap.size,2,none⟩=some (.int .i64 1):=cell_of_row W0 _ 2 _ _ _ E0;have hz0:=blk_lt R0;have hz1:=blk_lt E0;have HR0:=Lib.hid R0;clear R0 E0 HR;refine with_act fun a0 ha0=>?_;have hsz0:a0.tmps.size=32:=by rw[ha0]; rfl
    refine wp_region_vals (W0:=W0) (by kernel_rfl) (by kernel_rfl) [(15,GrN n (.slice (some ⟨eb,0,none⟩) m cap) mv),(16,.int .u64 (s:Nat)),(17,.pointer (some ⟨wr.heap.size,0,none⟩)),(18,.int .i64 (pa:Nat)),(19,.bool true),(20,GrN n (.slice (some ⟨eb,0,none⟩) m cap) mv),(21,.int .u64 (s:Nat)),(22,.pointer (some ⟨wr.heap.size,1,none⟩)),(23,.int .i64 (pb:Nat)),(24,.bool false),(25,.bool true)] rfl (by show([15,16,17,18,19,20,21,22,23,24,25]:List Nat).Nodup; decide) _ hsz0 (by kernel_rfl) (BelX.start _ _) ⟨⟨rfl,?y3v0⟩,⟨rfl,?y3v1⟩,⟨rfl,?y3v2⟩,⟨rfl,?y3v3⟩,⟨rfl,?y3v4⟩,⟨rfl,?y3v5⟩,⟨rfl,?y3v6⟩,⟨rfl,?y3v7⟩,⟨rfl,?y3v8⟩,⟨rfl,?y3v9⟩,⟨rfl,?y3v10⟩,trivial⟩ ?y3done
    case y3v0 =>
     intro a' w' hA hdep hX K hK;obtain⟨r2,q2⟩:=dpi hA 2 (.pointer (some ⟨w.heap.size,0,none⟩)) (by kernel_rfl) (by rw[ha0]; rfl);have kc0:w'.cell? ⟨w.heap.size,0,none⟩=some (.int .i64 (n:Nat)):=hX.cell (by simp) (by first | assumption | (go_simp; done) | (simp; done));have kc1:w'.cell? ⟨w.heap.size,1,none⟩=some (.slice (some ⟨eb,0,none⟩) m cap):=hX.cell (by simp) (by first | assumption | (go_simp; done) | (simp; done));have kc2:w'.cell? ⟨w.heap.size,2,none⟩=some (mv):=hX.cell (by simp) (by first | assumption | (go_simp; done) | (simp; done));have kc3:w'.cell? ⟨wr.heap.size,0,none⟩=some (.int .i64 (pa:Nat)):=hX.cell (by simp) (by first | assumption | (go_simp; done) | (simp; done));have kc4:w'.cell? ⟨wr.heap.size,1,none⟩=some (.int .i64 (pb:Nat)):=hX.cell (by simp) (by first | assumption | (go_simp; done) | (simp; done));clear hdep ha0 hA;refine StepG.value (wanted_none rfl) rfl ?_ (hK _ hX);simp[go_sem, *]
    case y3v1 =>
     exact mvVi rfl rfl rfl (by kernel_rfl) (by rw[ha0]; rfl)
    case y3v2 =>
     intro a' w' hA hdep hX K hK;obtain⟨r7,q7⟩:=dpi hA 7 (.pointer (some ⟨wr.heap.size,0,none⟩)) (by kernel_rfl) (by rw[ha0]; rfl);clear hdep ha0 hA;refine StepG.value (wanted_none rfl) rfl ?_ (hK _ hX);simp[go_sem, *]
    case y3v3 =>
     intro a' w' hA hdep hX K hK;obtain⟨r17,q17⟩:=dpv hdep ⟨2,.data⟩ (by simp) rfl rfl;have kc0:w'.cell? ⟨w.heap.size,0,none⟩=some (.int .i64 (n:Nat)):=hX.cell (by simp) (by first | assumption | (go_simp; done) | (simp; done));have kc1:w'.cell? ⟨w.heap.size,1,none⟩=some (.slice (some ⟨eb,0,none⟩) m cap):=hX.cell (by simp) (by first | assumption | (go_simp; done) | (simp; done));have kc2:w'.cell? ⟨w.heap.size,2,none⟩=some (mv):=hX.cell (by simp) (by first | assumption | (go_simp; done) | (simp; done));have kc3:w'.cell? ⟨wr.heap.size,0,none⟩=some (.int .i64 (pa:Nat)):=hX.cell (by simp) (by first | assumption | (go_simp; done) | (simp; done));have kc4:w'.cell? ⟨wr.heap.size,1,none⟩=some (.int .i64 (pb:Nat)):=hX.cell (by simp) (by first | assumption | (go_simp; done) | (simp; done));clear hdep ha0 hA;refine StepG.value (wanted_none rfl) rfl ?_ (hK _ hX);simp[go_sem, *]
    case y3v4 =>
     intro a' w' hA hdep hX K hK;obtain⟨r15,q15⟩:=dpv hdep ⟨0,.data⟩ (by simp) rfl rfl;obtain⟨r16,q16⟩:=dpv hdep ⟨1,.data⟩ (by simp) rfl rfl;obtain⟨r18,q18⟩:=dpv hdep ⟨3,.data⟩ (by simp) rfl rfl;clear hdep ha0 hA;refine StepG.call (wanted_none rfl) rfl ?_ ((HA.out _)) (fun w2 hb=>hK _ (hX.call hb));simp[go_sem, *]
    case y3v5 =>
     intro a' w' hA hdep hX K hK;obtain⟨r2,q2⟩:=dpi hA 2 (.pointer (some ⟨w.heap.size,0,none⟩)) (by kernel_rfl) (by rw[ha0]; rfl);have kc0:w'.cell? ⟨w.heap.size,0,none⟩=some (.int .i64 (n:Nat)):=hX.cell (by simp) (by first | assumption | (go_simp; done) | (simp; done));have kc1:w'.cell? ⟨w.heap.size,1,none⟩=some (.slice (some ⟨eb,0,none⟩) m cap):=hX.cell (by simp) (by first | assumption | (go_simp; done) | (simp; done));have kc2:w'.cell? ⟨w.heap.size,2,none⟩=some (mv):=hX.cell (by simp) (by first | assumption | (go_simp; done) | (simp; done));have kc3:w'.cell? ⟨wr.heap.size,0,none⟩=some (.int .i64 (pa:Nat)):=hX.cell (by simp) (by first | assumption | (go_simp; done) | (simp; done));have kc4:w'.cell? ⟨wr.heap.size,1,none⟩=some (.int .i64 (pb:Nat)):=hX.cell (by simp) (by first | assumption | (go_simp; done) | (simp; done));clear hdep ha0 hA;refine StepG.value (wanted_none rfl) rfl ?_ (hK _ hX);simp[go_sem, *]
    case y3v6 =>
     exact mvVi rfl rfl rfl (by kernel_rfl) (by rw[ha0]; rfl)
    case y3v7 =>
     intro a' w' hA hdep hX K hK;obtain⟨r7,q7⟩:=dpi hA 7 (.pointer (some ⟨wr.heap.size,0,none⟩)) (by kernel_rfl) (by rw[ha0]; rfl);clear hdep ha0 hA;refine StepG.value (wanted_none rfl) rfl ?_ (hK _ hX);simp[go_sem, *]
    case y3v8 =>
     intro a' w' hA hdep hX K hK;obtain⟨r22,q22⟩:=dpv hdep ⟨7,.data⟩ (by simp) rfl rfl;have kc0:w'.cell? ⟨w.heap.size,0,none⟩=some (.int .i64 (n:Nat)):=hX.cell (by simp) (by first | assumption | (go_simp; done) | (simp; done));have kc1:w'.cell? ⟨w.heap.size,1,none⟩=some (.slice (some ⟨eb,0,none⟩) m cap):=hX.cell (by simp) (by first | assumption | (go_simp; done) | (simp; done));have kc2:w'.cell? ⟨w.heap.size,2,none⟩=some (mv):=hX.cell (by simp) (by first | assumption | (go_simp; done) | (simp; done));have kc3:w'.cell? ⟨wr.heap.size,0,none⟩=some (.int .i64 (pa:Nat)):=hX.cell (by simp) (by first | assumption | (go_simp; done) | (simp; done));have kc4:w'.cell? ⟨wr.heap.size,1,none⟩=some (.int .i64 (pb:Nat)):=hX.cell (by simp) (by first | assumption | (go_simp; done) | (simp; done));clear hdep ha0 hA;refine StepG.value (wanted_none rfl) rfl ?_ (hK _ hX);simp[go_sem, *]
    case y3v9 =>
     intro a' w' hA hdep hX K hK;obtain⟨r20,q20⟩:=dpv hdep ⟨5,.data⟩ (by simp) rfl rfl;obtain⟨r21,q21⟩:=dpv hdep ⟨6,.data⟩ (by simp) rfl rfl;obtain⟨r23,q23⟩:=dpv hdep ⟨8,.data⟩ (by simp) rfl rfl;clear hdep ha0 hA;refine StepG.call (wanted_none rfl) rfl ?_ ((HB.out _)) (fun w2 hb=>hK _ (hX.call hb));simp[go_sem, *]
    case y3v10 =>
     intro a' w' hA hdep hX K hK;obtain⟨r19,q19⟩:=dpv hdep ⟨4,.data⟩ (by simp) rfl rfl;obtain⟨r24,q24⟩:=dpv hdep ⟨9,.data⟩ (by simp) rfl rfl;clear hdep ha0 hA;refine StepG.value (wanted_none rfl) rfl ?_ (hK _ hX);simp[go_sem, *]
    intro w1 hXR;rw[ha0]; simp only[putL,Act.put,sA_,sZ_,sS_];clear ha0 hsz0;have B1:Below w.heap.size w w1:=hXR.below B0 (by omega) (by simp);have HR1:=Lib.hid ((hXR.block _ (blk_lt HR0.out) (by simp)).trans HR0.out);have d2':w1.cell? ⟨wr.heap.size,2,none⟩=some (.int .i64 1):=hXR.cell (by simp) d2;clear hXR g0 g1 g2 d0 d1 d2 HR0;go_wp2;exact⟨⟨k+1,by simp,by omega,by rw[HT.out]; simp,HR1.out,B1⟩,by simp[intOf]; omega⟩
   ·
    have hu:=hk;clear hu;go_upto_region 5 with fail;obtain⟨W0,h0⟩:∃W0,W0=(wr.alloc (.cells #[.int .i64 (pa:Nat),.int .i64 (pb:Nat),.int .i64 1] 26)):=⟨_,rfl⟩
    rw[<-h0];have B0:Below w.heap.size w W0:=by rw[h0]; exact B.alloc B.size _
    have R0:W0.heap[w.heap.size]?=some (.cells #[.int .i64 (n:Nat),.slice (some ⟨eb,0,none⟩) m cap,mv] 66 (0,0)):=by rw[h0]; exact blk_old HR.out
    have E0:W0.heap[wr.heap.size]?=some (.cells #[.int .i64 (pa:Nat),.int .i64 (pb:Nat),.int .i64 1] 26 (0,0)):=by rw[h0]; exact blk_new _ _
    clear h0 f0 f1 f2 g0 g1 g2;have g0:W0.cell? ⟨w.heap.size,0,none⟩=some (.int .i64 (n:Nat)):=cell_of_row W0 _ 0 _ _ _ R0;have g1:W0.cell? ⟨w.heap.size,1,none⟩=some (.slice (some ⟨eb,0,none⟩) m cap):=cell_of_row W0 _ 1 _ _ _ R0;have g2:W0.cell? ⟨w.heap.size,2,none⟩=some mv:=cell_of_row W0 _ 2 _ _ _ R0;have d0:W0.cell? ⟨wr.heap.size,0,none⟩=some (.int .i64 (pa:Nat)):=cell_of_row W0 _ 0 _ _ _ E0;have d1:W0.cell? ⟨wr.heap.size,1,none⟩=some (.int .i64 (pb:Nat)):=cell_of_row W0 _ 1 _ _ _ E0;have d2:W0.cell? ⟨wr.heap.size,2,none⟩=some (.int .i64 1):=cell_of_row W0 _ 2 _ _ _ E0;have hz0:=blk_lt R0;have hz1:=blk_lt E0;have HR0:=Lib.hid R0;clear R0 E0 HR;refine with_act fun a0 ha0=>?_;have hsz0:a0.tmps.size=32:=by rw[ha0]; rfl
    refine wp_region_vals (W0:=W0) (by kernel_rfl) (by kernel_rfl) [(15,GrN n (.slice (some ⟨eb,0,none⟩) m cap) mv),(16,.int .u64 (s:Nat)),(17,.pointer (some ⟨wr.heap.size,0,none⟩)),(18,.int .i64 (pa:Nat)),(19,.bool true),(20,GrN n (.slice (some ⟨eb,0,none⟩) m cap) mv),(21,.int .u64 (s:Nat)),(22,.pointer (some ⟨wr.heap.size,1,none⟩)),(23,.int .i64 (pb:Nat)),(24,.bool true),(25,.bool false)] rfl (by show([15,16,17,18,19,20,21,22,23,24,25]:List Nat).Nodup; decide) _ hsz0 (by kernel_rfl) (BelX.start _ _) ⟨⟨rfl,?y4v0⟩,⟨rfl,?y4v1⟩,⟨rfl,?y4v2⟩,⟨rfl,?y4v3⟩,⟨rfl,?y4v4⟩,⟨rfl,?y4v5⟩,⟨rfl,?y4v6⟩,⟨rfl,?y4v7⟩,⟨rfl,?y4v8⟩,⟨rfl,?y4v9⟩,⟨rfl,?y4v10⟩,trivial⟩ ?y4done
    case y4v0 =>
     intro a' w' hA hdep hX K hK;obtain⟨r2,q2⟩:=dpi hA 2 (.pointer (some ⟨w.heap.size,0,none⟩)) (by kernel_rfl) (by rw[ha0]; rfl);have kc0:w'.cell? ⟨w.heap.size,0,none⟩=some (.int .i64 (n:Nat)):=hX.cell (by simp) (by first | assumption | (go_simp; done) | (simp; done));have kc1:w'.cell? ⟨w.heap.size,1,none⟩=some (.slice (some ⟨eb,0,none⟩) m cap):=hX.cell (by simp) (by first | assumption | (go_simp; done) | (simp; done));have kc2:w'.cell? ⟨w.heap.size,2,none⟩=some (mv):=hX.cell (by simp) (by first | assumption | (go_simp; done) | (simp; done));have kc3:w'.cell? ⟨wr.heap.size,0,none⟩=some (.int .i64 (pa:Nat)):=hX.cell (by simp) (by first | assumption | (go_simp; done) | (simp; done));have kc4:w'.cell? ⟨wr.heap.size,1,none⟩=some (.int .i64 (pb:Nat)):=hX.cell (by simp) (by first | assumption | (go_simp; done) | (simp; done));clear hdep ha0 hA;refine StepG.value (wanted_none rfl) rfl ?_ (hK _ hX);simp[go_sem, *]
    case y4v1 =>
     exact mvVi rfl rfl rfl (by kernel_rfl) (by rw[ha0]; rfl)
    case y4v2 =>
     intro a' w' hA hdep hX K hK;obtain⟨r7,q7⟩:=dpi hA 7 (.pointer (some ⟨wr.heap.size,0,none⟩)) (by kernel_rfl) (by rw[ha0]; rfl);clear hdep ha0 hA;refine StepG.value (wanted_none rfl) rfl ?_ (hK _ hX);simp[go_sem, *]
    case y4v3 =>
     intro a' w' hA hdep hX K hK;obtain⟨r17,q17⟩:=dpv hdep ⟨2,.data⟩ (by simp) rfl rfl;have kc0:w'.cell? ⟨w.heap.size,0,none⟩=some (.int .i64 (n:Nat)):=hX.cell (by simp) (by first | assumption | (go_simp; done) | (simp; done));have kc1:w'.cell? ⟨w.heap.size,1,none⟩=some (.slice (some ⟨eb,0,none⟩) m cap):=hX.cell (by simp) (by first | assumption | (go_simp; done) | (simp; done));have kc2:w'.cell? ⟨w.heap.size,2,none⟩=some (mv):=hX.cell (by simp) (by first | assumption | (go_simp; done) | (simp; done));have kc3:w'.cell? ⟨wr.heap.size,0,none⟩=some (.int .i64 (pa:Nat)):=hX.cell (by simp) (by first | assumption | (go_simp; done) | (simp; done));have kc4:w'.cell? ⟨wr.heap.size,1,none⟩=some (.int .i64 (pb:Nat)):=hX.cell (by simp) (by first | assumption | (go_simp; done) | (simp; done));clear hdep ha0 hA;refine StepG.value (wanted_none rfl) rfl ?_ (hK _ hX);simp[go_sem, *]
    case y4v4 =>
     intro a' w' hA hdep hX K hK;obtain⟨r15,q15⟩:=dpv hdep ⟨0,.data⟩ (by simp) rfl rfl;obtain⟨r16,q16⟩:=dpv hdep ⟨1,.data⟩ (by simp) rfl rfl;obtain⟨r18,q18⟩:=dpv hdep ⟨3,.data⟩ (by simp) rfl rfl;clear hdep ha0 hA;refine StepG.call (wanted_none rfl) rfl ?_ ((HA.out _)) (fun w2 hb=>hK _ (hX.call hb));simp[go_sem, *]
    case y4v5 =>
     intro a' w' hA hdep hX K hK;obtain⟨r2,q2⟩:=dpi hA 2 (.pointer (some ⟨w.heap.size,0,none⟩)) (by kernel_rfl) (by rw[ha0]; rfl);have kc0:w'.cell? ⟨w.heap.size,0,none⟩=some (.int .i64 (n:Nat)):=hX.cell (by simp) (by first | assumption | (go_simp; done) | (simp; done));have kc1:w'.cell? ⟨w.heap.size,1,none⟩=some (.slice (some ⟨eb,0,none⟩) m cap):=hX.cell (by simp) (by first | assumption | (go_simp; done) | (simp; done));have kc2:w'.cell? ⟨w.heap.size,2,none⟩=some (mv):=hX.cell (by simp) (by first | assumption | (go_simp; done) | (simp; done));have kc3:w'.cell? ⟨wr.heap.size,0,none⟩=some (.int .i64 (pa:Nat)):=hX.cell (by simp) (by first | assumption | (go_simp; done) | (simp; done));have kc4:w'.cell? ⟨wr.heap.size,1,none⟩=some (.int .i64 (pb:Nat)):=hX.cell (by simp) (by first | assumption | (go_simp; done) | (simp; done));clear hdep ha0 hA;refine StepG.value (wanted_none rfl) rfl ?_ (hK _ hX);simp[go_sem, *]
    case y4v6 =>
     exact mvVi rfl rfl rfl (by kernel_rfl) (by rw[ha0]; rfl)
    case y4v7 =>
     intro a' w' hA hdep hX K hK;obtain⟨r7,q7⟩:=dpi hA 7 (.pointer (some ⟨wr.heap.size,0,none⟩)) (by kernel_rfl) (by rw[ha0]; rfl);clear hdep ha0 hA;refine StepG.value (wanted_none rfl) rfl ?_ (hK _ hX);simp[go_sem, *]
    case y4v8 =>
     intro a' w' hA hdep hX K hK;obtain⟨r22,q22⟩:=dpv hdep ⟨7,.data⟩ (by simp) rfl rfl;have kc0:w'.cell? ⟨w.heap.size,0,none⟩=some (.int .i64 (n:Nat)):=hX.cell (by simp) (by first | assumption | (go_simp; done) | (simp; done));have kc1:w'.cell? ⟨w.heap.size,1,none⟩=some (.slice (some ⟨eb,0,none⟩) m cap):=hX.cell (by simp) (by first | assumption | (go_simp; done) | (simp; done));have kc2:w'.cell? ⟨w.heap.size,2,none⟩=some (mv):=hX.cell (by simp) (by first | assumption | (go_simp; done) | (simp; done));have kc3:w'.cell? ⟨wr.heap.size,0,none⟩=some (.int .i64 (pa:Nat)):=hX.cell (by simp) (by first | assumption | (go_simp; done) | (simp; done));have kc4:w'.cell? ⟨wr.heap.size,1,none⟩=some (.int .i64 (pb:Nat)):=hX.cell (by simp) (by first | assumption | (go_simp; done) | (simp; done));clear hdep ha0 hA;refine StepG.value (wanted_none rfl) rfl ?_ (hK _ hX);simp[go_sem, *]
    case y4v9 =>
     intro a' w' hA hdep hX K hK;obtain⟨r20,q20⟩:=dpv hdep ⟨5,.data⟩ (by simp) rfl rfl;obtain⟨r21,q21⟩:=dpv hdep ⟨6,.data⟩ (by simp) rfl rfl;obtain⟨r23,q23⟩:=dpv hdep ⟨8,.data⟩ (by simp) rfl rfl;clear hdep ha0 hA;refine StepG.call (wanted_none rfl) rfl ?_ ((HB.out _)) (fun w2 hb=>hK _ (hX.call hb));simp[go_sem, *]
    case y4v10 =>
     intro a' w' hA hdep hX K hK;obtain⟨r19,q19⟩:=dpv hdep ⟨4,.data⟩ (by simp) rfl rfl;obtain⟨r24,q24⟩:=dpv hdep ⟨9,.data⟩ (by simp) rfl rfl;clear hdep ha0 hA;refine StepG.value (wanted_none rfl) rfl ?_ (hK _ hX);simp[go_sem, *]
    intro w1 hXR;rw[ha0]; simp only[putL,Act.put,sA_,sZ_,sS_];clear ha0 hsz0;have B1:Below w.heap.size w w1:=hXR.below B0 (by omega) (by simp);have HR1:=Lib.hid ((hXR.block _ (blk_lt HR0.out) (by simp)).trans HR0.out);have d2':w1.cell? ⟨wr.heap.size,2,none⟩=some (.int .i64 1):=hXR.cell (by simp) d2;clear hXR g0 g1 g2 d0 d1 d2 HR0;go_wp2;exact⟨⟨k+1,by simp,by omega,by rw[HT.out]; simp,HR1.out,B1⟩,by simp[intOf]; omega⟩
  ·
   have hke:k=m:=by omega
   have hz:=blk_lt hR;have hte:es.take k=es:=List.take_of_length_le (by have:=HML.out; omega);rw[hte];clear hR;go_wp2
   go_ret
   exact⟨rfl,B⟩
open Go.RowKit Go.Shelf
/-- the tables for the lowest bit, as far as they are read -/
def BitTab6 (w:World):Prop:=∀t:Fin 6,w.cell? ⟨2,2 ^ t.val-1,none⟩=some (.int .u8 (t.val:Nat))
theorem BitTab6.below {w w':World} (h:BitTab6 w) (hb:Below w.heap.size w w'):BitTab6 w':=fun t=>keepc hb (h t)
theorem BitTab6.keep {w w':World} (h:BitTab6 w) (hb:w'.heap[(2:Nat)]?=w.heap[(2:Nat)]?):BitTab6 w':=fun t=>(World.cell?_of_block (a:=⟨2,2 ^ t.val-1,none⟩) hb).trans (h t)
/-- whether a set has a point -/
def hasb (s p:Nat):Bool:=s / 2 ^ p % 2 == 1
/-- the points of a set -/
def ptsN (s:Nat):List Nat:=(List.range 6).filter (hasb s)
def lowN (s:Nat):Nat:=(ptsN s).headD 0
def clr (s:Nat):Nat:=s-2 ^ lowN s
theorem low_facts {s:Nat} (hs:s < 64) (h0:s≠0):bits BinOp.and IntKind.u64 (s:Int) (IntKind.u64.wrap (-(s:Int)))=((2 ^ lowN s:Nat):Int)/\lowN s < 6/\bits BinOp.and IntKind.u64 (s:Int) ((s:Int)-1)=((clr s:Nat):Int)/\clr s < s/\ptsN s=lowN s :: ptsN (clr s):=by
 have h:=fin64 (p:=fun s=>s == 0 || decide (bits BinOp.and IntKind.u64 (s:Int) (IntKind.u64.wrap (-(s:Int)))=((2 ^ lowN s:Nat):Int)/\lowN s < 6/\bits BinOp.and IntKind.u64 (s:Int) ((s:Int)-1)=((clr s:Nat):Int)/\clr s < s/\ptsN s=lowN s :: ptsN (clr s))) (by kernel_rfl) hs;rcases Bool.or_eq_true _ _ ▸ h with h | h
 · exact absurd (by simpa using h) h0
 · exact of_decide_eq_true h
section
attribute [local go_sem ↓] Go.wp_at_zero Go.wp_at_succ
theorem trail64N (s:Nat) (hs:s < 64) (h0:s≠0) (w:World) (hb:BitTab6 w):Calls Tryz.prog 65 #[.int .u64 (s:Nat)] w fun e w'=>e=.returned (.int .i64 (lowN s:Nat))/\w=w':=by
 obtain⟨h1,h2,-,-,-⟩:=low_facts hs h0;obtain⟨t,ht⟩:∃t,lowN s=t:=⟨_,rfl⟩
 rw[ht]at h1 h2 ⊢;have hs1:0 < s:=by omega
 have c:=hb ⟨t,h2⟩;have HC:=Lib.hid c;clear ht hb c h0;rcases (by omega:t=0∨t=1∨t=2∨t=3∨t=4∨t=5) with rfl | rfl | rfl | rfl | rfl | rfl;all_goals
  have c0:=HC.out;simp only[Nat.reducePow,Nat.reduceSub]at c0 h1;clear HC;go_enter Tryz.func65,Tryz.ntmps65;go_wp2
  go_ret
  exact⟨rfl,rfl⟩
theorem trailN (s:Nat) (hs:s < 64) (h0:s≠0) (w:World) (hb:BitTab6 w):Calls Tryz.prog 43 #[.int .u64 (s:Nat)] w fun e w'=>e=.returned (.int .i64 (lowN s:Nat))/\w=w':=by
 go_enter Tryz.func43,Tryz.ntmps43;go_wp2_with fail;refine(trail64N s hs h0 w hb).mono ?_;rintro e w' ⟨rfl,rfl⟩;go_wp2
 go_ret
 exact⟨rfl,rfl⟩
theorem hasN (s p:Nat) (hs:s < 64) (hp:p < 64) (w:World):Calls Tryz.prog 45 #[.int .u64 (s:Nat),.int .i64 (p:Nat)] w fun e w'=>e=.returned (.bool (hasb s p))/\w=w':=by
 have hx:(s:Int) / 2 ^ p=((s / 2 ^ p:Nat):Int):=by rw[Int.natCast_ediv,Int.natCast_pow]; rfl
 have hlt:s / 2 ^ p < 64:=Nat.lt_of_le_of_lt (Nat.div_le_self _ _) hs;have HX:=Lib.hid hx;have HA:=Lib.hid (and1 hlt);clear hx hlt;go_enter Tryz.func45,Tryz.ntmps45;go_wp2;rw[HX.out,HA.out]
 go_ret
 refine⟨?_,rfl⟩;have e:(((s / 2 ^ p % 2:Nat):Int) == 1)=hasb s p:=by
  unfold hasb;rcases Nat.mod_two_eq_zero_or_one (s / 2 ^ p) with h | h <;> rw[h] <;> rfl
 exact congrArg (fun b=>Ending.returned (.bool b)) e
end
def cellN (w:World) (Bn:Nat):Nat:=match w.cell? ⟨Bn,0,none⟩ with | some (.int _ m)=>m.toNat | _=>0
theorem cellN_of {w:World} {Bn v:Nat} {T:TypeId} (h:w.heap[Bn]?=some (.cells #[.int .u64 (v:Nat)] T (0,0))):cellN w Bn=v:=by
 unfold cellN;rw[row1_0 h];simp
theorem pointsN_in (n:Nat) (hn:1<=n) (l Bn n₀ s:Nat) (hs:s < 64) (J:List Nat->World->Prop) (W:World) (hJc:∀s A v,J s A->J s (A.setCell ⟨Bn,0,none⟩ v))
  (hY:∀pre x W1,J pre W1->pre ++ [x] <+: ptsN s->YieldAt Fence.wide (n-1) Tryz.prog l #[.int .i64 ((x:Nat):Int)] W1 fun e W'=>e=.returned (.bool true)/\J (pre ++ [x]) W'/\W'.heap[Bn]?=W1.heap[Bn]?/\Below n₀ W1 W')
  (hB:W.heap[Bn]?=some (.cells #[.int .u64 (s:Nat)] 49 (0,0))) (hnB:n₀<=Bn) (hT:BitTab6 W) (hg:2 < n₀) (h0:J [] W) :
  CallsIn Fence.wide n Tryz.prog 42 #[.func (.yield l) #[] #[],.pointer (some ⟨Bn,0,none⟩)] W fun e W'=>(∃v,e=.returned v)/\J (ptsN s) W':=by
 refine callsIn_of_wp Tryz.func42 rfl trivial ?_ rfl;simp only[Tryz.ntmps42,List.size_toArray,List.length_cons,List.length_nil,Nat.reduceAdd,Nat.reduceSub,Array.replicate_succ,Array.replicate_zero,List.push_toArray,List.append_toArray,List.nil_append,List.cons_append]
 gi_wp2
 gi_loopw [] (fun wr=>∃v pre,v < 64/\ptsN s=pre ++ ptsN v/\wr.heap[Bn]?=some (.cells #[.int .u64 (v:Nat)] 49 (0,0))/\BitTab6 wr/\J pre wr) (fun wr=>cellN wr Bn)
 case atStart=>exact⟨s,[],hs,rfl,hB,hT,h0⟩
 case round =>
  obtain⟨v,pre,hv,hpre,hb,hT2,hJ2⟩:=hrel;clear hB hT h0
  by_cases hv0:v=0
  ·
   subst hv0;have c0:wr.cell? ⟨Bn,0,none⟩=some (.int .u64 0):=cell_of_row wr _ 0 _ _ _ hb;have hJ3:J (ptsN s) wr:=by rw[hpre,show ptsN 0 = [] from rfl,List.append_nil]; exact hJ2
   clear hY hb hpre
   gi_wp2
   go_end0
   first | exact⟨⟨_,rfl⟩,hJ3⟩ | exact hJ3
  ·
   obtain⟨-,f2,f3,f4,f5⟩:=low_facts hv hv0;have HTR:=Lib.hid (fun wx hx=>trailN v hv hv0 wx hx);obtain⟨x,hx⟩:∃x,lowN v=x:=⟨_,rfl⟩
   obtain⟨nv,hnv⟩:∃nv,clr v=nv:=⟨_,rfl⟩
   simp only[hx]at HTR;rw[hx]at f2 f5;rw[hnv]at f3 f4 f5;rw[f5]at hpre;have hv1:1<=v:=by omega
   have hxp:pre ++ [x] <+: ptsN s:=⟨ptsN nv,by rw[hpre]; simp⟩
   have hpre2:ptsN s=(pre ++ [x]) ++ ptsN nv:=by rw[hpre]; simp
   have HY:=Lib.hid hY;have HT:=Lib.hid hT2;have c0:wr.cell? ⟨Bn,0,none⟩=some (.int .u64 (v:Nat)):=cell_of_row wr _ 0 _ _ _ hb;have cf:=row_f hb;have HB:=Lib.hid hb;have HP:=Lib.hid hpre2;have HXP:=Lib.hid hxp;have H3:=Lib.hid f3;clear hY hb hx hnv f5 hpre hpre2 hxp f3 hT2
   gi_wp2_with fail
   refine⟨trivial,CallsIn.mono (callsIn_wide.2 (HTR.out _ HT.out)) ?_⟩;rintro e W2 ⟨rfl,rfl⟩;obtain⟨fn,tmps,assign,body,hy0,hR⟩:=HY.out pre x wr hJ2 HXP.out;have hy:(Instr.yield l #[.int .i64 (x:Nat)]).run Tryz.prog wr=.ok (.round l fn tmps assign body) wr:=hy0;clear hy0;have HRR:=Lib.hid hR;clear hR
   gi_wp2_with fail
   refine HRR.out.mono ?_;rintro e W3 ⟨rfl,hJ3,hb3,hk3⟩;have hB3:=hb3.trans HB.out;have c3:W3.cell? ⟨Bn,0,none⟩=some (.int .u64 (v:Nat)):=cell_of_row W3 _ 0 _ _ _ hB3;have cf3:=row_f hB3;have HB3:=Lib.hid hB3;have HT3:=Lib.hid (HT.out.keep (hk3.block _ hg));clear c0 cf hy hB3 hb3 hk3;have f3:=H3.out
   gi_wp2
   go_roundw
   case rel=>exact⟨nv,pre ++ [x],by omega,HP.out,(blk_setI 0 _ HB3.out).trans rfl,HT3.out.keep (heap_setCell_other _ _ _ _ (by show _≠Bn; omega)),hJc _ _ _ hJ3⟩
   case measure =>
    rw[cellN_of (v:=nv) ((blk_setI 0 _ HB3.out).trans rfl),cellN_of HB.out];omega
end Go.Proofs.YtaffkceklkdokaaGreatDoor
