/- Cells of up to six points that are those of a space. -/
import Derived.Test.YtaffkceklkdokaaGreatDoorTP
import Derived.Test.YtaffkceklkdokaaGreatDoorTD
import Derived.Sort.BigQuietIn
import Derived.Test.YtaffkceklkdokaaGreatDoorTW
set_option maxRecDepth 100000
set_option maxHeartbeats 4000000
namespace Go.Proofs.YtaffkceklkdokaaGreatDoor
open Go.RowKit Go.Shelf
attribute [local go_sem] Oper.semAt_some
/-- the marks of loops over iterators that are over -/
def Marks (n₀:Nat) (ds:List Deferred) (W:World):Prop:=∃Ds:List Nat,ds=Ds.map (fun D=>{ target:=.collected D,args:=#[] })/\Ds.Nodup/\∀D∈Ds,n₀<=D/\W.heap[D]?=some (.deferred (some []))
theorem Marks.nil {n₀:Nat} {W:World}:Marks n₀ [] W:=⟨[],rfl,by simp,by simp⟩
theorem Marks.keep {n₀:Nat} {ds:List Deferred} {W W':World} (h:Marks n₀ ds W) (hb:Below W.heap.size W W'):Marks n₀ ds W':=by
 obtain⟨Ds,h1,h2,h3⟩:=h;exact⟨Ds,h1,h2,fun D hD=>⟨(h3 D hD).1,(hb.block D (blk_lt (h3 D hD).2)).trans (h3 D hD).2⟩⟩
theorem Marks.others {n₀:Nat} {ds:List Deferred} {W W':World} (h:Marks n₀ ds W) (hb:KeepsOthers W W'):Marks n₀ ds W':=by
 obtain⟨Ds,h1,h2,h3⟩:=h;exact⟨Ds,h1,h2,fun D hD=>⟨(h3 D hD).1,hb.same D _ (h3 D hD).2 rfl⟩⟩
theorem Marks.cons {n₀ D:Nat} {ds:List Deferred} {W W':World} (h:Marks n₀ ds W) (hb:Below W.heap.size W W') (h0:n₀<=D) (hD:W.heap.size<=D) (hm:W'.heap[D]?=some (.deferred (some []))):Marks n₀ ({ target:=.collected D,args:=#[] } :: ds) W':=by
 obtain⟨Ds,h1,h2,h3⟩:=h;refine⟨D :: Ds,by rw[h1]; rfl,List.nodup_cons.2 ⟨fun hm=>by have:=blk_lt (h3 D hm).2; omega,h2⟩,fun E hE=>?_⟩;rcases List.mem_cons.1 hE with rfl | hE
 · exact⟨h0,hm⟩
 · exact⟨(h3 E hE).1,(hb.block E (blk_lt (h3 E hE).2)).trans (h3 E hE).2⟩
theorem leaves_marks {F:Fence} {m:Nat} {fn:Func} {tmps:Array Value} {R:Ending->World->Prop} {u:FrameMode} (w:World) (hu:u≠.run):∀(Ds:List Nat) (W:World),Ds.Nodup->(∀D∈Ds,w.heap.size<=D/\W.heap[D]?=some (.deferred (some []))) ->
  (∀W',Below w.heap.size W W'->(∀(k:Nat) (o:Obj),W.heap[k]?=some o->o.isCells=true->W'.heap[k]?=some o)->LeavesIn F m Tryz.prog fn tmps R [] u W') ->
  LeavesInM F m Tryz.prog fn tmps R (Ds.map (fun D=>{ target:=.collected D,args:=#[] })) u W
 | [],W,_,_,h=>h W (Below.refl _ W) fun _ _ h _=>h
 | D :: Ds,W,hn,hD,h=>by
  have hd:=hD D (.head _);have hb:Below w.heap.size W (W.putObj D (.deferred none)):=belowK_b (w:=w) (Nat.le_refl _) W D _ _ hd.1 hd.2 rfl rfl;have hne:∀E∈Ds,E≠D:=fun E hE e=>(List.nodup_cons.1 hn).1 (e ▸ hE);refine⟨hu,.inl ⟨D,_,rfl,run_takeDeferred hd.2,leaves_marks w hu Ds _ (List.nodup_cons.1 hn).2 (fun E hE=>⟨(hD E (.tail _ hE)).1,(World.putObj_heap_other (hne E hE)).trans (hD E (.tail _ hE)).2⟩) fun W' hb' hc=>h W' (hb.trans hb') fun k o ho hcells=>hc k o ((World.putObj_heap_other ?_).trans ho) hcells⟩⟩;rintro rfl;rw[hd.2]at ho;cases ho;cases hcells
theorem Marks.leave {F:Fence} {m:Nat} {fn:Func} {tmps:Array Value} {R:Ending->World->Prop} {u:FrameMode} {w W:World} {ds:List Deferred} (h:Marks w.heap.size ds W) (hu:u≠.run) (hr:∀W',Below w.heap.size W W'->(∀(k:Nat) (o:Obj),W.heap[k]?=some o->o.isCells=true->W'.heap[k]?=some o)->LeavesIn F m Tryz.prog fn tmps R [] u W') :
  LeavesInM F m Tryz.prog fn tmps R ds u W:=by
 obtain⟨Ds,h1,h2,h3⟩:=h;rw[h1];exact leaves_marks w hu Ds W h2 h3 hr
/-- a space's value -/
def spc (n:Nat) (c:Nat->Nat):Array Value:=#[.int .i64 (n:Nat),.int .u64 (c 0:Nat),.int .u64 (c 1:Nat),.int .u64 (c 2:Nat),.int .u64 (c 3:Nat),.int .u64 (c 4:Nat),.int .u64 (c 5:Nat)]
theorem spc_at (n:Nat) (c:Nat->Nat) {k:Nat} (hk:k < 6):(spc n c)[1+k]?=some (.int .u64 (c k:Nat)):=by
 rcases (by omega:k=0∨k=1∨k=2∨k=3∨k=4∨k=5) with rfl | rfl | rfl | rfl | rfl | rfl <;> rfl
theorem spc_cell {W:World} {b n:Nat} {c:Nat->Nat} {T:TypeId} (h:W.heap[b]?=some (.cells (spc n c) T (0,0))) {k:Nat} (hk:k < 6):W.cell? ⟨b,1+k,none⟩=some (.int .u64 (c k:Nat)):=(cell_of_row W b (1+k) _ _ _ h).trans (spc_at n c hk)
/-- the cells are those of a space -/
def IsSp (n:Nat) (c:Nat->Nat):Prop:=∀p,p < n->c p < 64/\hasb (c p) p=true/\∀q∈ptsN (c p),q < n/\bits BinOp.andNot IntKind.u64 (c q:Nat) (c p:Nat)=0
theorem isSpace_gen (n:Nat) (c:Nat->Nat) (hn:1<=n/\n<=6) (hsp:IsSp n c) (w:World) (hT:BitTab6 w) :
  Calls Tryz.prog 40 #[.agg (spc n c)] w fun e w'=>e=.returned (.bool true)/\Below w.heap.size w w':=by
 have hg:=block_lt_of_cell (hT 0);dsimp only at hg;have hmix:Tryz.prog.follows .mixedOrders=true:=by kernel_rfl
 have HSP:=Lib.hid hsp;have HT:=Lib.hid hT;clear hsp hT;obtain⟨R,hR⟩:∃R,spc n c=R:=⟨_,rfl⟩
 have hRl:R=#[.int .i64 (n:Nat),.int .u64 (c 0:Nat),.int .u64 (c 1:Nat),.int .u64 (c 2:Nat),.int .u64 (c 3:Nat),.int .u64 (c 4:Nat),.int .u64 (c 5:Nat)]:=hR.symm;rw[hR];subst hRl;have HRR:=Lib.hid hR;clear hR;refine(callsIn_wide (n:=9)).1 ?_;refine callsIn_of_wp_marks Tryz.func40 rfl trivial ?_ rfl;simp only[Tryz.ntmps40,List.size_toArray,List.length_cons,List.length_nil,Nat.reduceAdd,Nat.reduceSub,Array.replicate_succ,Array.replicate_zero,List.push_toArray,List.append_toArray,List.nil_append,List.cons_append]
 gi_upto_region 1 with fail
 obtain⟨W0,h0⟩:∃W0,W0=((w.alloc (.cells (spc n c) 52)).alloc (.cells #[.bool false] 4)):=⟨_,rfl⟩
 have h0':=h0;unfold spc at h0';rw[<-h0'];have X0:W0.heap[w.heap.size]?=some (.cells (spc n c) 52 (0,0)):=by rw[h0]; exact(by repeat (first | assumption | (with_reducible apply blk_set2) | (with_reducible apply blk_set1) | (with_reducible refine blk_far2 ?_ ?_; (first | omega | (simp; done) | (simp; omega))) | (with_reducible refine blk_far1 ?_ ?_; (first | omega | (simp; done) | (simp; omega))) | (with_reducible refine blk_new' _ _ ?_; (first | omega | (simp; done) | (simp; omega))) | (with_reducible refine blk_old ?_) | (with_reducible refine blk_drew ?_)))
 have R0:W0.heap[w.heap.size+1]?=some (.cells #[.bool false] 4 (0,0)):=by rw[h0]; exact(by repeat (first | assumption | (with_reducible apply blk_set2) | (with_reducible apply blk_set1) | (with_reducible refine blk_far2 ?_ ?_; (first | omega | (simp; done) | (simp; omega))) | (with_reducible refine blk_far1 ?_ ?_; (first | omega | (simp; done) | (simp; omega))) | (with_reducible refine blk_new' _ _ ?_; (first | omega | (simp; done) | (simp; omega))) | (with_reducible refine blk_old ?_) | (with_reducible refine blk_drew ?_)))
 have B0:Below w.heap.size w W0:=by rw[h0]; exact(by repeat (first | exact Below.refl _ _ | exact Nat.le_refl _ | refine Below.alloc ?_ ?_ _ | refine Below.setCell ?_ ?_ _ | refine Below.drew ?_ | refine bl_drewN ?_ _ | (assumption) | refine bl_call ?_ (by assumption) ?_ | omega | (simp <;> omega)))
 have x0:W0.cell? ⟨w.heap.size,0,none⟩=some (.int .i64 (n:Nat)):=cell_of_row W0 _ 0 _ _ _ X0;clear h0 h0';have HX0:=Lib.hid X0;have HR0:=Lib.hid R0;clear X0 R0
 gi_wp2_with fail
 refine wpIn_loop (fun a' W=>∃(k:Nat) (ds:List Deferred) (u3 u4 u8 u9 u10 u11 u12 u13 u14 u15 u16 u17 u18 u19 u20 u21 u22 u23 u24 u25 u26 u27 u28 u29 u30 u31 u32 u33:Value),(k<=n/\Marks w.heap.size ds W/\W.heap[w.heap.size]?=some (.cells (spc n c) 52 (0,0))/\W.heap[w.heap.size+1]?=some (.cells #[.bool false] 4 (0,0))/\Below w.heap.size w W)/\a' = { tmps:=#[.agg #[.int .i64 (n:Nat),.int .u64 (c 0:Nat),.int .u64 (c 1:Nat),.int .u64 (c 2:Nat),.int .u64 (c 3:Nat),.int .u64 (c 4:Nat),.int .u64 (c 5:Nat)],.pointer (some ⟨w.heap.size,0,none⟩),.pointer (some ⟨w.heap.size+1,0,none⟩),u3,u4,.pointer (some ⟨w.heap.size,0,none⟩),.int .i64 (n:Nat),.int .i64 (k:Nat),u8,u9,u10,u11,u12,u13,u14,u15,u16,u17,u18,u19,u20,u21,u22,u23,u24,u25,u26,u27,u28,u29,u30,u31,u32,u33],defers:=ds }) (fun a' _=>n-(intOf (a'.tmps.getD 7 undef)).toNat) ?_ ?_
 ·
  refine⟨0,[],?_⟩
  iterate 28 apply Exists.intro
  exact⟨⟨Nat.zero_le _,Marks.nil,HX0.out,HR0.out,B0⟩,rfl⟩
 ·
  clear HX0 HR0 B0 x0;rintro a W ⟨k,ds,u3,u4,u8,u9,u10,u11,u12,u13,u14,u15,u16,u17,u18,u19,u20,u21,u22,u23,u24,u25,u26,u27,u28,u29,u30,u31,u32,u33,⟨hk,hM,hX,hR,B⟩,rfl⟩;have x0:W.cell? ⟨w.heap.size,0,none⟩=some (.int .i64 (n:Nat)):=cell_of_row W _ 0 _ _ _ hX
  by_cases hkn:k < n
  ·
   have xk:W.cell? ⟨w.heap.size,1+k,none⟩=some (.int .u64 (c k:Nat)):=spc_cell hX (by omega);obtain⟨hck,hhas,hpts⟩:=HSP.out k hkn;have HM:=Lib.hid hM;have HX:=Lib.hid hX;have HR:=Lib.hid hR;have HPT:=Lib.hid hpts;have HHAS:=Lib.hid hhas;have hleW:w.heap.size+2<=W.heap.size:=blk_lt hR;clear hM hX hR hpts hhas
   gi_upto_region 4 with fail
   obtain⟨Wb,hb⟩:∃Wb,Wb=(W.alloc (.cells #[.int .i64 (k:Nat)] 3)):=⟨_,rfl⟩
   rw[<-hb];have Xb:Wb.heap[w.heap.size]?=some (.cells (spc n c) 52 (0,0)):=by rw[hb]; exact blk_old HX.out
   have Pb:Wb.heap[W.heap.size]?=some (.cells #[.int .i64 (k:Nat)] 3 (0,0)):=by rw[hb]; exact blk_new _ _
   clear x0 xk;have x0:Wb.cell? ⟨w.heap.size,0,none⟩=some (.int .i64 (n:Nat)):=cell_of_row Wb _ 0 _ _ _ Xb;have xk:Wb.cell? ⟨w.heap.size,1+k,none⟩=some (.int .u64 (c k:Nat)):=spc_cell Xb (by omega);have p0:=row1_0 Pb;have HB:=Lib.hid hb;clear Xb Pb hb;refine wpIn_region_quiet_lit rfl (by kernel_rfl) (by kernel_rfl) ?_
   iterate 5 (gi_big_quiet_step (fail))
   refine BigFrame.wpQuietIn_want (fun _ _ _ _=>trivial) rfl ?_;intro K hK
   gi_big_quiet_op
   gi_big_quiet_call ((exact CallsIn.quiet_of_same (CallsIn.mono (callsIn_wide.2 (hasN (c k) k hck (by omega) _)) (by rintro e w' ⟨rfl,rfl⟩; exact⟨rfl,rfl⟩))))
   rw[HHAS.out]
   gi_big_quiet_step (fail)
   refine wpQuietIn_nil ?_;intro _ hw';obtain⟨nq,rfl⟩:=hw';obtain⟨W1,h1⟩:∃W1,W1=(Wb.drewN nq):=⟨_,rfl⟩
   rw[<-h1];have X1:W1.heap[w.heap.size]?=some (.cells (spc n c) 52 (0,0)):=by rw[h1,HB.out]; exact blk_old HX.out
   have R1:W1.heap[w.heap.size+1]?=some (.cells #[.bool false] 4 (0,0)):=by rw[h1,HB.out]; exact blk_old HR.out
   have P1:W1.heap[W.heap.size]?=some (.cells #[.int .i64 (k:Nat)] 3 (0,0)):=by rw[h1,HB.out]; exact blk_new _ _
   have BWW:Below W.heap.size W W1:=by rw[h1,HB.out]; have b:=(Below.refl _ W).alloc (Nat.le_refl _) (.cells #[.int .i64 (k:Nat)] 3); exact⟨b.os,b.tape,b.output,b.size,b.block⟩
   have B1:Below w.heap.size w W1:=B.trans (BWW.mono (by omega));have hsz1:W.heap.size < W1.heap.size:=blk_lt P1;clear x0 xk p0 HX HR h1 HB;have x0:W1.cell? ⟨w.heap.size,0,none⟩=some (.int .i64 (n:Nat)):=cell_of_row W1 _ 0 _ _ _ X1;have xk:W1.cell? ⟨w.heap.size,1+k,none⟩=some (.int .u64 (c k:Nat)):=spc_cell X1 (by omega);have p0:=row1_0 P1;have HX1:=Lib.hid X1;have HR1:=Lib.hid R1;have HP1:=Lib.hid P1;clear X1 R1 P1
   gi_wp2_with fail
   refine⟨trivial,CallsIn.mono (callsIn_wide.2 (points_any (c k) _)) ?_⟩;rintro e w' ⟨rfl,hw'⟩;rw[hw'];clear hw'
   gi_wp2_with fail
   obtain⟨Wc,hc⟩:∃Wc,Wc=(W1.alloc (.cells #[.int .u64 (c k:Nat)] 49)):=⟨_,rfl⟩
   rw[<-hc];have hnc:Wc.heap[W1.heap.size]?=some (.cells #[.int .u64 (c k:Nat)] 49 (0,0)):=by rw[hc]; exact blk_new _ _
   have Bc:Below w.heap.size w Wc:=by rw[hc]; exact B1.alloc (by omega) _
   have B1c:Below W1.heap.size W1 Wc:=by rw[hc]; exact(Below.refl _ _).alloc (Nat.le_refl _) _
   have hszc:W1.heap.size < Wc.heap.size:=blk_lt hnc;have hTc:=HT.out.below Bc;clear hc;refine rangeFunc_cell (α:=Nat) (Bn:=W1.heap.size) (gf:=42) (lb:=#[.pointer (some ⟨W1.heap.size,0,none⟩)]) (encs:=fun k=>#[.int .i64 ((k:Nat):Int)]) (xs:=ptsN (c k)) w.heap.size (by omega) rfl (by omega) rfl trivial (enters_of Tryz.func42 (by kernel_rfl) rfl) (by omega) (fun x=>rfl)
    (fun l J W hJc hY hB hj=>pointsN_in 8 (by omega) l _ w.heap.size (c k) hck J W hJc hY ((hB.block _ (by omega)).trans hnc) (by omega) (hTc.keep (hB.block _ (by omega))) hg hj)
    (fun _ W=>Below W1.heap.size W1 W) (ownFrom_below (Nat.le_refl _) (by omega))
    (fun s A v h=>h.setCell (p:=⟨W1.heap.size,0,none⟩) (Nat.le_refl _) v)
    B1c
    (fun x=>{ tmps:=#[.agg #[.int .i64 (n:Nat),.int .u64 (c 0:Nat),.int .u64 (c 1:Nat),.int .u64 (c 2:Nat),.int .u64 (c 3:Nat),.int .u64 (c 4:Nat),.int .u64 (c 5:Nat)],.pointer (some ⟨w.heap.size,0,none⟩),.pointer (some ⟨w.heap.size+1,0,none⟩),.pointer (some ⟨W.heap.size,0,none⟩),.int .i64 ((x:Nat):Int),.pointer (some ⟨w.heap.size,0,none⟩),.int .i64 (n:Nat),.int .i64 (k:Nat),.bool true,.int .i64 (k:Nat),.int .i64 (k:Nat),.pointer (some ⟨w.heap.size,1,none⟩),.pointer (some ⟨w.heap.size,1+k,none⟩),.int .u64 (c k:Nat),.int .i64 (k:Nat),.bool true,.bool false,.int .i64 (k:Nat),.pointer (some ⟨w.heap.size,1,none⟩),.pointer (some ⟨w.heap.size,1+k,none⟩),.int .u64 (c k:Nat),.func (.func 42) #[] #[.pointer (some ⟨W1.heap.size,0,none⟩)],.int .i64 ((x:Nat):Int),u23,u24,u25,u26,u27,u28,u29,u30,u31,u32,u33],defers:=[] })
    ?assign ?body ?done
   case assign =>
    intro l x W K hK
    gi_wp2
    exact hK
   case body =>
    rintro l pre x W2 BW hpre;obtain⟨hxn,hand⟩:=HPT.out x (hpre.subset (List.mem_append_right _ (List.mem_singleton.2 rfl):x∈pre ++ [x]));have O1:=(BW.block _ (blk_lt HX1.out)).trans HX1.out;have S1:=(BW.block _ (blk_lt HP1.out)).trans HP1.out;have y0:W2.cell? ⟨w.heap.size,1+x,none⟩=some (.int .u64 (c x:Nat)):=spc_cell O1 (by omega);have y1:W2.cell? ⟨w.heap.size,1+k,none⟩=some (.int .u64 (c k:Nat)):=spc_cell O1 (by omega);have q0:=row1_0 S1;have b6x:¬(6:Int)<=(x:Int):=by omega
    have b6k:¬(6:Int)<=(k:Int):=by omega
    clear O1 S1 x0 xk p0 HPT HHAS
    gi_wp2
    refine with_actIn fun a0 ha0=>?_;have hsz0:a0.tmps.size=34:=by rw[ha0]; rfl
    refine wpIn_region_vals (by kernel_rfl) (by kernel_rfl) [(23,.int .i64 (x:Nat)),(24,.pointer (some ⟨w.heap.size,1,none⟩)),(25,.pointer (some ⟨w.heap.size,1+x,none⟩)),(26,.int .u64 (c x:Nat)),(27,.int .i64 (k:Nat)),(28,.pointer (some ⟨w.heap.size,1,none⟩)),(29,.pointer (some ⟨w.heap.size,1+k,none⟩)),(30,.int .u64 (c k:Nat)),(31,.int .u64 0),(32,.bool false)] rfl (by show([23,24,25,26,27,28,29,30,31,32]:List Nat).Nodup; decide) _ hsz0 (by kernel_rfl) ⟨⟨rfl,rfl,?y1v0⟩,⟨rfl,rfl,?y1v1⟩,⟨rfl,rfl,?y1v2⟩,⟨rfl,rfl,?y1v3⟩,⟨rfl,rfl,?y1v4⟩,⟨rfl,rfl,?y1v5⟩,⟨rfl,rfl,?y1v6⟩,⟨rfl,rfl,?y1v7⟩,⟨rfl,rfl,?y1v8⟩,⟨rfl,rfl,?y1v9⟩,trivial⟩ ?y1done
    case y1v0 =>
     intro a' hA hdep;obtain⟨r4,q4⟩:=dpi hA 4 (.int .i64 (x:Nat)) (by kernel_rfl) (by rw[ha0]; rfl);clear hdep ha0 hA;refine⟨about_plain (fun _ h=>nomatch h),?_⟩;simp[go_sem, *]
    case y1v1 =>
     intro a' hA hdep;obtain⟨r1,q1⟩:=dpi hA 1 (.pointer (some ⟨w.heap.size,0,none⟩)) (by kernel_rfl) (by rw[ha0]; rfl);clear hdep ha0 hA;refine⟨about_plain (fun _ h=>nomatch h),?_⟩;simp[go_sem, *]
    case y1v2 =>
     intro a' hA hdep;obtain⟨r24,q24⟩:=dpv hdep ⟨1,.data⟩ (by simp) rfl rfl;obtain⟨r23,q23⟩:=dpv hdep ⟨0,.data⟩ (by simp) rfl rfl;clear hdep ha0 hA;refine⟨about_plain (fun _ h=>nomatch h),?_⟩;simp[go_sem, *]
    case y1v3 =>
     intro a' hA hdep;obtain⟨r25,q25⟩:=dpv hdep ⟨2,.data⟩ (by simp) rfl rfl;clear hdep ha0 hA;refine⟨about_plain (fun _ h=>nomatch h),?_⟩;simp[go_sem, *]
    case y1v4 =>
     intro a' hA hdep;obtain⟨r3,q3⟩:=dpi hA 3 (.pointer (some ⟨W.heap.size,0,none⟩)) (by kernel_rfl) (by rw[ha0]; rfl);clear hdep ha0 hA;refine⟨about_plain (fun _ h=>nomatch h),?_⟩;simp[go_sem, *]
    case y1v5 =>
     intro a' hA hdep;obtain⟨r1,q1⟩:=dpi hA 1 (.pointer (some ⟨w.heap.size,0,none⟩)) (by kernel_rfl) (by rw[ha0]; rfl);clear hdep ha0 hA;refine⟨about_plain (fun _ h=>nomatch h),?_⟩;simp[go_sem, *]
    case y1v6 =>
     intro a' hA hdep;obtain⟨r28,q28⟩:=dpv hdep ⟨5,.data⟩ (by simp) rfl rfl;obtain⟨r27,q27⟩:=dpv hdep ⟨4,.data⟩ (by simp) rfl rfl;clear hdep ha0 hA;refine⟨about_plain (fun _ h=>nomatch h),?_⟩;simp[go_sem, *]
    case y1v7 =>
     intro a' hA hdep;obtain⟨r29,q29⟩:=dpv hdep ⟨6,.data⟩ (by simp) rfl rfl;clear hdep ha0 hA;refine⟨about_plain (fun _ h=>nomatch h),?_⟩;simp[go_sem, *]
    case y1v8 =>
     intro a' hA hdep;obtain⟨r26,q26⟩:=dpv hdep ⟨3,.data⟩ (by simp) rfl rfl;obtain⟨r30,q30⟩:=dpv hdep ⟨7,.data⟩ (by simp) rfl rfl;clear hdep ha0 hA;refine⟨about_plain (fun _ h=>nomatch h),?_⟩;simp[go_sem, *]
    case y1v9 =>
     intro a' hA hdep;obtain⟨r31,q31⟩:=dpv hdep ⟨8,.data⟩ (by simp) rfl rfl;clear hdep ha0 hA;refine⟨about_plain (fun _ h=>nomatch h),?_⟩;simp[go_sem, *]
    rw[ha0]; simp only[putL,Act.put,sA_,sZ_,sS_];clear ha0 hsz0
    gi_wp2
    exact⟨(KeepsOthers.drew _).from _,rfl,(Below.refl _ W2).drew,BW.drew⟩
   case done =>
    rintro D W2 hD BW2 hK;have X2:=(BW2.block _ (blk_lt HX1.out)).trans HX1.out;have R2:=(BW2.block _ (blk_lt HR1.out)).trans HR1.out;have B2:Below w.heap.size w W2:=B1.trans (BW2.mono (by omega));have M2:=HM.out.cons (BWW.trans (BW2.mono (by omega))) (by omega) (by omega) hK;have HX2:=Lib.hid X2;have HR2:=Lib.hid R2;have HM2:=Lib.hid M2;have HB2:=Lib.hid B2;clear HX1 HR1 HP1 HM X2 R2 B2 M2 hK BW2 hTc hnc Bc B1c BWW B1 x0 xk p0 B
    gi_wp2
    refine⟨⟨k+1,{ target:=.collected D,args:=#[] } :: ds,?_⟩,?_⟩
    iterate 28 apply Exists.intro
    exact⟨⟨by omega,HM2.out,HX2.out,HR2.out,HB2.out⟩,rfl⟩;simp[intOf];omega
  ·
   have hke:k=n:=by omega
   have r0:=row1_0 hR;have rf:=row_f hR;have hM2:=hM.others (KeepsOthers.setCell W ⟨w.heap.size+1,0,none⟩ (.bool true));have hR2:(W.setCell ⟨w.heap.size+1,0,none⟩ (.bool true)).heap[w.heap.size+1]?=some (.cells #[.bool true] 4 (0,0)):=(blk_setI 0 _ hR).trans rfl;have hB2:=B.setCell (p:=⟨w.heap.size+1,0,none⟩) (by show w.heap.size<=w.heap.size+1; omega) (.bool true);have HM2:=Lib.hid hM2;have HR2:=Lib.hid hR2;have HB2:=Lib.hid hB2;clear hM hX hR B hM2 hR2 hB2
   gi_wp2
   refine HM2.out.leave (by simp) ?_;intro W' hb' hc';have d:=row1_0 (hc' _ _ HR2.out rfl);exact⟨.bool true,by simp[results,Tryz.results40,go_sem,d],rfl,HB2.out.trans hb'⟩
end Go.Proofs.YtaffkceklkdokaaGreatDoor
