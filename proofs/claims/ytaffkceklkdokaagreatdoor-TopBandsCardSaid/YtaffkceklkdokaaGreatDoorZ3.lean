/- insert adds a place to a shape. -/
import Derived.Test.YtaffkceklkdokaaGreatDoorZ2
import Derived.Test.YtaffkceklkdokaaGreatDoorZ1
import Derived.Carry
set_option maxRecDepth 100000
set_option maxHeartbeats 8000000
namespace Go.Proofs.YtaffkceklkdokaaGreatDoor
open Go.RowKit Go.ChangeMaps
attribute [local go_sem ↓] Go.wp_at_zero Go.wp_at_succ
theorem BelX.here (bs:List Nat) (w:World):BelX bs w w:=⟨rfl,rfl,rfl,Nat.le_refl _,fun _ _ _=>rfl⟩
theorem Rep.iface {T:Ty} {k:Nat} {w:World} {v:Value} {m:RK.S} {F:Nat->Prop} (h:Rep T k w v m F):∃t u,v=.iface t u:=by
 rcases h.cases with ⟨-,rfl⟩ | ⟨a,b,-,-,⟨-,rfl⟩ | ⟨g,o,c,d,rfl,-⟩⟩
 · exact⟨_,_,rfl⟩
 · exact⟨_,_,rfl⟩
 · exact⟨_,_,rfl⟩
/-- what insert leaves -/
def InsPost (k:Nat) (m:RK.S) (F:Nat->Prop) (x:Nat) (w:World) (e:Ending) (w':World):Prop :=
 ∃v' F',e=.returned v'/\Rep ty k w' v' (RK.ins m x) F'/\BelP F w w'/\∀c,F' c->F c∨w.heap.size<=c
theorem ins_emp {m:RK.S} (he:RK.Emp m) (x y:Nat):RK.ins m x y=true↔y=x:=by
 rw[RK.ins_iff];constructor
 ·
  rintro (h | h)
  · exact h
  · rw[he y]at h; cases h
 · exact .inl
theorem rep_pair_one {w:World} {m:RK.S} (he:RK.Emp m) {x:Nat} (hx:x < RK.R 0):Rep ty 0 w (vP ty x x) (RK.ins m x) (fun _=>False):=by
 refine⟨fun y hy=>?_,fun _ h=>h,.inr ⟨x,x,⟨(ins_emp he x x).2 rfl,fun y hy=>?_⟩,⟨(ins_emp he x x).2 rfl,fun y hy=>?_⟩,rfl⟩⟩
 · rw[(ins_emp he x y).1 hy]; exact hx
 · rw[(ins_emp he x y).1 hy]; exact Nat.le_refl _
 · rw[(ins_emp he x y).1 hy]; exact Nat.le_refl _
theorem rep_pair_ins {w:World} {m:RK.S} (hs:RK.Supp 0 m) {a b x:Nat} (ha:RK.IsMin m a) (hb:RK.IsMax m b) (hx:x < RK.R 0):Rep ty 0 w (vP ty (min a x) (max b x)) (RK.ins m x) (fun _=>False):=by
 refine⟨RK.ins_supp hs hx,fun _ h=>h,.inr ⟨min a x,max b x,⟨?_,fun y hy=>?_⟩,RK.ins_max hb,rfl⟩⟩
 ·
  rw[RK.ins_iff];rcases Nat.le_total a x with h | h
  · right; rw[Nat.min_eq_left h]; exact ha.1
  · left; omega
 ·
  rcases (RK.ins_iff _ _ _).1 hy with rfl | h
  · omega
  · have:=ha.2 y h; omega
theorem insert_any:∀(k:Nat) (v:Value) (m:RK.S) (F:Nat->Prop) (x:Nat) (w:World),k<=3->Rep ty k w v m F->x < RK.R k->m x=false ->
  Calls Tryz.prog 97 #[v,.int .i64 (k:Int),.int .i64 x] w (InsPost k m F x w):=by
 intro k
 induction k with
 | zero =>
  intro v m F x w hk h hx hm;have t1:=ta_pe;have t2:=ta_pp;have t4:=ta_te;obtain⟨hs,hF,⟨he,rfl⟩ | ⟨a,b,ha,hb,rfl⟩⟩:=h
  ·
   have HR:=Lib.hid (fun wx=>rep_pair_one (w:=wx) he hx);clear he hs hF;unfold vE;go_enter Tryz.func97,Tryz.ntmps97;go_wp2_with fail
   go_ret
   exact⟨_,fun _=>False,rfl,HR.out _,BelP.refl _ _,fun _ h=>False.elim h⟩
  ·
   have hR:=fun wx=>rep_pair_ins (w:=wx) hs ha hb hx;have hxa:x≠a:=fun e=>by rw[e,ha.1]at hm; cases hm
   have hxb:x≠b:=fun e=>by rw[e,hb.1]at hm; cases hm
   clear ha hb hs hF hm hx;unfold vP;rcases Nat.lt_or_gt_of_ne hxa with h1 | h1
   ·
    rw[Nat.min_eq_right (by omega)]at hR;rcases Nat.lt_or_gt_of_ne hxb with h2 | h2
    ·
     rw[Nat.max_eq_left (by omega)]at hR;have HR:=Lib.hid hR;clear hR;go_enter Tryz.func97,Tryz.ntmps97;go_wp2_with fail
     go_ret
     exact⟨_,fun _=>False,rfl,HR.out _,BelP.mono (BelP.ofBelow (by repeat (first | exact Below.refl _ _ | exact Nat.le_refl _ | refine Below.alloc ?_ ?_ _ | refine Below.setCell ?_ ?_ _ | refine Below.drew ?_ | refine bl_drewN ?_ _ | (assumption) | refine bl_call ?_ (by assumption) ?_ | omega | (simp <;> omega)))) (fun _ _ h=>False.elim h),fun _ h=>False.elim h⟩
    ·
     rw[Nat.max_eq_right (by omega)]at hR;have HR:=Lib.hid hR;clear hR;go_enter Tryz.func97,Tryz.ntmps97;go_wp2_with fail
     go_ret
     exact⟨_,fun _=>False,rfl,HR.out _,BelP.mono (BelP.ofBelow (by repeat (first | exact Below.refl _ _ | exact Nat.le_refl _ | refine Below.alloc ?_ ?_ _ | refine Below.setCell ?_ ?_ _ | refine Below.drew ?_ | refine bl_drewN ?_ _ | (assumption) | refine bl_call ?_ (by assumption) ?_ | omega | (simp <;> omega)))) (fun _ _ h=>False.elim h),fun _ h=>False.elim h⟩
   ·
    rw[Nat.min_eq_left (by omega)]at hR;rcases Nat.lt_or_gt_of_ne hxb with h2 | h2
    ·
     rw[Nat.max_eq_left (by omega)]at hR;have HR:=Lib.hid hR;clear hR;go_enter Tryz.func97,Tryz.ntmps97;go_wp2_with fail
     go_ret
     exact⟨_,fun _=>False,rfl,HR.out _,BelP.mono (BelP.ofBelow (by repeat (first | exact Below.refl _ _ | exact Nat.le_refl _ | refine Below.alloc ?_ ?_ _ | refine Below.setCell ?_ ?_ _ | refine Below.drew ?_ | refine bl_drewN ?_ _ | (assumption) | refine bl_call ?_ (by assumption) ?_ | omega | (simp <;> omega)))) (fun _ _ h=>False.elim h),fun _ h=>False.elim h⟩
    ·
     rw[Nat.max_eq_right (by omega)]at hR;have HR:=Lib.hid hR;clear hR;go_enter Tryz.func97,Tryz.ntmps97;go_wp2_with fail
     go_ret
     exact⟨_,fun _=>False,rfl,HR.out _,BelP.mono (BelP.ofBelow (by repeat (first | exact Below.refl _ _ | exact Nat.le_refl _ | refine Below.alloc ?_ ?_ _ | refine Below.setCell ?_ ?_ _ | refine Below.drew ?_ | refine bl_drewN ?_ _ | (assumption) | refine bl_call ?_ (by assumption) ?_ | omega | (simp <;> omega)))) (fun _ _ h=>False.elim h),fun _ h=>False.elim h⟩
 | succ k ih =>
  intro v m F x w hk h hx hm;have t1:=ta_pe;have t3:=ta_pt;have t4:=ta_te;have t5:=ta_tt;have hmm:=@run_makeMap Tryz.prog;obtain⟨hs,⟨he,rfl,hF⟩ | ⟨a,b,g,bm,sv,Fs,sp,Fp,ha,hb,rfl,hg,hmap,hsv,hsp,hFp,hap,hF⟩⟩:=h
  ·
   have HR:=Lib.hid (fun wx g bm h1 h2 h3=>rep_one (T:=ty) (k:=k) (w:=wx) (g:=g) (bm:=bm) (ins_emp he x) hx h1 h2 h3);clear he hs ih hF hm hx;unfold vE;go_enter Tryz.func97,Tryz.ntmps97;go_wp2_with fail
   go_ret
   have hb1:((w.alloc (.map #[] 0)).alloc (.cells #[.int .i64 x,.int .i64 x,.int .i64 ((k:Int)+1),.iface 154 (.agg #[]),.map (some w.heap.size)] 168)).heap[w.heap.size]?=(w.alloc (.map #[] 0)).heap[w.heap.size]? :=
    (blk_old (blk_new w _)).trans (blk_new w _).symm
   refine⟨_,fun c=>c=w.heap.size+1∨c=w.heap.size,rfl,HR.out _ _ _ (by omega) (blk_new' _ _ (by simp)) ((mapIs_new w).of_block hb1),BelP.mono (BelP.ofBelow (by repeat (first | exact Below.refl _ _ | exact Nat.le_refl _ | refine Below.alloc ?_ ?_ _ | refine Below.setCell ?_ ?_ _ | refine Below.drew ?_ | refine bl_drewN ?_ _ | (assumption) | refine bl_call ?_ (by assumption) ?_ | omega | (simp <;> omega)))) (fun _ _ h=>False.elim h),fun c h=>.inr ?_⟩;omega
  ·
   have hgs:=blk_lt hg;have hbs:=hmap.lt;have hab:a<=b:=ha.2 b hb.1;have hxa':x≠a:=fun e=>by rw[e,ha.1]at hm; cases hm
   have hxb':x≠b:=fun e=>by rw[e,hb.1]at hm; cases hm
   have hn:=RK.ins_supp hs hx;have hmax:=RK.ins_max hb (x:=x);obtain⟨c0,c1,-⟩:=row5 hg;have fz:=row_f hg
   by_cases hxa:x < a
   ·
    obtain⟨hmin,hset⟩:=RK.ins_low ha hxa;rw[Nat.max_eq_left (by omega)]at hmax;have hy:=hs a ha.1;have HMIN:=Lib.hid hmin;have HSET:=Lib.hid hset;have HMAX:=Lib.hid hmax;unfold vT;go_enter Tryz.func97,Tryz.ntmps97;go_upto_region 10 with fail;obtain⟨w1,h1⟩:∃wx:World,wx=(w.setCell ⟨g,0,none⟩ (.int .i64 x)).setCell ⟨g,1,none⟩ (.int .i64 b):=⟨_,rfl⟩
    rw[<-h1];have hg1:w1.heap[g]?=some (.cells #[.int .i64 x,.int .i64 b,.int .i64 ((k:Int)+1),sv,.map (some bm)] 168 (0,0)):=by rw[h1]; simp[World.setCell,Array.getElem?_modify,hg]
    have hX1:BelX [g] w w1:=by rw[h1]; exact((BelX.here [g] w).setOld (p:=⟨g,0,none⟩) (by simp) _).setOld (p:=⟨g,1,none⟩) (by simp) _
    have hM1:MapIs w1 bm (spotsF k m a sp):=hmap.of_block (hX1.block bm hbs (by simp; exact fun e=>hap.1 e.symm));have hbs1:=hM1.lt;have hgs1:=blk_lt hg1;clear h1 c0 c1 fz;obtain⟨c0,c1,c2,c3,c4⟩:=row5 hg1;have HM1:=Lib.hid hM1;have HG1:=Lib.hid hg1;obtain⟨q,r,p,eq,er,ep,hq,hr,q1,r1,p1,p2,q2,r2,y2⟩:=quo_facts (x:=a) hy hk;have hpl:=fun wx=>places_any (k:Int) k wx rfl (by omega);rw[ep]at hpl;have HPL:=Lib.hid hpl;have HEQ:=Lib.hid eq;have HER:=Lib.hid er;have HEP:=Lib.hid ep;have hp0:¬p=0:=by omega
    have hwq:=wrap_small q1;have hwr:=wrap_small r1;have hwk:=wrap_small (n:=k) (by omega);have hin:InInt (q:Int):=⟨by omega,by omega⟩
    have HSP:=Lib.hid hsp;have HSV:=Lib.hid hsv;have HFP:=Lib.hid hFp;have HAP:=Lib.hid hap;have HF:=Lib.hid hF;have HN:=Lib.hid hn;clear hpl hM1 hg1 eq er ep hsp hsv hFp hap hF hn hmap hg ha hb hm hmin hset hmax;go_wp2_with fail;refine(HPL.out _).mono ?_;rintro e w1' ⟨rfl,rfl⟩
    by_cases hsh:RK.shelves k m a q=true
    ·
     have hlk:=spotsF_in (sp:=sp) hsh;have HSH:=Lib.hid hsh;obtain⟨sv1,hsv1⟩:∃s,sp q=s:=⟨_,rfl⟩
     rw[hsv1]at hlk;have HSV1:=Lib.hid hsv1;have HLK:=Lib.hid hlk;clear hsh hsv1 hlk;go_upto_region 11 with fail;refine with_act fun a0 ha0=>?_;have hsz0:a0.tmps.size=120:=by rw[ha0]; rfl
     refine wp_region_vals (W0:=w1) (by kernel_rfl) (by kernel_rfl) [(61,.pointer (some ⟨g,0,none⟩)),(62,.pointer (some ⟨g,0,none⟩)),(63,.pointer (some ⟨g,4,none⟩)),(64,.map (some bm)),(65,.int .i64 a),(66,.int .i64 p),(67,.int .i64 q),(68,.tuple #[sv1,.bool true]),(60,.tuple #[sv1,.bool true]),(69,sv1),(70,.bool true),(10,sv1),(11,.bool true)] rfl (by show([61,62,63,64,65,66,67,68,60,69,70,10,11]:List Nat).Nodup; decide) _ hsz0 (by kernel_rfl) (BelX.start _ _) ⟨⟨rfl,?y1v0⟩,⟨rfl,?y1v1⟩,⟨rfl,?y1v2⟩,⟨rfl,?y1v3⟩,⟨rfl,?y1v4⟩,⟨rfl,?y1v5⟩,⟨rfl,?y1v6⟩,⟨rfl,?y1v7⟩,⟨rfl,?y1v8⟩,⟨rfl,?y1v9⟩,⟨rfl,?y1v10⟩,⟨rfl,?y1v11⟩,⟨rfl,?y1v12⟩,trivial⟩ ?y1done
     case y1v0 =>
      exact mvVi rfl rfl rfl (by kernel_rfl) (by rw[ha0]; rfl)
     case y1v1 =>
      intro a' w' hA hdep hX K hK;obtain⟨r61,q61⟩:=dpv hdep ⟨0,.data⟩ (by simp) rfl rfl;clear hdep ha0 hA;refine StepG.value (wanted_none rfl) rfl ?_ (hK _ hX);simp[go_sem, *]
     case y1v2 =>
      intro a' w' hA hdep hX K hK;obtain⟨r62,q62⟩:=dpv hdep ⟨1,.data⟩ (by simp) rfl rfl;clear hdep ha0 hA;refine StepG.value (wanted_none rfl) rfl ?_ (hK _ hX);simp[go_sem, *]
     case y1v3 =>
      intro a' w' hA hdep hX K hK;obtain⟨r63,q63⟩:=dpv hdep ⟨2,.data⟩ (by simp) rfl rfl;have kc0:w'.cell? ⟨g,4,none⟩=some (.map (some bm)):=hX.cell (by simp) (by first | assumption | (go_simp; done) | (simp; done));clear hdep ha0 hA;refine StepG.value (wanted_none rfl) rfl ?_ (hK _ hX);simp[go_sem, *]
     case y1v4 =>
      exact mvVi rfl rfl rfl (by kernel_rfl) (by rw[ha0]; rfl)
     case y1v5 =>
      exact mvVi rfl rfl rfl (by kernel_rfl) (by rw[ha0]; rfl)
     case y1v6 =>
      intro a' w' hA hdep hX K hK;obtain⟨r65,q65⟩:=dpv hdep ⟨4,.data⟩ (by simp) rfl rfl;obtain⟨r66,q66⟩:=dpv hdep ⟨5,.data⟩ (by simp) rfl rfl;clear hdep ha0 hA;refine StepG.value (wanted_none rfl) rfl ?_ (hK _ hX);simp[go_sem, *]
     case y1v7 =>
      intro a' w' hA hdep hX K hK;obtain⟨r64,q64⟩:=dpv hdep ⟨3,.data⟩ (by simp) rfl rfl;obtain⟨r67,q67⟩:=dpv hdep ⟨6,.data⟩ (by simp) rfl rfl;have kx0:=(show(Instr.lookup 166 (.map (some bm)) (.int .i64 (q:Int)) true).run Tryz.prog w'=.ok (.tuple #[sv1,.bool true]) w' by have h:=(HM1.out.of_block (hX.block bm hbs1 (by simp))).look Tryz.underlying3 Tryz.underlying166 (zero_shape _) hin true; rw[HLK.out]at h; exact h)
      clear hdep ha0 hA;refine StepG.value (wanted_none rfl) rfl ?_ (hK _ hX);simp[go_sem, *]
     case y1v8 =>
      exact mvV ⟨7,.data⟩ (by simp) rfl rfl rfl rfl rfl
     case y1v9 =>
      intro a' w' hA hdep hX K hK;obtain⟨r60,q60⟩:=dpv hdep ⟨8,.data⟩ (by simp) rfl rfl;clear hdep ha0 hA;refine StepG.value (wanted_none rfl) rfl ?_ (hK _ hX);simp[go_sem, *]
     case y1v10 =>
      intro a' w' hA hdep hX K hK;obtain⟨r60,q60⟩:=dpv hdep ⟨8,.data⟩ (by simp) rfl rfl;clear hdep ha0 hA;refine StepG.value (wanted_none rfl) rfl ?_ (hK _ hX);simp[go_sem, *]
     case y1v11 =>
      intro a' w' hA hdep hX K hK;obtain⟨r69,q69⟩:=dpv hdep ⟨9,.data⟩ (by simp) rfl rfl;clear hdep ha0 hA;refine StepG.value (wanted_none rfl) rfl ?_ (hK _ hX);simp[go_sem, *]
     case y1v12 =>
      intro a' w' hA hdep hX K hK;obtain⟨r70,q70⟩:=dpv hdep ⟨10,.data⟩ (by simp) rfl rfl;clear hdep ha0 hA;refine StepG.value (wanted_none rfl) rfl ?_ (hK _ hX);simp[go_sem, *]
     intro w2 hXR;rw[ha0]; simp only[putL,Act.put,sA_,sZ_,sS_];clear ha0 hsz0;have hg2:=(hXR.block g hgs1 (by simp)).trans HG1.out;have hM2:=HM1.out.of_block (hXR.block bm hbs1 (by simp));have HX2:=Lib.hid hXR;have HM2:=Lib.hid hM2;have HG2:=Lib.hid hg2;clear c0 c1 c2 c3 c4 hXR hM2;obtain⟨c0,c1,c2,c3,c4⟩:=row5 hg2;clear hg2;go_upto_region 15 with fail;have hbs2:=HM2.out.lt;have hgs2:=blk_lt HG2.out;have hRep:Rep ty k w2.drew sv1 (RK.spot k m a q) (Fp q):=by
      have h1:=HSP.out q HSH.out;rw[HSV1.out]at h1;refine(h1.kept (BelP.ofX hX1) (fun c hc h=>?_)).frame k (fun c hc=>?_)
      ·
       have e:c=g:=by simpa using h
       exact(HAP.out.2.2.2.1 q).1 (e ▸ hc)
      · exact HX2.out.block c (by have:=h1.lt k c hc; have:=hX1.size; omega) (by simp)
     have hm':RK.spot k m a q r=false:=by
      cases h1:RK.spot k m a q r
      · rfl
      · exfalso;rw[<-HEQ.out,<-HER.out]at h1;obtain⟨-,h2,h3⟩:=(RK.spot_iff _ _ _ _ _).1 h1;rw[RK.join_split]at h2 h3;exact h3 rfl
     have HC:=Lib.hid ((ih sv1 (RK.spot k m a q) (Fp q) r w2.drew (by omega) hRep (by rw[HEP.out]; omega) hm').mono (R':=fun e w'=>∃y,e=.returned y/\∃F',Rep ty k w' y (RK.ins (RK.spot k m a q) r) F'/\BelP (Fp q) w2.drew w'/\∀c,F' c->Fp q c∨w2.heap.size<=c) (fun e w' ⟨v',F',h1,h2⟩=>⟨v',h1,F',h2⟩));clear hRep hm';refine with_act fun a0 ha0=>?_;have hsz0:a0.tmps.size=120:=by rw[ha0]; rfl
     refine wp_region_call1 (by kernel_rfl) (by kernel_rfl) [(88,.pointer (some ⟨g,0,none⟩)),(89,.pointer (some ⟨g,0,none⟩)),(90,.pointer (some ⟨g,4,none⟩)),(91,.map (some bm)),(92,.int .i64 a),(93,.int .i64 p),(94,.int .i64 q),(95,sv1),(96,.int .i64 ((k:Int)+1)),(97,.int .i64 k),(98,.int .i64 a),(99,.int .i64 p),(100,.int .i64 r),(101,.nilIface)] 13 101 (.nilIface) _ rfl rfl rfl (by kernel_rfl) rfl (by show([88,89,90,91,92,93,94,95,96,97,98,99,100,101]:List Nat).Nodup; decide) _ hsz0 (by kernel_rfl) (fun wx:World=>wx.cell? ⟨g,4,none⟩=some (.map (some bm))/\True) (fun y w'=>∃F',Rep ty k w' y (RK.ins (RK.spot k m a q) r) F'/\BelP (Fp q) w2.drew w'/\∀c,F' c->(Fp q) c∨w2.heap.size<=c) ⟨(by first | assumption | exact(show w2.cell? ⟨g,4,none⟩=some (.map (some bm)) from by assumption)),trivial⟩ ?z7keep ⟨⟨rfl,?z7v0⟩,⟨rfl,?z7v1⟩,⟨rfl,?z7v2⟩,⟨rfl,?z7v3⟩,⟨rfl,?z7v4⟩,⟨rfl,?z7v5⟩,⟨rfl,?z7v6⟩,⟨rfl,?z7v7⟩,⟨rfl,?z7v8⟩,⟨rfl,?z7v9⟩,⟨rfl,?z7v10⟩,⟨rfl,?z7v11⟩,⟨rfl,?z7v12⟩,⟨rfl,?z7v13⟩,trivial⟩ ?z7done
     case z7keep=>exact(fun y w' ⟨F',_,hB,_⟩=>⟨(World.cell?_of_block (hB.block g hgs2 (HAP.out.2.2.2.1 q).1)).trans c4,trivial⟩)
     case z7v0 =>
      exact mvCi (by decide) rfl rfl rfl (by kernel_rfl) (by rw[ha0]; rfl)
     case z7v1 =>
      rw[if_neg (by decide)];intro a' w' hA hdep hS K hK;obtain⟨r88,q88⟩:=dpc hdep ⟨0,.data⟩ (by simp) (by decide) rfl rfl;clear hdep ha0 hA;refine StepG.value (wanted_none rfl) rfl ?_ hK;simp[go_sem, *]
     case z7v2 =>
      rw[if_neg (by decide)];intro a' w' hA hdep hS K hK;obtain⟨r89,q89⟩:=dpc hdep ⟨1,.data⟩ (by simp) (by decide) rfl rfl;clear hdep ha0 hA;refine StepG.value (wanted_none rfl) rfl ?_ hK;simp[go_sem, *]
     case z7v3 =>
      rw[if_neg (by decide)];intro a' w' hA hdep hS K hK;obtain⟨r90,q90⟩:=dpc hdep ⟨2,.data⟩ (by simp) (by decide) rfl rfl;obtain⟨kc0,_⟩:=hS;clear hdep ha0 hA;refine StepG.value (wanted_none rfl) rfl ?_ hK;simp[go_sem, *]
     case z7v4 =>
      exact mvCi (by decide) rfl rfl rfl (by kernel_rfl) (by rw[ha0]; rfl)
     case z7v5 =>
      exact mvCi (by decide) rfl rfl rfl (by kernel_rfl) (by rw[ha0]; rfl)
     case z7v6 =>
      rw[if_neg (by decide)];intro a' w' hA hdep hS K hK;obtain⟨r92,q92⟩:=dpc hdep ⟨4,.data⟩ (by simp) (by decide) rfl rfl;obtain⟨r93,q93⟩:=dpc hdep ⟨5,.data⟩ (by simp) (by decide) rfl rfl;clear hdep ha0 hA;refine StepG.value (wanted_none rfl) rfl ?_ hK;simp[go_sem, *]
     case z7v7 =>
      exact mvCi (by decide) rfl rfl rfl (by kernel_rfl) (by rw[ha0]; rfl)
     case z7v8 =>
      exact mvCi (by decide) rfl rfl rfl (by kernel_rfl) (by rw[ha0]; rfl)
     case z7v9 =>
      rw[if_neg (by decide)];intro a' w' hA hdep hS K hK;obtain⟨r96,q96⟩:=dpc hdep ⟨8,.data⟩ (by simp) (by decide) rfl rfl;clear hdep ha0 hA;refine StepG.value (wanted_none rfl) rfl ?_ hK;simp[go_sem, *]
     case z7v10 =>
      exact mvCi (by decide) rfl rfl rfl (by kernel_rfl) (by rw[ha0]; rfl)
     case z7v11 =>
      exact mvCi (by decide) rfl rfl rfl (by kernel_rfl) (by rw[ha0]; rfl)
     case z7v12 =>
      rw[if_neg (by decide)];intro a' w' hA hdep hS K hK;obtain⟨r98,q98⟩:=dpc hdep ⟨10,.data⟩ (by simp) (by decide) rfl rfl;obtain⟨r99,q99⟩:=dpc hdep ⟨11,.data⟩ (by simp) (by decide) rfl rfl;clear hdep ha0 hA;refine StepG.value (wanted_none rfl) rfl ?_ hK;simp[go_sem, *]
     case z7v13 =>
      rw[if_pos rfl];intro a' hA hdep K hK;obtain⟨r95,q95⟩:=dpc hdep ⟨7,.data⟩ (by simp) (by decide) rfl rfl;obtain⟨r97,q97⟩:=dpc hdep ⟨9,.data⟩ (by simp) (by decide) rfl rfl;obtain⟨r100,q100⟩:=dpc hdep ⟨12,.data⟩ (by simp) (by decide) rfl rfl;clear hdep ha0 hA;refine StepG.callE (wanted_none rfl) rfl ?_ (HC.out) hK;simp[go_sem, *]
     intro y w3 hR3;rw[ha0]; simp only[List.set_cons_zero,List.set_cons_succ,putL,Act.put,List.setIfInBounds_toArray];clear ha0 hsz0;obtain⟨Fo',hR3,hB3,hF3⟩:=hR3;obtain⟨o,hrun,hm4⟩:=(HM2.out.of_block (hB3.block bm hbs2 (HAP.out.2.2.2.1 q).2)).put Tryz.underlying3 Tryz.underlying166 hin y;obtain⟨w4,h4⟩:∃wx,wx=setBlock w3 bm o:=⟨_,rfl⟩
     rw[<-h4]at hrun hm4;have HR3:=Lib.hid hR3;have HB3:=Lib.hid hB3;have HF3:=Lib.hid hF3;have HM4:=Lib.hid hm4;have H4:=Lib.hid h4;clear hR3 hB3 hF3 hm4 h4 c0 c1 c2 c3 c4;go_wp2_with fail
     go_ret
     have heq:=HEQ.out;have her:=HER.out;subst heq her;have hX1':=BelP.ofX hX1;have hX2':=BelP.ofX HX2.out;have hB3:=HB3.out;have hs2:w.heap.size<=w2.heap.size:=Nat.le_trans hX1.size HX2.out.size;have h4':=H4.out;have hB34:BelP (fun c=>c=g∨c=bm) w3 w4:=by
      rw[h4'];exact(BelP.ofX ((BelX.here [bm] w3).setBlk (by simp) o)).mono (fun c _ h=>.inr (by simpa using h))
     have hB24:BelP (fun c=>c=g∨c=bm∨Fp (a / RK.R k) c) w2 w4 :=
      BelP.trans (BelP.mono (show BelP (Fp (a / RK.R k)) w2 w3 from⟨hB3.os,hB3.tape,hB3.output,hB3.size,hB3.block⟩) (fun c _ h=>.inr (.inr h))) hB34 (fun c _ h=>h.elim .inl (fun h=>.inr (.inl h)))
     have hg3:w3.heap[g]?=some (.cells #[.int .i64 x,.int .i64 b,.int .i64 ((k:Int)+1),sv,.map (some bm)] 168 (0,0)):=(hB3.block g hgs2 (HAP.out.2.2.2.1 _).1).trans HG2.out;have hg4:w4.heap[g]?=some (.cells #[.int .i64 x,.int .i64 b,.int .i64 ((k:Int)+1),sv,.map (some bm)] 168 (0,0)):=by
      rw[h4'];exact(((BelX.here [bm] w3).setBlk (b:=bm) (by simp) o).block g (blk_lt hg3) (by simp; exact HAP.out.1)).trans hg3
     obtain⟨F',hRF,hFF⟩:=rep_ins (T:=ty) (w:=w) (w2:=w2) (w3:=w3) (w4:=w4) (y:=a) HN.out hy HSET.out HMIN.out HMAX.out HSP.out HFP.out HAP.out hgs hbs
      (BelP.trans (BelP.trans (hX1'.mono (fun c _ h=>.inl (by simpa using h))) hX2' (fun c _ h=>by simp at h)) hB24 (fun c _ h=>by
       rcases h with h | h | h
       · exact .inl h
       · exact .inr (.inl h)
       · exact .inr (.inr (.inr h))))
      hs2 (sv':=sv) (Fs':=Fs) (by
       rw[RK.ins_same HSH.out];exact(HSV.out.kept hX1' (fun c hc h=>HAP.out.2.1 ((show c=g by simpa using h) ▸ hc))).kept hX2' (fun c _ h=>by simp at h))
      (fun c h=>.inl h) hB24 HR3.out HF3.out hB34 hg4 HM4.out
     refine⟨_,F',rfl,hRF,?_,fun c h=>?_⟩
     ·
      refine BelP.trans (BelP.trans (hX1'.mono (fun c _ h=>(HF.out c).2 (.inl (by simpa using h)))) hX2' (fun c _ h=>by simp at h)) hB24 (fun c _ h=>(HF.out c).2 ?_);rcases h with h | h | h
      · exact .inl h
      · exact .inr (.inl h)
      · exact .inr (.inr (.inr ⟨_,h⟩))
     ·
      rcases hFF c h with h | h
      · exact .inl ((HF.out c).2 h)
      · exact .inr h
    ·
     have hlk:=spotsF_out (sp:=sp) hsh;have HSH:=Lib.hid hsh;have HLK:=Lib.hid hlk;clear hsh hlk;go_upto_region 11 with fail;refine with_act fun a0 ha0=>?_;have hsz0:a0.tmps.size=120:=by rw[ha0]; rfl
     refine wp_region_vals (W0:=w1) (by kernel_rfl) (by kernel_rfl) [(61,.pointer (some ⟨g,0,none⟩)),(62,.pointer (some ⟨g,0,none⟩)),(63,.pointer (some ⟨g,4,none⟩)),(64,.map (some bm)),(65,.int .i64 a),(66,.int .i64 p),(67,.int .i64 q),(68,.tuple #[.nilIface,.bool false]),(60,.tuple #[.nilIface,.bool false]),(69,.nilIface),(70,.bool false),(10,.nilIface),(11,.bool false)] rfl (by show([61,62,63,64,65,66,67,68,60,69,70,10,11]:List Nat).Nodup; decide) _ hsz0 (by kernel_rfl) (BelX.start _ _) ⟨⟨rfl,?y2v0⟩,⟨rfl,?y2v1⟩,⟨rfl,?y2v2⟩,⟨rfl,?y2v3⟩,⟨rfl,?y2v4⟩,⟨rfl,?y2v5⟩,⟨rfl,?y2v6⟩,⟨rfl,?y2v7⟩,⟨rfl,?y2v8⟩,⟨rfl,?y2v9⟩,⟨rfl,?y2v10⟩,⟨rfl,?y2v11⟩,⟨rfl,?y2v12⟩,trivial⟩ ?y2done
     case y2v0 =>
      exact mvVi rfl rfl rfl (by kernel_rfl) (by rw[ha0]; rfl)
     case y2v1 =>
      intro a' w' hA hdep hX K hK;obtain⟨r61,q61⟩:=dpv hdep ⟨0,.data⟩ (by simp) rfl rfl;clear hdep ha0 hA;refine StepG.value (wanted_none rfl) rfl ?_ (hK _ hX);simp[go_sem, *]
     case y2v2 =>
      intro a' w' hA hdep hX K hK;obtain⟨r62,q62⟩:=dpv hdep ⟨1,.data⟩ (by simp) rfl rfl;clear hdep ha0 hA;refine StepG.value (wanted_none rfl) rfl ?_ (hK _ hX);simp[go_sem, *]
     case y2v3 =>
      intro a' w' hA hdep hX K hK;obtain⟨r63,q63⟩:=dpv hdep ⟨2,.data⟩ (by simp) rfl rfl;have kc0:w'.cell? ⟨g,4,none⟩=some (.map (some bm)):=hX.cell (by simp) (by first | assumption | (go_simp; done) | (simp; done));clear hdep ha0 hA;refine StepG.value (wanted_none rfl) rfl ?_ (hK _ hX);simp[go_sem, *]
     case y2v4 =>
      exact mvVi rfl rfl rfl (by kernel_rfl) (by rw[ha0]; rfl)
     case y2v5 =>
      exact mvVi rfl rfl rfl (by kernel_rfl) (by rw[ha0]; rfl)
     case y2v6 =>
      intro a' w' hA hdep hX K hK;obtain⟨r65,q65⟩:=dpv hdep ⟨4,.data⟩ (by simp) rfl rfl;obtain⟨r66,q66⟩:=dpv hdep ⟨5,.data⟩ (by simp) rfl rfl;clear hdep ha0 hA;refine StepG.value (wanted_none rfl) rfl ?_ (hK _ hX);simp[go_sem, *]
     case y2v7 =>
      intro a' w' hA hdep hX K hK;obtain⟨r64,q64⟩:=dpv hdep ⟨3,.data⟩ (by simp) rfl rfl;obtain⟨r67,q67⟩:=dpv hdep ⟨6,.data⟩ (by simp) rfl rfl;have kx0:=(show(Instr.lookup 166 (.map (some bm)) (.int .i64 (q:Int)) true).run Tryz.prog w'=.ok (.tuple #[.nilIface,.bool false]) w' by have h:=(HM1.out.of_block (hX.block bm hbs1 (by simp))).look Tryz.underlying3 Tryz.underlying166 (zero_shape _) hin true; rw[HLK.out]at h; exact h)
      clear hdep ha0 hA;refine StepG.value (wanted_none rfl) rfl ?_ (hK _ hX);simp[go_sem, *]
     case y2v8 =>
      exact mvV ⟨7,.data⟩ (by simp) rfl rfl rfl rfl rfl
     case y2v9 =>
      intro a' w' hA hdep hX K hK;obtain⟨r60,q60⟩:=dpv hdep ⟨8,.data⟩ (by simp) rfl rfl;clear hdep ha0 hA;refine StepG.value (wanted_none rfl) rfl ?_ (hK _ hX);simp[go_sem, *]
     case y2v10 =>
      intro a' w' hA hdep hX K hK;obtain⟨r60,q60⟩:=dpv hdep ⟨8,.data⟩ (by simp) rfl rfl;clear hdep ha0 hA;refine StepG.value (wanted_none rfl) rfl ?_ (hK _ hX);simp[go_sem, *]
     case y2v11 =>
      intro a' w' hA hdep hX K hK;obtain⟨r69,q69⟩:=dpv hdep ⟨9,.data⟩ (by simp) rfl rfl;clear hdep ha0 hA;refine StepG.value (wanted_none rfl) rfl ?_ (hK _ hX);simp[go_sem, *]
     case y2v12 =>
      intro a' w' hA hdep hX K hK;obtain⟨r70,q70⟩:=dpv hdep ⟨10,.data⟩ (by simp) rfl rfl;clear hdep ha0 hA;refine StepG.value (wanted_none rfl) rfl ?_ (hK _ hX);simp[go_sem, *]
     intro w2 hXR;rw[ha0]; simp only[putL,Act.put,sA_,sZ_,sS_];clear ha0 hsz0;have hg2:=(hXR.block g hgs1 (by simp)).trans HG1.out;have hM2:=HM1.out.of_block (hXR.block bm hbs1 (by simp));have HX2:=Lib.hid hXR;have HM2:=Lib.hid hM2;have HG2:=Lib.hid hg2;clear c0 c1 c2 c3 c4 hXR hM2;obtain⟨c0,c1,c2,c3,c4⟩:=row5 hg2;clear hg2;have hbs2:=HM2.out.lt;have hgs2:=blk_lt HG2.out;have hRep:Rep ty k w2.drew sv (RK.shelves k m a) Fs:=by
      refine(HSV.out.kept (BelP.ofX hX1) (fun c hc h=>HAP.out.2.1 ((show c=g by simpa using h) ▸ hc))).frame k (fun c hc=>?_);exact HX2.out.block c (by have:=HSV.out.lt k c hc; have:=hX1.size; omega) (by simp)
     have HC1:=Lib.hid ((ih sv (RK.shelves k m a) Fs q w2.drew (by omega) hRep (by rw[HEP.out]; omega) (by simpa using HSH.out)).mono (R':=fun e w'=>∃y,e=.returned y/\∃F',Rep ty k w' y (RK.ins (RK.shelves k m a) q) F'/\BelP Fs w2.drew w'/\∀c,F' c->Fs c∨w2.heap.size<=c) (fun e w' ⟨v',F',h1,h2⟩=>⟨v',h1,F',h2⟩));clear hRep;go_upto_region 14 with fail;refine with_act fun a0 ha0=>?_;have hsz0:a0.tmps.size=120:=by rw[ha0]; rfl
     refine wp_region_call1 (by kernel_rfl) (by kernel_rfl) [(75,.pointer (some ⟨g,0,none⟩)),(76,.pointer (some ⟨g,0,none⟩)),(77,.pointer (some ⟨g,0,none⟩)),(78,.pointer (some ⟨g,3,none⟩)),(79,sv),(80,.int .i64 ((k:Int)+1)),(81,.int .i64 k),(82,.int .i64 a),(83,.int .i64 p),(84,.int .i64 q),(85,.nilIface),(86,.pointer (some ⟨g,0,none⟩)),(87,.pointer (some ⟨g,3,none⟩))] 10 85 (.nilIface) _ rfl rfl rfl (by kernel_rfl) rfl (by show([75,76,77,78,79,80,81,82,83,84,85,86,87]:List Nat).Nodup; decide) _ hsz0 (by kernel_rfl) (fun wx:World=>wx.cell? ⟨g,3,none⟩=some (sv)/\True) (fun y w'=>∃F',Rep ty k w' y (RK.ins (RK.shelves k m a) q) F'/\BelP Fs w2.drew w'/\∀c,F' c->Fs c∨w2.heap.size<=c) ⟨(by first | assumption | exact(show w2.cell? ⟨g,3,none⟩=some (sv) from by assumption)),trivial⟩ ?z8keep ⟨⟨rfl,?z8v0⟩,⟨rfl,?z8v1⟩,⟨rfl,?z8v2⟩,⟨rfl,?z8v3⟩,⟨rfl,?z8v4⟩,⟨rfl,?z8v5⟩,⟨rfl,?z8v6⟩,⟨rfl,?z8v7⟩,⟨rfl,?z8v8⟩,⟨rfl,?z8v9⟩,⟨rfl,?z8v10⟩,⟨rfl,?z8v11⟩,⟨rfl,?z8v12⟩,trivial⟩ ?z8done
     case z8keep=>exact(fun y w' ⟨F',_,hB,_⟩=>⟨(World.cell?_of_block (hB.block g hgs2 HAP.out.2.1)).trans c3,trivial⟩)
     case z8v0 =>
      exact mvCi (by decide) rfl rfl rfl (by kernel_rfl) (by rw[ha0]; rfl)
     case z8v1 =>
      exact mvCi (by decide) rfl rfl rfl (by kernel_rfl) (by rw[ha0]; rfl)
     case z8v2 =>
      rw[if_neg (by decide)];intro a' w' hA hdep hS K hK;obtain⟨r76,q76⟩:=dpc hdep ⟨1,.data⟩ (by simp) (by decide) rfl rfl;clear hdep ha0 hA;refine StepG.value (wanted_none rfl) rfl ?_ hK;simp[go_sem, *]
     case z8v3 =>
      rw[if_neg (by decide)];intro a' w' hA hdep hS K hK;obtain⟨r77,q77⟩:=dpc hdep ⟨2,.data⟩ (by simp) (by decide) rfl rfl;clear hdep ha0 hA;refine StepG.value (wanted_none rfl) rfl ?_ hK;simp[go_sem, *]
     case z8v4 =>
      rw[if_neg (by decide)];intro a' w' hA hdep hS K hK;obtain⟨r78,q78⟩:=dpc hdep ⟨3,.data⟩ (by simp) (by decide) rfl rfl;obtain⟨kc0,_⟩:=hS;clear hdep ha0 hA;refine StepG.value (wanted_none rfl) rfl ?_ hK;simp[go_sem, *]
     case z8v5 =>
      exact mvCi (by decide) rfl rfl rfl (by kernel_rfl) (by rw[ha0]; rfl)
     case z8v6 =>
      rw[if_neg (by decide)];intro a' w' hA hdep hS K hK;obtain⟨r80,q80⟩:=dpc hdep ⟨5,.data⟩ (by simp) (by decide) rfl rfl;clear hdep ha0 hA;refine StepG.value (wanted_none rfl) rfl ?_ hK;simp[go_sem, *]
     case z8v7 =>
      exact mvCi (by decide) rfl rfl rfl (by kernel_rfl) (by rw[ha0]; rfl)
     case z8v8 =>
      exact mvCi (by decide) rfl rfl rfl (by kernel_rfl) (by rw[ha0]; rfl)
     case z8v9 =>
      rw[if_neg (by decide)];intro a' w' hA hdep hS K hK;obtain⟨r82,q82⟩:=dpc hdep ⟨7,.data⟩ (by simp) (by decide) rfl rfl;obtain⟨r83,q83⟩:=dpc hdep ⟨8,.data⟩ (by simp) (by decide) rfl rfl;clear hdep ha0 hA;refine StepG.value (wanted_none rfl) rfl ?_ hK;simp[go_sem, *]
     case z8v10 =>
      rw[if_pos rfl];intro a' hA hdep K hK;obtain⟨r79,q79⟩:=dpc hdep ⟨4,.data⟩ (by simp) (by decide) rfl rfl;obtain⟨r81,q81⟩:=dpc hdep ⟨6,.data⟩ (by simp) (by decide) rfl rfl;obtain⟨r84,q84⟩:=dpc hdep ⟨9,.data⟩ (by simp) (by decide) rfl rfl;clear hdep ha0 hA;refine StepG.callE (wanted_none rfl) rfl ?_ (HC1.out) hK;simp[go_sem, *]
     case z8v11 =>
      rw[if_neg (by decide)];intro a' w' hA hdep hS K hK;obtain⟨r75,q75⟩:=dpc hdep ⟨0,.data⟩ (by simp) (by decide) rfl rfl;clear hdep ha0 hA;refine StepG.value (wanted_none rfl) rfl ?_ hK;simp[go_sem, *]
     case z8v12 =>
      rw[if_neg (by decide)];intro a' w' hA hdep hS K hK;obtain⟨r86,q86⟩:=dpc hdep ⟨11,.data⟩ (by simp) (by decide) rfl rfl;clear hdep ha0 hA;refine StepG.value (wanted_none rfl) rfl ?_ hK;simp[go_sem, *]
     intro y1 w3 hR3;rw[ha0]; simp only[List.set_cons_zero,List.set_cons_succ,putL,Act.put,List.setIfInBounds_toArray];clear ha0 hsz0;obtain⟨Fs',hR3,hB3,hF3⟩:=hR3;obtain⟨tt,xx,rfl⟩:=hR3.iface;have hg3:=(hB3.block g hgs2 HAP.out.2.1).trans HG2.out;have fz3:=row_f hg3;clear c0 c1 c2 c3 c4;obtain⟨c0,c1,c2,c3,c4⟩:=row5 hg3;have HR3:=Lib.hid hR3;have HB3:=Lib.hid hB3;have HF3:=Lib.hid hF3;have HG3:=Lib.hid hg3;clear hR3 hB3 hF3 hg3;go_upto_region 15 with fail;obtain⟨w4,h4⟩:∃wx:World,wx=w3.setCell ⟨g,3,none⟩ (.iface tt xx):=⟨_,rfl⟩
     rw[<-h4];have hg4:w4.heap[g]?=some (.cells #[.int .i64 x,.int .i64 b,.int .i64 ((k:Int)+1),.iface tt xx,.map (some bm)] 168 (0,0)):=by rw[h4]; simp[World.setCell,Array.getElem?_modify,HG3.out]
     have hX4:BelX [g] w3 w4:=by rw[h4]; exact(BelX.here [g] w3).setOld (p:=⟨g,3,none⟩) (by simp) _
     have hs4:w3.heap.size<=w4.heap.size:=hX4.size;have hs43:w4.heap.size=w3.heap.size:=by rw[h4]; simp[World.setCell]
     clear h4 c0 c1 c2 c3 c4 fz3;obtain⟨c0,c1,c2,c3,c4⟩:=row5 hg4;have hgs4:=blk_lt hg4;have hM3:=HM2.out.of_block (HB3.out.block bm hbs2 HAP.out.2.2.1);have hM4:=hM3.of_block (hX4.block bm hM3.lt (by simp; exact fun e=>HAP.out.1 e.symm));have hbs4:=hM4.lt;have HM4:=Lib.hid hM4;have HG4:=Lib.hid hg4;have hem:RK.Emp (RK.spot k m a q):=RK.shelf_none (by simpa using HSH.out) (by rw[HEP.out]; exact q2);have HC2:=Lib.hid ((ih (vE ty) (RK.spot k m a q) (fun _=>False) r w4.drew (by omega) (rep_empty ty k _ hem) (by rw[HEP.out]; omega) (hem r)).mono (R':=fun e w'=>∃y,e=.returned y/\∃F',Rep ty k w' y (RK.ins (RK.spot k m a q) r) F'/\BelP (fun _=>False) w4.drew w'/\∀c,F' c->(fun _=>False) c∨w4.heap.size<=c) (fun e w' ⟨v',F',h1,h2⟩=>⟨v',h1,F',h2⟩));have HC:=HC2;unfold vE at HC;clear HC2 hM3 hM4 hg4 hem;refine with_act fun a0 ha0=>?_;have hsz0:a0.tmps.size=120:=by rw[ha0]; rfl
     refine wp_region_call1 (by kernel_rfl) (by kernel_rfl) [(88,.pointer (some ⟨g,0,none⟩)),(89,.pointer (some ⟨g,0,none⟩)),(90,.pointer (some ⟨g,4,none⟩)),(91,.map (some bm)),(92,.int .i64 a),(93,.int .i64 p),(94,.int .i64 q),(95,.iface 154 (.agg #[])),(96,.int .i64 ((k:Int)+1)),(97,.int .i64 k),(98,.int .i64 a),(99,.int .i64 p),(100,.int .i64 r),(101,.nilIface)] 13 101 (.nilIface) _ rfl rfl rfl (by kernel_rfl) rfl (by show([88,89,90,91,92,93,94,95,96,97,98,99,100,101]:List Nat).Nodup; decide) _ hsz0 (by kernel_rfl) (fun wx:World=>wx.cell? ⟨g,4,none⟩=some (.map (some bm))/\True) (fun y w'=>∃F',Rep ty k w' y (RK.ins (RK.spot k m a q) r) F'/\BelP (fun _=>False) w4.drew w'/\∀c,F' c->(fun _=>False) c∨w4.heap.size<=c) ⟨(by first | assumption | exact(show w4.cell? ⟨g,4,none⟩=some (.map (some bm)) from by assumption)),trivial⟩ ?z9keep ⟨⟨rfl,?z9v0⟩,⟨rfl,?z9v1⟩,⟨rfl,?z9v2⟩,⟨rfl,?z9v3⟩,⟨rfl,?z9v4⟩,⟨rfl,?z9v5⟩,⟨rfl,?z9v6⟩,⟨rfl,?z9v7⟩,⟨rfl,?z9v8⟩,⟨rfl,?z9v9⟩,⟨rfl,?z9v10⟩,⟨rfl,?z9v11⟩,⟨rfl,?z9v12⟩,⟨rfl,?z9v13⟩,trivial⟩ ?z9done
     case z9keep=>exact(fun y w' ⟨F',_,hB,_⟩=>⟨(World.cell?_of_block (hB.block g hgs4 (fun h=>h))).trans c4,trivial⟩)
     case z9v0 =>
      exact mvCi (by decide) rfl rfl rfl (by kernel_rfl) (by rw[ha0]; rfl)
     case z9v1 =>
      rw[if_neg (by decide)];intro a' w' hA hdep hS K hK;obtain⟨r88,q88⟩:=dpc hdep ⟨0,.data⟩ (by simp) (by decide) rfl rfl;clear hdep ha0 hA;refine StepG.value (wanted_none rfl) rfl ?_ hK;simp[go_sem, *]
     case z9v2 =>
      rw[if_neg (by decide)];intro a' w' hA hdep hS K hK;obtain⟨r89,q89⟩:=dpc hdep ⟨1,.data⟩ (by simp) (by decide) rfl rfl;clear hdep ha0 hA;refine StepG.value (wanted_none rfl) rfl ?_ hK;simp[go_sem, *]
     case z9v3 =>
      rw[if_neg (by decide)];intro a' w' hA hdep hS K hK;obtain⟨r90,q90⟩:=dpc hdep ⟨2,.data⟩ (by simp) (by decide) rfl rfl;obtain⟨kc0,_⟩:=hS;clear hdep ha0 hA;refine StepG.value (wanted_none rfl) rfl ?_ hK;simp[go_sem, *]
     case z9v4 =>
      exact mvCi (by decide) rfl rfl rfl (by kernel_rfl) (by rw[ha0]; rfl)
     case z9v5 =>
      exact mvCi (by decide) rfl rfl rfl (by kernel_rfl) (by rw[ha0]; rfl)
     case z9v6 =>
      rw[if_neg (by decide)];intro a' w' hA hdep hS K hK;obtain⟨r92,q92⟩:=dpc hdep ⟨4,.data⟩ (by simp) (by decide) rfl rfl;obtain⟨r93,q93⟩:=dpc hdep ⟨5,.data⟩ (by simp) (by decide) rfl rfl;clear hdep ha0 hA;refine StepG.value (wanted_none rfl) rfl ?_ hK;simp[go_sem, *]
     case z9v7 =>
      exact mvCi (by decide) rfl rfl rfl (by kernel_rfl) (by rw[ha0]; rfl)
     case z9v8 =>
      exact mvCi (by decide) rfl rfl rfl (by kernel_rfl) (by rw[ha0]; rfl)
     case z9v9 =>
      rw[if_neg (by decide)];intro a' w' hA hdep hS K hK;obtain⟨r96,q96⟩:=dpc hdep ⟨8,.data⟩ (by simp) (by decide) rfl rfl;clear hdep ha0 hA;refine StepG.value (wanted_none rfl) rfl ?_ hK;simp[go_sem, *]
     case z9v10 =>
      exact mvCi (by decide) rfl rfl rfl (by kernel_rfl) (by rw[ha0]; rfl)
     case z9v11 =>
      exact mvCi (by decide) rfl rfl rfl (by kernel_rfl) (by rw[ha0]; rfl)
     case z9v12 =>
      rw[if_neg (by decide)];intro a' w' hA hdep hS K hK;obtain⟨r98,q98⟩:=dpc hdep ⟨10,.data⟩ (by simp) (by decide) rfl rfl;obtain⟨r99,q99⟩:=dpc hdep ⟨11,.data⟩ (by simp) (by decide) rfl rfl;clear hdep ha0 hA;refine StepG.value (wanted_none rfl) rfl ?_ hK;simp[go_sem, *]
     case z9v13 =>
      rw[if_pos rfl];intro a' hA hdep K hK;obtain⟨r95,q95⟩:=dpc hdep ⟨7,.data⟩ (by simp) (by decide) rfl rfl;obtain⟨r97,q97⟩:=dpc hdep ⟨9,.data⟩ (by simp) (by decide) rfl rfl;obtain⟨r100,q100⟩:=dpc hdep ⟨12,.data⟩ (by simp) (by decide) rfl rfl;clear hdep ha0 hA;refine StepG.callE (wanted_none rfl) rfl ?_ (HC.out) hK;simp[go_sem, *]
     intro y w5 hR5;rw[ha0]; simp only[List.set_cons_zero,List.set_cons_succ,putL,Act.put,List.setIfInBounds_toArray];clear ha0 hsz0;obtain⟨Fo',hR5,hB5,hF5⟩:=hR5;obtain⟨o,hrun,hm6⟩:=(HM4.out.of_block (hB5.block bm hbs4 (fun h=>h))).put Tryz.underlying3 Tryz.underlying166 hin y;obtain⟨w6,h6⟩:∃wx,wx=setBlock w5 bm o:=⟨_,rfl⟩
     rw[<-h6]at hrun hm6;have HR5:=Lib.hid hR5;have HB5:=Lib.hid hB5;have HF5:=Lib.hid hF5;have HM6:=Lib.hid hm6;have H6:=Lib.hid h6;clear hR5 hB5 hF5 hm6 h6 c0 c1 c2 c3 c4;go_wp2_with fail
     go_ret
     have heq:=HEQ.out;have her:=HER.out;subst heq her;have hX1':=BelP.ofX hX1;have hX2':=BelP.ofX HX2.out;have hX4':=BelP.ofX hX4;have hB3:=HB3.out;have hB5:=HB5.out;have hs2:w.heap.size<=w2.heap.size:=Nat.le_trans hX1.size HX2.out.size;have hs3:w2.heap.size<=w3.heap.size:=hB3.size;have h6':=H6.out;have hB56:BelP (fun c=>c=g∨c=bm) w5 w6:=by
      rw[h6'];exact(BelP.ofX ((BelX.here [bm] w5).setBlk (by simp) o)).mono (fun c _ h=>.inr (by simpa using h))
     have hB45:BelP (fun _=>False) w4 w5:=⟨hB5.os,hB5.tape,hB5.output,hB5.size,hB5.block⟩
     have hB23:BelP Fs w2 w3:=⟨hB3.os,hB3.tape,hB3.output,hB3.size,hB3.block⟩
     have hB36:BelP (fun c=>c=g∨c=bm∨Fp (a / RK.R k) c) w3 w6 :=
      BelP.trans (BelP.trans (hX4'.mono (fun c _ h=>.inl (by simpa using h))) hB45 (fun c _ h=>False.elim h)) hB56 (fun c _ h=>h.elim .inl (fun h=>.inr (.inl h)))
     have hg5:=(hB5.block g hgs4 (fun h=>h)).trans HG4.out;have hg6:w6.heap[g]?=some (.cells #[.int .i64 x,.int .i64 b,.int .i64 ((k:Int)+1),.iface tt xx,.map (some bm)] 168 (0,0)):=by
      rw[h6'];exact(((BelX.here [bm] w5).setBlk (b:=bm) (by simp) o).block g (blk_lt hg5) (by simp; exact HAP.out.1)).trans hg5
     have hBt:BelP (fun c=>c=g∨c=bm∨Fs c∨Fp (a / RK.R k) c) w w6 :=
      BelP.trans (BelP.trans (BelP.trans (hX1'.mono (fun c _ h=>.inl (by simpa using h))) hX2' (fun c _ h=>by simp at h)) hB23 (fun c _ h=>.inr (.inr (.inl h)))) hB36 (fun c _ h=>by
       rcases h with h | h | h
       · exact .inl h
       · exact .inr (.inl h)
       · exact .inr (.inr (.inr h)))
     obtain⟨F',hRF,hFF⟩:=rep_ins (T:=ty) (w:=w) (w2:=w3) (w3:=w5) (w4:=w6) (y:=a) HN.out hy HSET.out HMIN.out HMAX.out HSP.out HFP.out HAP.out hgs hbs hBt
      (Nat.le_trans hs2 hs3) (sv':=.iface tt xx) (Fs':=Fs') HR3.out (fun c h=>by
       rcases HF3.out c h with h | h
       · exact .inl h
       · exact .inr (Nat.le_trans hs2 h))
      hB36 HR5.out (fun c h=>by
       rcases HF5.out c h with h | h
       · exact False.elim h
       · exact .inr (by omega)) hB56 hg6 HM6.out
     refine⟨_,F',rfl,hRF,hBt.mono (fun c _ h=>(HF.out c).2 ?_),fun c h=>?_⟩
     ·
      rcases h with h | h | h | h
      · exact .inl h
      · exact .inr (.inl h)
      · exact .inr (.inr (.inl h))
      · exact .inr (.inr (.inr ⟨_,h⟩))
     ·
      rcases hFF c h with h | h
      · exact .inl ((HF.out c).2 h)
      · exact .inr h
   ·
    obtain⟨hmin,hset⟩:=RK.ins_high ha hxa hm;have hy:=hx;have HMH:=Lib.hid hm;have HMIN:=Lib.hid hmin;have HSET:=Lib.hid hset;unfold vT
    by_cases hbx:b < x
    ·
     rw[Nat.max_eq_right (by omega)]at hmax;have HMAX:=Lib.hid hmax;go_enter Tryz.func97,Tryz.ntmps97;go_upto_region 10 with fail;obtain⟨w1,h1⟩:∃wx:World,wx=w.setCell ⟨g,1,none⟩ (.int .i64 x):=⟨_,rfl⟩
     rw[<-h1];have hg1:w1.heap[g]?=some (.cells #[.int .i64 a,.int .i64 x,.int .i64 ((k:Int)+1),sv,.map (some bm)] 168 (0,0)):=by rw[h1]; simp[World.setCell,Array.getElem?_modify,hg]
     have hX1:BelX [g] w w1:=by rw[h1]; exact(BelX.here [g] w).setOld (p:=⟨g,1,none⟩) (by simp) _
     have hM1:MapIs w1 bm (spotsF k m a sp):=hmap.of_block (hX1.block bm hbs (by simp; exact fun e=>hap.1 e.symm));have hbs1:=hM1.lt;have hgs1:=blk_lt hg1;clear h1 c0 c1 fz;obtain⟨c0,c1,c2,c3,c4⟩:=row5 hg1;have HM1:=Lib.hid hM1;have HG1:=Lib.hid hg1;obtain⟨q,r,p,eq,er,ep,hq,hr,q1,r1,p1,p2,q2,r2,y2⟩:=quo_facts (x:=x) hy hk;have hpl:=fun wx=>places_any (k:Int) k wx rfl (by omega);rw[ep]at hpl;have HPL:=Lib.hid hpl;have HEQ:=Lib.hid eq;have HER:=Lib.hid er;have HEP:=Lib.hid ep;have hp0:¬p=0:=by omega
     have hwq:=wrap_small q1;have hwr:=wrap_small r1;have hwk:=wrap_small (n:=k) (by omega);have hin:InInt (q:Int):=⟨by omega,by omega⟩
     have HSP:=Lib.hid hsp;have HSV:=Lib.hid hsv;have HFP:=Lib.hid hFp;have HAP:=Lib.hid hap;have HF:=Lib.hid hF;have HN:=Lib.hid hn;clear hpl hM1 hg1 eq er ep hsp hsv hFp hap hF hn hmap hg ha hb hm hmin hset hmax;go_wp2_with fail;refine(HPL.out _).mono ?_;rintro e w1' ⟨rfl,rfl⟩
     by_cases hsh:RK.shelves k m a q=true
     ·
      have hlk:=spotsF_in (sp:=sp) hsh;have HSH:=Lib.hid hsh;obtain⟨sv1,hsv1⟩:∃s,sp q=s:=⟨_,rfl⟩
      rw[hsv1]at hlk;have HSV1:=Lib.hid hsv1;have HLK:=Lib.hid hlk;clear hsh hsv1 hlk;go_upto_region 11 with fail;refine with_act fun a0 ha0=>?_;have hsz0:a0.tmps.size=120:=by rw[ha0]; rfl
      refine wp_region_vals (W0:=w1) (by kernel_rfl) (by kernel_rfl) [(61,.pointer (some ⟨g,0,none⟩)),(62,.pointer (some ⟨g,0,none⟩)),(63,.pointer (some ⟨g,4,none⟩)),(64,.map (some bm)),(65,.int .i64 x),(66,.int .i64 p),(67,.int .i64 q),(68,.tuple #[sv1,.bool true]),(60,.tuple #[sv1,.bool true]),(69,sv1),(70,.bool true),(10,sv1),(11,.bool true)] rfl (by show([61,62,63,64,65,66,67,68,60,69,70,10,11]:List Nat).Nodup; decide) _ hsz0 (by kernel_rfl) (BelX.start _ _) ⟨⟨rfl,?y3v0⟩,⟨rfl,?y3v1⟩,⟨rfl,?y3v2⟩,⟨rfl,?y3v3⟩,⟨rfl,?y3v4⟩,⟨rfl,?y3v5⟩,⟨rfl,?y3v6⟩,⟨rfl,?y3v7⟩,⟨rfl,?y3v8⟩,⟨rfl,?y3v9⟩,⟨rfl,?y3v10⟩,⟨rfl,?y3v11⟩,⟨rfl,?y3v12⟩,trivial⟩ ?y3done
      case y3v0 =>
       exact mvVi rfl rfl rfl (by kernel_rfl) (by rw[ha0]; rfl)
      case y3v1 =>
       intro a' w' hA hdep hX K hK;obtain⟨r61,q61⟩:=dpv hdep ⟨0,.data⟩ (by simp) rfl rfl;clear hdep ha0 hA;refine StepG.value (wanted_none rfl) rfl ?_ (hK _ hX);simp[go_sem, *]
      case y3v2 =>
       intro a' w' hA hdep hX K hK;obtain⟨r62,q62⟩:=dpv hdep ⟨1,.data⟩ (by simp) rfl rfl;clear hdep ha0 hA;refine StepG.value (wanted_none rfl) rfl ?_ (hK _ hX);simp[go_sem, *]
      case y3v3 =>
       intro a' w' hA hdep hX K hK;obtain⟨r63,q63⟩:=dpv hdep ⟨2,.data⟩ (by simp) rfl rfl;have kc0:w'.cell? ⟨g,4,none⟩=some (.map (some bm)):=hX.cell (by simp) (by first | assumption | (go_simp; done) | (simp; done));clear hdep ha0 hA;refine StepG.value (wanted_none rfl) rfl ?_ (hK _ hX);simp[go_sem, *]
      case y3v4 =>
       exact mvVi rfl rfl rfl (by kernel_rfl) (by rw[ha0]; rfl)
      case y3v5 =>
       exact mvVi rfl rfl rfl (by kernel_rfl) (by rw[ha0]; rfl)
      case y3v6 =>
       intro a' w' hA hdep hX K hK;obtain⟨r65,q65⟩:=dpv hdep ⟨4,.data⟩ (by simp) rfl rfl;obtain⟨r66,q66⟩:=dpv hdep ⟨5,.data⟩ (by simp) rfl rfl;clear hdep ha0 hA;refine StepG.value (wanted_none rfl) rfl ?_ (hK _ hX);simp[go_sem, *]
      case y3v7 =>
       intro a' w' hA hdep hX K hK;obtain⟨r64,q64⟩:=dpv hdep ⟨3,.data⟩ (by simp) rfl rfl;obtain⟨r67,q67⟩:=dpv hdep ⟨6,.data⟩ (by simp) rfl rfl;have kx0:=(show(Instr.lookup 166 (.map (some bm)) (.int .i64 (q:Int)) true).run Tryz.prog w'=.ok (.tuple #[sv1,.bool true]) w' by have h:=(HM1.out.of_block (hX.block bm hbs1 (by simp))).look Tryz.underlying3 Tryz.underlying166 (zero_shape _) hin true; rw[HLK.out]at h; exact h)
       clear hdep ha0 hA;refine StepG.value (wanted_none rfl) rfl ?_ (hK _ hX);simp[go_sem, *]
      case y3v8 =>
       exact mvV ⟨7,.data⟩ (by simp) rfl rfl rfl rfl rfl
      case y3v9 =>
       intro a' w' hA hdep hX K hK;obtain⟨r60,q60⟩:=dpv hdep ⟨8,.data⟩ (by simp) rfl rfl;clear hdep ha0 hA;refine StepG.value (wanted_none rfl) rfl ?_ (hK _ hX);simp[go_sem, *]
      case y3v10 =>
       intro a' w' hA hdep hX K hK;obtain⟨r60,q60⟩:=dpv hdep ⟨8,.data⟩ (by simp) rfl rfl;clear hdep ha0 hA;refine StepG.value (wanted_none rfl) rfl ?_ (hK _ hX);simp[go_sem, *]
      case y3v11 =>
       intro a' w' hA hdep hX K hK;obtain⟨r69,q69⟩:=dpv hdep ⟨9,.data⟩ (by simp) rfl rfl;clear hdep ha0 hA;refine StepG.value (wanted_none rfl) rfl ?_ (hK _ hX);simp[go_sem, *]
      case y3v12 =>
       intro a' w' hA hdep hX K hK;obtain⟨r70,q70⟩:=dpv hdep ⟨10,.data⟩ (by simp) rfl rfl;clear hdep ha0 hA;refine StepG.value (wanted_none rfl) rfl ?_ (hK _ hX);simp[go_sem, *]
      intro w2 hXR;rw[ha0]; simp only[putL,Act.put,sA_,sZ_,sS_];clear ha0 hsz0;have hg2:=(hXR.block g hgs1 (by simp)).trans HG1.out;have hM2:=HM1.out.of_block (hXR.block bm hbs1 (by simp));have HX2:=Lib.hid hXR;have HM2:=Lib.hid hM2;have HG2:=Lib.hid hg2;clear c0 c1 c2 c3 c4 hXR hM2;obtain⟨c0,c1,c2,c3,c4⟩:=row5 hg2;clear hg2;go_upto_region 15 with fail;have hbs2:=HM2.out.lt;have hgs2:=blk_lt HG2.out;have hRep:Rep ty k w2.drew sv1 (RK.spot k m a q) (Fp q):=by
       have h1:=HSP.out q HSH.out;rw[HSV1.out]at h1;refine(h1.kept (BelP.ofX hX1) (fun c hc h=>?_)).frame k (fun c hc=>?_)
       ·
        have e:c=g:=by simpa using h
        exact(HAP.out.2.2.2.1 q).1 (e ▸ hc)
       · exact HX2.out.block c (by have:=h1.lt k c hc; have:=hX1.size; omega) (by simp)
      have hm':RK.spot k m a q r=false:=by
       cases h1:RK.spot k m a q r
       · rfl
       · exfalso;rw[<-HEQ.out,<-HER.out]at h1;obtain⟨-,h2,h3⟩:=(RK.spot_iff _ _ _ _ _).1 h1;rw[RK.join_split]at h2 h3;exact absurd h2 (by rw[HMH.out]; decide)
      have HC:=Lib.hid ((ih sv1 (RK.spot k m a q) (Fp q) r w2.drew (by omega) hRep (by rw[HEP.out]; omega) hm').mono (R':=fun e w'=>∃y,e=.returned y/\∃F',Rep ty k w' y (RK.ins (RK.spot k m a q) r) F'/\BelP (Fp q) w2.drew w'/\∀c,F' c->Fp q c∨w2.heap.size<=c) (fun e w' ⟨v',F',h1,h2⟩=>⟨v',h1,F',h2⟩));clear hRep hm';refine with_act fun a0 ha0=>?_;have hsz0:a0.tmps.size=120:=by rw[ha0]; rfl
      refine wp_region_call1 (by kernel_rfl) (by kernel_rfl) [(88,.pointer (some ⟨g,0,none⟩)),(89,.pointer (some ⟨g,0,none⟩)),(90,.pointer (some ⟨g,4,none⟩)),(91,.map (some bm)),(92,.int .i64 x),(93,.int .i64 p),(94,.int .i64 q),(95,sv1),(96,.int .i64 ((k:Int)+1)),(97,.int .i64 k),(98,.int .i64 x),(99,.int .i64 p),(100,.int .i64 r),(101,.nilIface)] 13 101 (.nilIface) _ rfl rfl rfl (by kernel_rfl) rfl (by show([88,89,90,91,92,93,94,95,96,97,98,99,100,101]:List Nat).Nodup; decide) _ hsz0 (by kernel_rfl) (fun wx:World=>wx.cell? ⟨g,4,none⟩=some (.map (some bm))/\True) (fun y w'=>∃F',Rep ty k w' y (RK.ins (RK.spot k m a q) r) F'/\BelP (Fp q) w2.drew w'/\∀c,F' c->(Fp q) c∨w2.heap.size<=c) ⟨(by first | assumption | exact(show w2.cell? ⟨g,4,none⟩=some (.map (some bm)) from by assumption)),trivial⟩ ?z10keep ⟨⟨rfl,?z10v0⟩,⟨rfl,?z10v1⟩,⟨rfl,?z10v2⟩,⟨rfl,?z10v3⟩,⟨rfl,?z10v4⟩,⟨rfl,?z10v5⟩,⟨rfl,?z10v6⟩,⟨rfl,?z10v7⟩,⟨rfl,?z10v8⟩,⟨rfl,?z10v9⟩,⟨rfl,?z10v10⟩,⟨rfl,?z10v11⟩,⟨rfl,?z10v12⟩,⟨rfl,?z10v13⟩,trivial⟩ ?z10done
      case z10keep=>exact(fun y w' ⟨F',_,hB,_⟩=>⟨(World.cell?_of_block (hB.block g hgs2 (HAP.out.2.2.2.1 q).1)).trans c4,trivial⟩)
      case z10v0 =>
       exact mvCi (by decide) rfl rfl rfl (by kernel_rfl) (by rw[ha0]; rfl)
      case z10v1 =>
       rw[if_neg (by decide)];intro a' w' hA hdep hS K hK;obtain⟨r88,q88⟩:=dpc hdep ⟨0,.data⟩ (by simp) (by decide) rfl rfl;clear hdep ha0 hA;refine StepG.value (wanted_none rfl) rfl ?_ hK;simp[go_sem, *]
      case z10v2 =>
       rw[if_neg (by decide)];intro a' w' hA hdep hS K hK;obtain⟨r89,q89⟩:=dpc hdep ⟨1,.data⟩ (by simp) (by decide) rfl rfl;clear hdep ha0 hA;refine StepG.value (wanted_none rfl) rfl ?_ hK;simp[go_sem, *]
      case z10v3 =>
       rw[if_neg (by decide)];intro a' w' hA hdep hS K hK;obtain⟨r90,q90⟩:=dpc hdep ⟨2,.data⟩ (by simp) (by decide) rfl rfl;obtain⟨kc0,_⟩:=hS;clear hdep ha0 hA;refine StepG.value (wanted_none rfl) rfl ?_ hK;simp[go_sem, *]
      case z10v4 =>
       exact mvCi (by decide) rfl rfl rfl (by kernel_rfl) (by rw[ha0]; rfl)
      case z10v5 =>
       exact mvCi (by decide) rfl rfl rfl (by kernel_rfl) (by rw[ha0]; rfl)
      case z10v6 =>
       rw[if_neg (by decide)];intro a' w' hA hdep hS K hK;obtain⟨r92,q92⟩:=dpc hdep ⟨4,.data⟩ (by simp) (by decide) rfl rfl;obtain⟨r93,q93⟩:=dpc hdep ⟨5,.data⟩ (by simp) (by decide) rfl rfl;clear hdep ha0 hA;refine StepG.value (wanted_none rfl) rfl ?_ hK;simp[go_sem, *]
      case z10v7 =>
       exact mvCi (by decide) rfl rfl rfl (by kernel_rfl) (by rw[ha0]; rfl)
      case z10v8 =>
       exact mvCi (by decide) rfl rfl rfl (by kernel_rfl) (by rw[ha0]; rfl)
      case z10v9 =>
       rw[if_neg (by decide)];intro a' w' hA hdep hS K hK;obtain⟨r96,q96⟩:=dpc hdep ⟨8,.data⟩ (by simp) (by decide) rfl rfl;clear hdep ha0 hA;refine StepG.value (wanted_none rfl) rfl ?_ hK;simp[go_sem, *]
      case z10v10 =>
       exact mvCi (by decide) rfl rfl rfl (by kernel_rfl) (by rw[ha0]; rfl)
      case z10v11 =>
       exact mvCi (by decide) rfl rfl rfl (by kernel_rfl) (by rw[ha0]; rfl)
      case z10v12 =>
       rw[if_neg (by decide)];intro a' w' hA hdep hS K hK;obtain⟨r98,q98⟩:=dpc hdep ⟨10,.data⟩ (by simp) (by decide) rfl rfl;obtain⟨r99,q99⟩:=dpc hdep ⟨11,.data⟩ (by simp) (by decide) rfl rfl;clear hdep ha0 hA;refine StepG.value (wanted_none rfl) rfl ?_ hK;simp[go_sem, *]
      case z10v13 =>
       rw[if_pos rfl];intro a' hA hdep K hK;obtain⟨r95,q95⟩:=dpc hdep ⟨7,.data⟩ (by simp) (by decide) rfl rfl;obtain⟨r97,q97⟩:=dpc hdep ⟨9,.data⟩ (by simp) (by decide) rfl rfl;obtain⟨r100,q100⟩:=dpc hdep ⟨12,.data⟩ (by simp) (by decide) rfl rfl;clear hdep ha0 hA;refine StepG.callE (wanted_none rfl) rfl ?_ (HC.out) hK;simp[go_sem, *]
      intro y w3 hR3;rw[ha0]; simp only[List.set_cons_zero,List.set_cons_succ,putL,Act.put,List.setIfInBounds_toArray];clear ha0 hsz0;obtain⟨Fo',hR3,hB3,hF3⟩:=hR3;obtain⟨o,hrun,hm4⟩:=(HM2.out.of_block (hB3.block bm hbs2 (HAP.out.2.2.2.1 q).2)).put Tryz.underlying3 Tryz.underlying166 hin y;obtain⟨w4,h4⟩:∃wx,wx=setBlock w3 bm o:=⟨_,rfl⟩
      rw[<-h4]at hrun hm4;have HR3:=Lib.hid hR3;have HB3:=Lib.hid hB3;have HF3:=Lib.hid hF3;have HM4:=Lib.hid hm4;have H4:=Lib.hid h4;clear hR3 hB3 hF3 hm4 h4 c0 c1 c2 c3 c4;go_wp2_with fail
      go_ret
      have heq:=HEQ.out;have her:=HER.out;subst heq her;have hX1':=BelP.ofX hX1;have hX2':=BelP.ofX HX2.out;have hB3:=HB3.out;have hs2:w.heap.size<=w2.heap.size:=Nat.le_trans hX1.size HX2.out.size;have h4':=H4.out;have hB34:BelP (fun c=>c=g∨c=bm) w3 w4:=by
       rw[h4'];exact(BelP.ofX ((BelX.here [bm] w3).setBlk (by simp) o)).mono (fun c _ h=>.inr (by simpa using h))
      have hB24:BelP (fun c=>c=g∨c=bm∨Fp (x / RK.R k) c) w2 w4 :=
       BelP.trans (BelP.mono (show BelP (Fp (x / RK.R k)) w2 w3 from⟨hB3.os,hB3.tape,hB3.output,hB3.size,hB3.block⟩) (fun c _ h=>.inr (.inr h))) hB34 (fun c _ h=>h.elim .inl (fun h=>.inr (.inl h)))
      have hg3:w3.heap[g]?=some (.cells #[.int .i64 a,.int .i64 x,.int .i64 ((k:Int)+1),sv,.map (some bm)] 168 (0,0)):=(hB3.block g hgs2 (HAP.out.2.2.2.1 _).1).trans HG2.out;have hg4:w4.heap[g]?=some (.cells #[.int .i64 a,.int .i64 x,.int .i64 ((k:Int)+1),sv,.map (some bm)] 168 (0,0)):=by
       rw[h4'];exact(((BelX.here [bm] w3).setBlk (b:=bm) (by simp) o).block g (blk_lt hg3) (by simp; exact HAP.out.1)).trans hg3
      obtain⟨F',hRF,hFF⟩:=rep_ins (T:=ty) (w:=w) (w2:=w2) (w3:=w3) (w4:=w4) (y:=x) HN.out hy HSET.out HMIN.out HMAX.out HSP.out HFP.out HAP.out hgs hbs
       (BelP.trans (BelP.trans (hX1'.mono (fun c _ h=>.inl (by simpa using h))) hX2' (fun c _ h=>by simp at h)) hB24 (fun c _ h=>by
        rcases h with h | h | h
        · exact .inl h
        · exact .inr (.inl h)
        · exact .inr (.inr (.inr h))))
       hs2 (sv':=sv) (Fs':=Fs) (by
        rw[RK.ins_same HSH.out];exact(HSV.out.kept hX1' (fun c hc h=>HAP.out.2.1 ((show c=g by simpa using h) ▸ hc))).kept hX2' (fun c _ h=>by simp at h))
       (fun c h=>.inl h) hB24 HR3.out HF3.out hB34 hg4 HM4.out
      refine⟨_,F',rfl,hRF,?_,fun c h=>?_⟩
      ·
       refine BelP.trans (BelP.trans (hX1'.mono (fun c _ h=>(HF.out c).2 (.inl (by simpa using h)))) hX2' (fun c _ h=>by simp at h)) hB24 (fun c _ h=>(HF.out c).2 ?_);rcases h with h | h | h
       · exact .inl h
       · exact .inr (.inl h)
       · exact .inr (.inr (.inr ⟨_,h⟩))
      ·
       rcases hFF c h with h | h
       · exact .inl ((HF.out c).2 h)
       · exact .inr h
     ·
      have hlk:=spotsF_out (sp:=sp) hsh;have HSH:=Lib.hid hsh;have HLK:=Lib.hid hlk;clear hsh hlk;go_upto_region 11 with fail;refine with_act fun a0 ha0=>?_;have hsz0:a0.tmps.size=120:=by rw[ha0]; rfl
      refine wp_region_vals (W0:=w1) (by kernel_rfl) (by kernel_rfl) [(61,.pointer (some ⟨g,0,none⟩)),(62,.pointer (some ⟨g,0,none⟩)),(63,.pointer (some ⟨g,4,none⟩)),(64,.map (some bm)),(65,.int .i64 x),(66,.int .i64 p),(67,.int .i64 q),(68,.tuple #[.nilIface,.bool false]),(60,.tuple #[.nilIface,.bool false]),(69,.nilIface),(70,.bool false),(10,.nilIface),(11,.bool false)] rfl (by show([61,62,63,64,65,66,67,68,60,69,70,10,11]:List Nat).Nodup; decide) _ hsz0 (by kernel_rfl) (BelX.start _ _) ⟨⟨rfl,?y4v0⟩,⟨rfl,?y4v1⟩,⟨rfl,?y4v2⟩,⟨rfl,?y4v3⟩,⟨rfl,?y4v4⟩,⟨rfl,?y4v5⟩,⟨rfl,?y4v6⟩,⟨rfl,?y4v7⟩,⟨rfl,?y4v8⟩,⟨rfl,?y4v9⟩,⟨rfl,?y4v10⟩,⟨rfl,?y4v11⟩,⟨rfl,?y4v12⟩,trivial⟩ ?y4done
      case y4v0 =>
       exact mvVi rfl rfl rfl (by kernel_rfl) (by rw[ha0]; rfl)
      case y4v1 =>
       intro a' w' hA hdep hX K hK;obtain⟨r61,q61⟩:=dpv hdep ⟨0,.data⟩ (by simp) rfl rfl;clear hdep ha0 hA;refine StepG.value (wanted_none rfl) rfl ?_ (hK _ hX);simp[go_sem, *]
      case y4v2 =>
       intro a' w' hA hdep hX K hK;obtain⟨r62,q62⟩:=dpv hdep ⟨1,.data⟩ (by simp) rfl rfl;clear hdep ha0 hA;refine StepG.value (wanted_none rfl) rfl ?_ (hK _ hX);simp[go_sem, *]
      case y4v3 =>
       intro a' w' hA hdep hX K hK;obtain⟨r63,q63⟩:=dpv hdep ⟨2,.data⟩ (by simp) rfl rfl;have kc0:w'.cell? ⟨g,4,none⟩=some (.map (some bm)):=hX.cell (by simp) (by first | assumption | (go_simp; done) | (simp; done));clear hdep ha0 hA;refine StepG.value (wanted_none rfl) rfl ?_ (hK _ hX);simp[go_sem, *]
      case y4v4 =>
       exact mvVi rfl rfl rfl (by kernel_rfl) (by rw[ha0]; rfl)
      case y4v5 =>
       exact mvVi rfl rfl rfl (by kernel_rfl) (by rw[ha0]; rfl)
      case y4v6 =>
       intro a' w' hA hdep hX K hK;obtain⟨r65,q65⟩:=dpv hdep ⟨4,.data⟩ (by simp) rfl rfl;obtain⟨r66,q66⟩:=dpv hdep ⟨5,.data⟩ (by simp) rfl rfl;clear hdep ha0 hA;refine StepG.value (wanted_none rfl) rfl ?_ (hK _ hX);simp[go_sem, *]
      case y4v7 =>
       intro a' w' hA hdep hX K hK;obtain⟨r64,q64⟩:=dpv hdep ⟨3,.data⟩ (by simp) rfl rfl;obtain⟨r67,q67⟩:=dpv hdep ⟨6,.data⟩ (by simp) rfl rfl;have kx0:=(show(Instr.lookup 166 (.map (some bm)) (.int .i64 (q:Int)) true).run Tryz.prog w'=.ok (.tuple #[.nilIface,.bool false]) w' by have h:=(HM1.out.of_block (hX.block bm hbs1 (by simp))).look Tryz.underlying3 Tryz.underlying166 (zero_shape _) hin true; rw[HLK.out]at h; exact h)
       clear hdep ha0 hA;refine StepG.value (wanted_none rfl) rfl ?_ (hK _ hX);simp[go_sem, *]
      case y4v8 =>
       exact mvV ⟨7,.data⟩ (by simp) rfl rfl rfl rfl rfl
      case y4v9 =>
       intro a' w' hA hdep hX K hK;obtain⟨r60,q60⟩:=dpv hdep ⟨8,.data⟩ (by simp) rfl rfl;clear hdep ha0 hA;refine StepG.value (wanted_none rfl) rfl ?_ (hK _ hX);simp[go_sem, *]
      case y4v10 =>
       intro a' w' hA hdep hX K hK;obtain⟨r60,q60⟩:=dpv hdep ⟨8,.data⟩ (by simp) rfl rfl;clear hdep ha0 hA;refine StepG.value (wanted_none rfl) rfl ?_ (hK _ hX);simp[go_sem, *]
      case y4v11 =>
       intro a' w' hA hdep hX K hK;obtain⟨r69,q69⟩:=dpv hdep ⟨9,.data⟩ (by simp) rfl rfl;clear hdep ha0 hA;refine StepG.value (wanted_none rfl) rfl ?_ (hK _ hX);simp[go_sem, *]
      case y4v12 =>
       intro a' w' hA hdep hX K hK;obtain⟨r70,q70⟩:=dpv hdep ⟨10,.data⟩ (by simp) rfl rfl;clear hdep ha0 hA;refine StepG.value (wanted_none rfl) rfl ?_ (hK _ hX);simp[go_sem, *]
      intro w2 hXR;rw[ha0]; simp only[putL,Act.put,sA_,sZ_,sS_];clear ha0 hsz0;have hg2:=(hXR.block g hgs1 (by simp)).trans HG1.out;have hM2:=HM1.out.of_block (hXR.block bm hbs1 (by simp));have HX2:=Lib.hid hXR;have HM2:=Lib.hid hM2;have HG2:=Lib.hid hg2;clear c0 c1 c2 c3 c4 hXR hM2;obtain⟨c0,c1,c2,c3,c4⟩:=row5 hg2;clear hg2;have hbs2:=HM2.out.lt;have hgs2:=blk_lt HG2.out;have hRep:Rep ty k w2.drew sv (RK.shelves k m a) Fs:=by
       refine(HSV.out.kept (BelP.ofX hX1) (fun c hc h=>HAP.out.2.1 ((show c=g by simpa using h) ▸ hc))).frame k (fun c hc=>?_);exact HX2.out.block c (by have:=HSV.out.lt k c hc; have:=hX1.size; omega) (by simp)
      have HC1:=Lib.hid ((ih sv (RK.shelves k m a) Fs q w2.drew (by omega) hRep (by rw[HEP.out]; omega) (by simpa using HSH.out)).mono (R':=fun e w'=>∃y,e=.returned y/\∃F',Rep ty k w' y (RK.ins (RK.shelves k m a) q) F'/\BelP Fs w2.drew w'/\∀c,F' c->Fs c∨w2.heap.size<=c) (fun e w' ⟨v',F',h1,h2⟩=>⟨v',h1,F',h2⟩));clear hRep;go_upto_region 14 with fail;refine with_act fun a0 ha0=>?_;have hsz0:a0.tmps.size=120:=by rw[ha0]; rfl
      refine wp_region_call1 (by kernel_rfl) (by kernel_rfl) [(75,.pointer (some ⟨g,0,none⟩)),(76,.pointer (some ⟨g,0,none⟩)),(77,.pointer (some ⟨g,0,none⟩)),(78,.pointer (some ⟨g,3,none⟩)),(79,sv),(80,.int .i64 ((k:Int)+1)),(81,.int .i64 k),(82,.int .i64 x),(83,.int .i64 p),(84,.int .i64 q),(85,.nilIface),(86,.pointer (some ⟨g,0,none⟩)),(87,.pointer (some ⟨g,3,none⟩))] 10 85 (.nilIface) _ rfl rfl rfl (by kernel_rfl) rfl (by show([75,76,77,78,79,80,81,82,83,84,85,86,87]:List Nat).Nodup; decide) _ hsz0 (by kernel_rfl) (fun wx:World=>wx.cell? ⟨g,3,none⟩=some (sv)/\True) (fun y w'=>∃F',Rep ty k w' y (RK.ins (RK.shelves k m a) q) F'/\BelP Fs w2.drew w'/\∀c,F' c->Fs c∨w2.heap.size<=c) ⟨(by first | assumption | exact(show w2.cell? ⟨g,3,none⟩=some (sv) from by assumption)),trivial⟩ ?z11keep ⟨⟨rfl,?z11v0⟩,⟨rfl,?z11v1⟩,⟨rfl,?z11v2⟩,⟨rfl,?z11v3⟩,⟨rfl,?z11v4⟩,⟨rfl,?z11v5⟩,⟨rfl,?z11v6⟩,⟨rfl,?z11v7⟩,⟨rfl,?z11v8⟩,⟨rfl,?z11v9⟩,⟨rfl,?z11v10⟩,⟨rfl,?z11v11⟩,⟨rfl,?z11v12⟩,trivial⟩ ?z11done
      case z11keep=>exact(fun y w' ⟨F',_,hB,_⟩=>⟨(World.cell?_of_block (hB.block g hgs2 HAP.out.2.1)).trans c3,trivial⟩)
      case z11v0 =>
       exact mvCi (by decide) rfl rfl rfl (by kernel_rfl) (by rw[ha0]; rfl)
      case z11v1 =>
       exact mvCi (by decide) rfl rfl rfl (by kernel_rfl) (by rw[ha0]; rfl)
      case z11v2 =>
       rw[if_neg (by decide)];intro a' w' hA hdep hS K hK;obtain⟨r76,q76⟩:=dpc hdep ⟨1,.data⟩ (by simp) (by decide) rfl rfl;clear hdep ha0 hA;refine StepG.value (wanted_none rfl) rfl ?_ hK;simp[go_sem, *]
      case z11v3 =>
       rw[if_neg (by decide)];intro a' w' hA hdep hS K hK;obtain⟨r77,q77⟩:=dpc hdep ⟨2,.data⟩ (by simp) (by decide) rfl rfl;clear hdep ha0 hA;refine StepG.value (wanted_none rfl) rfl ?_ hK;simp[go_sem, *]
      case z11v4 =>
       rw[if_neg (by decide)];intro a' w' hA hdep hS K hK;obtain⟨r78,q78⟩:=dpc hdep ⟨3,.data⟩ (by simp) (by decide) rfl rfl;obtain⟨kc0,_⟩:=hS;clear hdep ha0 hA;refine StepG.value (wanted_none rfl) rfl ?_ hK;simp[go_sem, *]
      case z11v5 =>
       exact mvCi (by decide) rfl rfl rfl (by kernel_rfl) (by rw[ha0]; rfl)
      case z11v6 =>
       rw[if_neg (by decide)];intro a' w' hA hdep hS K hK;obtain⟨r80,q80⟩:=dpc hdep ⟨5,.data⟩ (by simp) (by decide) rfl rfl;clear hdep ha0 hA;refine StepG.value (wanted_none rfl) rfl ?_ hK;simp[go_sem, *]
      case z11v7 =>
       exact mvCi (by decide) rfl rfl rfl (by kernel_rfl) (by rw[ha0]; rfl)
      case z11v8 =>
       exact mvCi (by decide) rfl rfl rfl (by kernel_rfl) (by rw[ha0]; rfl)
      case z11v9 =>
       rw[if_neg (by decide)];intro a' w' hA hdep hS K hK;obtain⟨r82,q82⟩:=dpc hdep ⟨7,.data⟩ (by simp) (by decide) rfl rfl;obtain⟨r83,q83⟩:=dpc hdep ⟨8,.data⟩ (by simp) (by decide) rfl rfl;clear hdep ha0 hA;refine StepG.value (wanted_none rfl) rfl ?_ hK;simp[go_sem, *]
      case z11v10 =>
       rw[if_pos rfl];intro a' hA hdep K hK;obtain⟨r79,q79⟩:=dpc hdep ⟨4,.data⟩ (by simp) (by decide) rfl rfl;obtain⟨r81,q81⟩:=dpc hdep ⟨6,.data⟩ (by simp) (by decide) rfl rfl;obtain⟨r84,q84⟩:=dpc hdep ⟨9,.data⟩ (by simp) (by decide) rfl rfl;clear hdep ha0 hA;refine StepG.callE (wanted_none rfl) rfl ?_ (HC1.out) hK;simp[go_sem, *]
      case z11v11 =>
       rw[if_neg (by decide)];intro a' w' hA hdep hS K hK;obtain⟨r75,q75⟩:=dpc hdep ⟨0,.data⟩ (by simp) (by decide) rfl rfl;clear hdep ha0 hA;refine StepG.value (wanted_none rfl) rfl ?_ hK;simp[go_sem, *]
      case z11v12 =>
       rw[if_neg (by decide)];intro a' w' hA hdep hS K hK;obtain⟨r86,q86⟩:=dpc hdep ⟨11,.data⟩ (by simp) (by decide) rfl rfl;clear hdep ha0 hA;refine StepG.value (wanted_none rfl) rfl ?_ hK;simp[go_sem, *]
      intro y1 w3 hR3;rw[ha0]; simp only[List.set_cons_zero,List.set_cons_succ,putL,Act.put,List.setIfInBounds_toArray];clear ha0 hsz0;obtain⟨Fs',hR3,hB3,hF3⟩:=hR3;obtain⟨tt,xx,rfl⟩:=hR3.iface;have hg3:=(hB3.block g hgs2 HAP.out.2.1).trans HG2.out;have fz3:=row_f hg3;clear c0 c1 c2 c3 c4;obtain⟨c0,c1,c2,c3,c4⟩:=row5 hg3;have HR3:=Lib.hid hR3;have HB3:=Lib.hid hB3;have HF3:=Lib.hid hF3;have HG3:=Lib.hid hg3;clear hR3 hB3 hF3 hg3;go_upto_region 15 with fail;obtain⟨w4,h4⟩:∃wx:World,wx=w3.setCell ⟨g,3,none⟩ (.iface tt xx):=⟨_,rfl⟩
      rw[<-h4];have hg4:w4.heap[g]?=some (.cells #[.int .i64 a,.int .i64 x,.int .i64 ((k:Int)+1),.iface tt xx,.map (some bm)] 168 (0,0)):=by rw[h4]; simp[World.setCell,Array.getElem?_modify,HG3.out]
      have hX4:BelX [g] w3 w4:=by rw[h4]; exact(BelX.here [g] w3).setOld (p:=⟨g,3,none⟩) (by simp) _
      have hs4:w3.heap.size<=w4.heap.size:=hX4.size;have hs43:w4.heap.size=w3.heap.size:=by rw[h4]; simp[World.setCell]
      clear h4 c0 c1 c2 c3 c4 fz3;obtain⟨c0,c1,c2,c3,c4⟩:=row5 hg4;have hgs4:=blk_lt hg4;have hM3:=HM2.out.of_block (HB3.out.block bm hbs2 HAP.out.2.2.1);have hM4:=hM3.of_block (hX4.block bm hM3.lt (by simp; exact fun e=>HAP.out.1 e.symm));have hbs4:=hM4.lt;have HM4:=Lib.hid hM4;have HG4:=Lib.hid hg4;have hem:RK.Emp (RK.spot k m a q):=RK.shelf_none (by simpa using HSH.out) (by rw[HEP.out]; exact q2);have HC2:=Lib.hid ((ih (vE ty) (RK.spot k m a q) (fun _=>False) r w4.drew (by omega) (rep_empty ty k _ hem) (by rw[HEP.out]; omega) (hem r)).mono (R':=fun e w'=>∃y,e=.returned y/\∃F',Rep ty k w' y (RK.ins (RK.spot k m a q) r) F'/\BelP (fun _=>False) w4.drew w'/\∀c,F' c->(fun _=>False) c∨w4.heap.size<=c) (fun e w' ⟨v',F',h1,h2⟩=>⟨v',h1,F',h2⟩));have HC:=HC2;unfold vE at HC;clear HC2 hM3 hM4 hg4 hem;refine with_act fun a0 ha0=>?_;have hsz0:a0.tmps.size=120:=by rw[ha0]; rfl
      refine wp_region_call1 (by kernel_rfl) (by kernel_rfl) [(88,.pointer (some ⟨g,0,none⟩)),(89,.pointer (some ⟨g,0,none⟩)),(90,.pointer (some ⟨g,4,none⟩)),(91,.map (some bm)),(92,.int .i64 x),(93,.int .i64 p),(94,.int .i64 q),(95,.iface 154 (.agg #[])),(96,.int .i64 ((k:Int)+1)),(97,.int .i64 k),(98,.int .i64 x),(99,.int .i64 p),(100,.int .i64 r),(101,.nilIface)] 13 101 (.nilIface) _ rfl rfl rfl (by kernel_rfl) rfl (by show([88,89,90,91,92,93,94,95,96,97,98,99,100,101]:List Nat).Nodup; decide) _ hsz0 (by kernel_rfl) (fun wx:World=>wx.cell? ⟨g,4,none⟩=some (.map (some bm))/\True) (fun y w'=>∃F',Rep ty k w' y (RK.ins (RK.spot k m a q) r) F'/\BelP (fun _=>False) w4.drew w'/\∀c,F' c->(fun _=>False) c∨w4.heap.size<=c) ⟨(by first | assumption | exact(show w4.cell? ⟨g,4,none⟩=some (.map (some bm)) from by assumption)),trivial⟩ ?z12keep ⟨⟨rfl,?z12v0⟩,⟨rfl,?z12v1⟩,⟨rfl,?z12v2⟩,⟨rfl,?z12v3⟩,⟨rfl,?z12v4⟩,⟨rfl,?z12v5⟩,⟨rfl,?z12v6⟩,⟨rfl,?z12v7⟩,⟨rfl,?z12v8⟩,⟨rfl,?z12v9⟩,⟨rfl,?z12v10⟩,⟨rfl,?z12v11⟩,⟨rfl,?z12v12⟩,⟨rfl,?z12v13⟩,trivial⟩ ?z12done
      case z12keep=>exact(fun y w' ⟨F',_,hB,_⟩=>⟨(World.cell?_of_block (hB.block g hgs4 (fun h=>h))).trans c4,trivial⟩)
      case z12v0 =>
       exact mvCi (by decide) rfl rfl rfl (by kernel_rfl) (by rw[ha0]; rfl)
      case z12v1 =>
       rw[if_neg (by decide)];intro a' w' hA hdep hS K hK;obtain⟨r88,q88⟩:=dpc hdep ⟨0,.data⟩ (by simp) (by decide) rfl rfl;clear hdep ha0 hA;refine StepG.value (wanted_none rfl) rfl ?_ hK;simp[go_sem, *]
      case z12v2 =>
       rw[if_neg (by decide)];intro a' w' hA hdep hS K hK;obtain⟨r89,q89⟩:=dpc hdep ⟨1,.data⟩ (by simp) (by decide) rfl rfl;clear hdep ha0 hA;refine StepG.value (wanted_none rfl) rfl ?_ hK;simp[go_sem, *]
      case z12v3 =>
       rw[if_neg (by decide)];intro a' w' hA hdep hS K hK;obtain⟨r90,q90⟩:=dpc hdep ⟨2,.data⟩ (by simp) (by decide) rfl rfl;obtain⟨kc0,_⟩:=hS;clear hdep ha0 hA;refine StepG.value (wanted_none rfl) rfl ?_ hK;simp[go_sem, *]
      case z12v4 =>
       exact mvCi (by decide) rfl rfl rfl (by kernel_rfl) (by rw[ha0]; rfl)
      case z12v5 =>
       exact mvCi (by decide) rfl rfl rfl (by kernel_rfl) (by rw[ha0]; rfl)
      case z12v6 =>
       rw[if_neg (by decide)];intro a' w' hA hdep hS K hK;obtain⟨r92,q92⟩:=dpc hdep ⟨4,.data⟩ (by simp) (by decide) rfl rfl;obtain⟨r93,q93⟩:=dpc hdep ⟨5,.data⟩ (by simp) (by decide) rfl rfl;clear hdep ha0 hA;refine StepG.value (wanted_none rfl) rfl ?_ hK;simp[go_sem, *]
      case z12v7 =>
       exact mvCi (by decide) rfl rfl rfl (by kernel_rfl) (by rw[ha0]; rfl)
      case z12v8 =>
       exact mvCi (by decide) rfl rfl rfl (by kernel_rfl) (by rw[ha0]; rfl)
      case z12v9 =>
       rw[if_neg (by decide)];intro a' w' hA hdep hS K hK;obtain⟨r96,q96⟩:=dpc hdep ⟨8,.data⟩ (by simp) (by decide) rfl rfl;clear hdep ha0 hA;refine StepG.value (wanted_none rfl) rfl ?_ hK;simp[go_sem, *]
      case z12v10 =>
       exact mvCi (by decide) rfl rfl rfl (by kernel_rfl) (by rw[ha0]; rfl)
      case z12v11 =>
       exact mvCi (by decide) rfl rfl rfl (by kernel_rfl) (by rw[ha0]; rfl)
      case z12v12 =>
       rw[if_neg (by decide)];intro a' w' hA hdep hS K hK;obtain⟨r98,q98⟩:=dpc hdep ⟨10,.data⟩ (by simp) (by decide) rfl rfl;obtain⟨r99,q99⟩:=dpc hdep ⟨11,.data⟩ (by simp) (by decide) rfl rfl;clear hdep ha0 hA;refine StepG.value (wanted_none rfl) rfl ?_ hK;simp[go_sem, *]
      case z12v13 =>
       rw[if_pos rfl];intro a' hA hdep K hK;obtain⟨r95,q95⟩:=dpc hdep ⟨7,.data⟩ (by simp) (by decide) rfl rfl;obtain⟨r97,q97⟩:=dpc hdep ⟨9,.data⟩ (by simp) (by decide) rfl rfl;obtain⟨r100,q100⟩:=dpc hdep ⟨12,.data⟩ (by simp) (by decide) rfl rfl;clear hdep ha0 hA;refine StepG.callE (wanted_none rfl) rfl ?_ (HC.out) hK;simp[go_sem, *]
      intro y w5 hR5;rw[ha0]; simp only[List.set_cons_zero,List.set_cons_succ,putL,Act.put,List.setIfInBounds_toArray];clear ha0 hsz0;obtain⟨Fo',hR5,hB5,hF5⟩:=hR5;obtain⟨o,hrun,hm6⟩:=(HM4.out.of_block (hB5.block bm hbs4 (fun h=>h))).put Tryz.underlying3 Tryz.underlying166 hin y;obtain⟨w6,h6⟩:∃wx,wx=setBlock w5 bm o:=⟨_,rfl⟩
      rw[<-h6]at hrun hm6;have HR5:=Lib.hid hR5;have HB5:=Lib.hid hB5;have HF5:=Lib.hid hF5;have HM6:=Lib.hid hm6;have H6:=Lib.hid h6;clear hR5 hB5 hF5 hm6 h6 c0 c1 c2 c3 c4;go_wp2_with fail
      go_ret
      have heq:=HEQ.out;have her:=HER.out;subst heq her;have hX1':=BelP.ofX hX1;have hX2':=BelP.ofX HX2.out;have hX4':=BelP.ofX hX4;have hB3:=HB3.out;have hB5:=HB5.out;have hs2:w.heap.size<=w2.heap.size:=Nat.le_trans hX1.size HX2.out.size;have hs3:w2.heap.size<=w3.heap.size:=hB3.size;have h6':=H6.out;have hB56:BelP (fun c=>c=g∨c=bm) w5 w6:=by
       rw[h6'];exact(BelP.ofX ((BelX.here [bm] w5).setBlk (by simp) o)).mono (fun c _ h=>.inr (by simpa using h))
      have hB45:BelP (fun _=>False) w4 w5:=⟨hB5.os,hB5.tape,hB5.output,hB5.size,hB5.block⟩
      have hB23:BelP Fs w2 w3:=⟨hB3.os,hB3.tape,hB3.output,hB3.size,hB3.block⟩
      have hB36:BelP (fun c=>c=g∨c=bm∨Fp (x / RK.R k) c) w3 w6 :=
       BelP.trans (BelP.trans (hX4'.mono (fun c _ h=>.inl (by simpa using h))) hB45 (fun c _ h=>False.elim h)) hB56 (fun c _ h=>h.elim .inl (fun h=>.inr (.inl h)))
      have hg5:=(hB5.block g hgs4 (fun h=>h)).trans HG4.out;have hg6:w6.heap[g]?=some (.cells #[.int .i64 a,.int .i64 x,.int .i64 ((k:Int)+1),.iface tt xx,.map (some bm)] 168 (0,0)):=by
       rw[h6'];exact(((BelX.here [bm] w5).setBlk (b:=bm) (by simp) o).block g (blk_lt hg5) (by simp; exact HAP.out.1)).trans hg5
      have hBt:BelP (fun c=>c=g∨c=bm∨Fs c∨Fp (x / RK.R k) c) w w6 :=
       BelP.trans (BelP.trans (BelP.trans (hX1'.mono (fun c _ h=>.inl (by simpa using h))) hX2' (fun c _ h=>by simp at h)) hB23 (fun c _ h=>.inr (.inr (.inl h)))) hB36 (fun c _ h=>by
        rcases h with h | h | h
        · exact .inl h
        · exact .inr (.inl h)
        · exact .inr (.inr (.inr h)))
      obtain⟨F',hRF,hFF⟩:=rep_ins (T:=ty) (w:=w) (w2:=w3) (w3:=w5) (w4:=w6) (y:=x) HN.out hy HSET.out HMIN.out HMAX.out HSP.out HFP.out HAP.out hgs hbs hBt
       (Nat.le_trans hs2 hs3) (sv':=.iface tt xx) (Fs':=Fs') HR3.out (fun c h=>by
        rcases HF3.out c h with h | h
        · exact .inl h
        · exact .inr (Nat.le_trans hs2 h))
       hB36 HR5.out (fun c h=>by
        rcases HF5.out c h with h | h
        · exact False.elim h
        · exact .inr (by omega)) hB56 hg6 HM6.out
      refine⟨_,F',rfl,hRF,hBt.mono (fun c _ h=>(HF.out c).2 ?_),fun c h=>?_⟩
      ·
       rcases h with h | h | h | h
       · exact .inl h
       · exact .inr (.inl h)
       · exact .inr (.inr (.inl h))
       · exact .inr (.inr (.inr ⟨_,h⟩))
      ·
       rcases hFF c h with h | h
       · exact .inl ((HF.out c).2 h)
       · exact .inr h
    ·
     rw[Nat.max_eq_left (by omega)]at hmax;have HMAX:=Lib.hid hmax;have hxb2:x < b:=by omega
     go_enter Tryz.func97,Tryz.ntmps97;go_upto_region 10 with fail;obtain⟨w1,h1⟩:∃wx:World,wx=w.setCell ⟨g,1,none⟩ (.int .i64 b):=⟨_,rfl⟩
     rw[<-h1];have hg1:w1.heap[g]?=some (.cells #[.int .i64 a,.int .i64 b,.int .i64 ((k:Int)+1),sv,.map (some bm)] 168 (0,0)):=by rw[h1]; simp[World.setCell,Array.getElem?_modify,hg]
     have hX1:BelX [g] w w1:=by rw[h1]; exact(BelX.here [g] w).setOld (p:=⟨g,1,none⟩) (by simp) _
     have hM1:MapIs w1 bm (spotsF k m a sp):=hmap.of_block (hX1.block bm hbs (by simp; exact fun e=>hap.1 e.symm));have hbs1:=hM1.lt;have hgs1:=blk_lt hg1;clear h1 c0 c1 fz;obtain⟨c0,c1,c2,c3,c4⟩:=row5 hg1;have HM1:=Lib.hid hM1;have HG1:=Lib.hid hg1;obtain⟨q,r,p,eq,er,ep,hq,hr,q1,r1,p1,p2,q2,r2,y2⟩:=quo_facts (x:=x) hy hk;have hpl:=fun wx=>places_any (k:Int) k wx rfl (by omega);rw[ep]at hpl;have HPL:=Lib.hid hpl;have HEQ:=Lib.hid eq;have HER:=Lib.hid er;have HEP:=Lib.hid ep;have hp0:¬p=0:=by omega
     have hwq:=wrap_small q1;have hwr:=wrap_small r1;have hwk:=wrap_small (n:=k) (by omega);have hin:InInt (q:Int):=⟨by omega,by omega⟩
     have HSP:=Lib.hid hsp;have HSV:=Lib.hid hsv;have HFP:=Lib.hid hFp;have HAP:=Lib.hid hap;have HF:=Lib.hid hF;have HN:=Lib.hid hn;clear hpl hM1 hg1 eq er ep hsp hsv hFp hap hF hn hmap hg ha hb hm hmin hset hmax;go_wp2_with fail;refine(HPL.out _).mono ?_;rintro e w1' ⟨rfl,rfl⟩
     by_cases hsh:RK.shelves k m a q=true
     ·
      have hlk:=spotsF_in (sp:=sp) hsh;have HSH:=Lib.hid hsh;obtain⟨sv1,hsv1⟩:∃s,sp q=s:=⟨_,rfl⟩
      rw[hsv1]at hlk;have HSV1:=Lib.hid hsv1;have HLK:=Lib.hid hlk;clear hsh hsv1 hlk;go_upto_region 11 with fail;refine with_act fun a0 ha0=>?_;have hsz0:a0.tmps.size=120:=by rw[ha0]; rfl
      refine wp_region_vals (W0:=w1) (by kernel_rfl) (by kernel_rfl) [(61,.pointer (some ⟨g,0,none⟩)),(62,.pointer (some ⟨g,0,none⟩)),(63,.pointer (some ⟨g,4,none⟩)),(64,.map (some bm)),(65,.int .i64 x),(66,.int .i64 p),(67,.int .i64 q),(68,.tuple #[sv1,.bool true]),(60,.tuple #[sv1,.bool true]),(69,sv1),(70,.bool true),(10,sv1),(11,.bool true)] rfl (by show([61,62,63,64,65,66,67,68,60,69,70,10,11]:List Nat).Nodup; decide) _ hsz0 (by kernel_rfl) (BelX.start _ _) ⟨⟨rfl,?y5v0⟩,⟨rfl,?y5v1⟩,⟨rfl,?y5v2⟩,⟨rfl,?y5v3⟩,⟨rfl,?y5v4⟩,⟨rfl,?y5v5⟩,⟨rfl,?y5v6⟩,⟨rfl,?y5v7⟩,⟨rfl,?y5v8⟩,⟨rfl,?y5v9⟩,⟨rfl,?y5v10⟩,⟨rfl,?y5v11⟩,⟨rfl,?y5v12⟩,trivial⟩ ?y5done
      case y5v0 =>
       exact mvVi rfl rfl rfl (by kernel_rfl) (by rw[ha0]; rfl)
      case y5v1 =>
       intro a' w' hA hdep hX K hK;obtain⟨r61,q61⟩:=dpv hdep ⟨0,.data⟩ (by simp) rfl rfl;clear hdep ha0 hA;refine StepG.value (wanted_none rfl) rfl ?_ (hK _ hX);simp[go_sem, *]
      case y5v2 =>
       intro a' w' hA hdep hX K hK;obtain⟨r62,q62⟩:=dpv hdep ⟨1,.data⟩ (by simp) rfl rfl;clear hdep ha0 hA;refine StepG.value (wanted_none rfl) rfl ?_ (hK _ hX);simp[go_sem, *]
      case y5v3 =>
       intro a' w' hA hdep hX K hK;obtain⟨r63,q63⟩:=dpv hdep ⟨2,.data⟩ (by simp) rfl rfl;have kc0:w'.cell? ⟨g,4,none⟩=some (.map (some bm)):=hX.cell (by simp) (by first | assumption | (go_simp; done) | (simp; done));clear hdep ha0 hA;refine StepG.value (wanted_none rfl) rfl ?_ (hK _ hX);simp[go_sem, *]
      case y5v4 =>
       exact mvVi rfl rfl rfl (by kernel_rfl) (by rw[ha0]; rfl)
      case y5v5 =>
       exact mvVi rfl rfl rfl (by kernel_rfl) (by rw[ha0]; rfl)
      case y5v6 =>
       intro a' w' hA hdep hX K hK;obtain⟨r65,q65⟩:=dpv hdep ⟨4,.data⟩ (by simp) rfl rfl;obtain⟨r66,q66⟩:=dpv hdep ⟨5,.data⟩ (by simp) rfl rfl;clear hdep ha0 hA;refine StepG.value (wanted_none rfl) rfl ?_ (hK _ hX);simp[go_sem, *]
      case y5v7 =>
       intro a' w' hA hdep hX K hK;obtain⟨r64,q64⟩:=dpv hdep ⟨3,.data⟩ (by simp) rfl rfl;obtain⟨r67,q67⟩:=dpv hdep ⟨6,.data⟩ (by simp) rfl rfl;have kx0:=(show(Instr.lookup 166 (.map (some bm)) (.int .i64 (q:Int)) true).run Tryz.prog w'=.ok (.tuple #[sv1,.bool true]) w' by have h:=(HM1.out.of_block (hX.block bm hbs1 (by simp))).look Tryz.underlying3 Tryz.underlying166 (zero_shape _) hin true; rw[HLK.out]at h; exact h)
       clear hdep ha0 hA;refine StepG.value (wanted_none rfl) rfl ?_ (hK _ hX);simp[go_sem, *]
      case y5v8 =>
       exact mvV ⟨7,.data⟩ (by simp) rfl rfl rfl rfl rfl
      case y5v9 =>
       intro a' w' hA hdep hX K hK;obtain⟨r60,q60⟩:=dpv hdep ⟨8,.data⟩ (by simp) rfl rfl;clear hdep ha0 hA;refine StepG.value (wanted_none rfl) rfl ?_ (hK _ hX);simp[go_sem, *]
      case y5v10 =>
       intro a' w' hA hdep hX K hK;obtain⟨r60,q60⟩:=dpv hdep ⟨8,.data⟩ (by simp) rfl rfl;clear hdep ha0 hA;refine StepG.value (wanted_none rfl) rfl ?_ (hK _ hX);simp[go_sem, *]
      case y5v11 =>
       intro a' w' hA hdep hX K hK;obtain⟨r69,q69⟩:=dpv hdep ⟨9,.data⟩ (by simp) rfl rfl;clear hdep ha0 hA;refine StepG.value (wanted_none rfl) rfl ?_ (hK _ hX);simp[go_sem, *]
      case y5v12 =>
       intro a' w' hA hdep hX K hK;obtain⟨r70,q70⟩:=dpv hdep ⟨10,.data⟩ (by simp) rfl rfl;clear hdep ha0 hA;refine StepG.value (wanted_none rfl) rfl ?_ (hK _ hX);simp[go_sem, *]
      intro w2 hXR;rw[ha0]; simp only[putL,Act.put,sA_,sZ_,sS_];clear ha0 hsz0;have hg2:=(hXR.block g hgs1 (by simp)).trans HG1.out;have hM2:=HM1.out.of_block (hXR.block bm hbs1 (by simp));have HX2:=Lib.hid hXR;have HM2:=Lib.hid hM2;have HG2:=Lib.hid hg2;clear c0 c1 c2 c3 c4 hXR hM2;obtain⟨c0,c1,c2,c3,c4⟩:=row5 hg2;clear hg2;go_upto_region 15 with fail;have hbs2:=HM2.out.lt;have hgs2:=blk_lt HG2.out;have hRep:Rep ty k w2.drew sv1 (RK.spot k m a q) (Fp q):=by
       have h1:=HSP.out q HSH.out;rw[HSV1.out]at h1;refine(h1.kept (BelP.ofX hX1) (fun c hc h=>?_)).frame k (fun c hc=>?_)
       ·
        have e:c=g:=by simpa using h
        exact(HAP.out.2.2.2.1 q).1 (e ▸ hc)
       · exact HX2.out.block c (by have:=h1.lt k c hc; have:=hX1.size; omega) (by simp)
      have hm':RK.spot k m a q r=false:=by
       cases h1:RK.spot k m a q r
       · rfl
       · exfalso;rw[<-HEQ.out,<-HER.out]at h1;obtain⟨-,h2,h3⟩:=(RK.spot_iff _ _ _ _ _).1 h1;rw[RK.join_split]at h2 h3;exact absurd h2 (by rw[HMH.out]; decide)
      have HC:=Lib.hid ((ih sv1 (RK.spot k m a q) (Fp q) r w2.drew (by omega) hRep (by rw[HEP.out]; omega) hm').mono (R':=fun e w'=>∃y,e=.returned y/\∃F',Rep ty k w' y (RK.ins (RK.spot k m a q) r) F'/\BelP (Fp q) w2.drew w'/\∀c,F' c->Fp q c∨w2.heap.size<=c) (fun e w' ⟨v',F',h1,h2⟩=>⟨v',h1,F',h2⟩));clear hRep hm';refine with_act fun a0 ha0=>?_;have hsz0:a0.tmps.size=120:=by rw[ha0]; rfl
      refine wp_region_call1 (by kernel_rfl) (by kernel_rfl) [(88,.pointer (some ⟨g,0,none⟩)),(89,.pointer (some ⟨g,0,none⟩)),(90,.pointer (some ⟨g,4,none⟩)),(91,.map (some bm)),(92,.int .i64 x),(93,.int .i64 p),(94,.int .i64 q),(95,sv1),(96,.int .i64 ((k:Int)+1)),(97,.int .i64 k),(98,.int .i64 x),(99,.int .i64 p),(100,.int .i64 r),(101,.nilIface)] 13 101 (.nilIface) _ rfl rfl rfl (by kernel_rfl) rfl (by show([88,89,90,91,92,93,94,95,96,97,98,99,100,101]:List Nat).Nodup; decide) _ hsz0 (by kernel_rfl) (fun wx:World=>wx.cell? ⟨g,4,none⟩=some (.map (some bm))/\True) (fun y w'=>∃F',Rep ty k w' y (RK.ins (RK.spot k m a q) r) F'/\BelP (Fp q) w2.drew w'/\∀c,F' c->(Fp q) c∨w2.heap.size<=c) ⟨(by first | assumption | exact(show w2.cell? ⟨g,4,none⟩=some (.map (some bm)) from by assumption)),trivial⟩ ?z13keep ⟨⟨rfl,?z13v0⟩,⟨rfl,?z13v1⟩,⟨rfl,?z13v2⟩,⟨rfl,?z13v3⟩,⟨rfl,?z13v4⟩,⟨rfl,?z13v5⟩,⟨rfl,?z13v6⟩,⟨rfl,?z13v7⟩,⟨rfl,?z13v8⟩,⟨rfl,?z13v9⟩,⟨rfl,?z13v10⟩,⟨rfl,?z13v11⟩,⟨rfl,?z13v12⟩,⟨rfl,?z13v13⟩,trivial⟩ ?z13done
      case z13keep=>exact(fun y w' ⟨F',_,hB,_⟩=>⟨(World.cell?_of_block (hB.block g hgs2 (HAP.out.2.2.2.1 q).1)).trans c4,trivial⟩)
      case z13v0 =>
       exact mvCi (by decide) rfl rfl rfl (by kernel_rfl) (by rw[ha0]; rfl)
      case z13v1 =>
       rw[if_neg (by decide)];intro a' w' hA hdep hS K hK;obtain⟨r88,q88⟩:=dpc hdep ⟨0,.data⟩ (by simp) (by decide) rfl rfl;clear hdep ha0 hA;refine StepG.value (wanted_none rfl) rfl ?_ hK;simp[go_sem, *]
      case z13v2 =>
       rw[if_neg (by decide)];intro a' w' hA hdep hS K hK;obtain⟨r89,q89⟩:=dpc hdep ⟨1,.data⟩ (by simp) (by decide) rfl rfl;clear hdep ha0 hA;refine StepG.value (wanted_none rfl) rfl ?_ hK;simp[go_sem, *]
      case z13v3 =>
       rw[if_neg (by decide)];intro a' w' hA hdep hS K hK;obtain⟨r90,q90⟩:=dpc hdep ⟨2,.data⟩ (by simp) (by decide) rfl rfl;obtain⟨kc0,_⟩:=hS;clear hdep ha0 hA;refine StepG.value (wanted_none rfl) rfl ?_ hK;simp[go_sem, *]
      case z13v4 =>
       exact mvCi (by decide) rfl rfl rfl (by kernel_rfl) (by rw[ha0]; rfl)
      case z13v5 =>
       exact mvCi (by decide) rfl rfl rfl (by kernel_rfl) (by rw[ha0]; rfl)
      case z13v6 =>
       rw[if_neg (by decide)];intro a' w' hA hdep hS K hK;obtain⟨r92,q92⟩:=dpc hdep ⟨4,.data⟩ (by simp) (by decide) rfl rfl;obtain⟨r93,q93⟩:=dpc hdep ⟨5,.data⟩ (by simp) (by decide) rfl rfl;clear hdep ha0 hA;refine StepG.value (wanted_none rfl) rfl ?_ hK;simp[go_sem, *]
      case z13v7 =>
       exact mvCi (by decide) rfl rfl rfl (by kernel_rfl) (by rw[ha0]; rfl)
      case z13v8 =>
       exact mvCi (by decide) rfl rfl rfl (by kernel_rfl) (by rw[ha0]; rfl)
      case z13v9 =>
       rw[if_neg (by decide)];intro a' w' hA hdep hS K hK;obtain⟨r96,q96⟩:=dpc hdep ⟨8,.data⟩ (by simp) (by decide) rfl rfl;clear hdep ha0 hA;refine StepG.value (wanted_none rfl) rfl ?_ hK;simp[go_sem, *]
      case z13v10 =>
       exact mvCi (by decide) rfl rfl rfl (by kernel_rfl) (by rw[ha0]; rfl)
      case z13v11 =>
       exact mvCi (by decide) rfl rfl rfl (by kernel_rfl) (by rw[ha0]; rfl)
      case z13v12 =>
       rw[if_neg (by decide)];intro a' w' hA hdep hS K hK;obtain⟨r98,q98⟩:=dpc hdep ⟨10,.data⟩ (by simp) (by decide) rfl rfl;obtain⟨r99,q99⟩:=dpc hdep ⟨11,.data⟩ (by simp) (by decide) rfl rfl;clear hdep ha0 hA;refine StepG.value (wanted_none rfl) rfl ?_ hK;simp[go_sem, *]
      case z13v13 =>
       rw[if_pos rfl];intro a' hA hdep K hK;obtain⟨r95,q95⟩:=dpc hdep ⟨7,.data⟩ (by simp) (by decide) rfl rfl;obtain⟨r97,q97⟩:=dpc hdep ⟨9,.data⟩ (by simp) (by decide) rfl rfl;obtain⟨r100,q100⟩:=dpc hdep ⟨12,.data⟩ (by simp) (by decide) rfl rfl;clear hdep ha0 hA;refine StepG.callE (wanted_none rfl) rfl ?_ (HC.out) hK;simp[go_sem, *]
      intro y w3 hR3;rw[ha0]; simp only[List.set_cons_zero,List.set_cons_succ,putL,Act.put,List.setIfInBounds_toArray];clear ha0 hsz0;obtain⟨Fo',hR3,hB3,hF3⟩:=hR3;obtain⟨o,hrun,hm4⟩:=(HM2.out.of_block (hB3.block bm hbs2 (HAP.out.2.2.2.1 q).2)).put Tryz.underlying3 Tryz.underlying166 hin y;obtain⟨w4,h4⟩:∃wx,wx=setBlock w3 bm o:=⟨_,rfl⟩
      rw[<-h4]at hrun hm4;have HR3:=Lib.hid hR3;have HB3:=Lib.hid hB3;have HF3:=Lib.hid hF3;have HM4:=Lib.hid hm4;have H4:=Lib.hid h4;clear hR3 hB3 hF3 hm4 h4 c0 c1 c2 c3 c4;go_wp2_with fail
      go_ret
      have heq:=HEQ.out;have her:=HER.out;subst heq her;have hX1':=BelP.ofX hX1;have hX2':=BelP.ofX HX2.out;have hB3:=HB3.out;have hs2:w.heap.size<=w2.heap.size:=Nat.le_trans hX1.size HX2.out.size;have h4':=H4.out;have hB34:BelP (fun c=>c=g∨c=bm) w3 w4:=by
       rw[h4'];exact(BelP.ofX ((BelX.here [bm] w3).setBlk (by simp) o)).mono (fun c _ h=>.inr (by simpa using h))
      have hB24:BelP (fun c=>c=g∨c=bm∨Fp (x / RK.R k) c) w2 w4 :=
       BelP.trans (BelP.mono (show BelP (Fp (x / RK.R k)) w2 w3 from⟨hB3.os,hB3.tape,hB3.output,hB3.size,hB3.block⟩) (fun c _ h=>.inr (.inr h))) hB34 (fun c _ h=>h.elim .inl (fun h=>.inr (.inl h)))
      have hg3:w3.heap[g]?=some (.cells #[.int .i64 a,.int .i64 b,.int .i64 ((k:Int)+1),sv,.map (some bm)] 168 (0,0)):=(hB3.block g hgs2 (HAP.out.2.2.2.1 _).1).trans HG2.out;have hg4:w4.heap[g]?=some (.cells #[.int .i64 a,.int .i64 b,.int .i64 ((k:Int)+1),sv,.map (some bm)] 168 (0,0)):=by
       rw[h4'];exact(((BelX.here [bm] w3).setBlk (b:=bm) (by simp) o).block g (blk_lt hg3) (by simp; exact HAP.out.1)).trans hg3
      obtain⟨F',hRF,hFF⟩:=rep_ins (T:=ty) (w:=w) (w2:=w2) (w3:=w3) (w4:=w4) (y:=x) HN.out hy HSET.out HMIN.out HMAX.out HSP.out HFP.out HAP.out hgs hbs
       (BelP.trans (BelP.trans (hX1'.mono (fun c _ h=>.inl (by simpa using h))) hX2' (fun c _ h=>by simp at h)) hB24 (fun c _ h=>by
        rcases h with h | h | h
        · exact .inl h
        · exact .inr (.inl h)
        · exact .inr (.inr (.inr h))))
       hs2 (sv':=sv) (Fs':=Fs) (by
        rw[RK.ins_same HSH.out];exact(HSV.out.kept hX1' (fun c hc h=>HAP.out.2.1 ((show c=g by simpa using h) ▸ hc))).kept hX2' (fun c _ h=>by simp at h))
       (fun c h=>.inl h) hB24 HR3.out HF3.out hB34 hg4 HM4.out
      refine⟨_,F',rfl,hRF,?_,fun c h=>?_⟩
      ·
       refine BelP.trans (BelP.trans (hX1'.mono (fun c _ h=>(HF.out c).2 (.inl (by simpa using h)))) hX2' (fun c _ h=>by simp at h)) hB24 (fun c _ h=>(HF.out c).2 ?_);rcases h with h | h | h
       · exact .inl h
       · exact .inr (.inl h)
       · exact .inr (.inr (.inr ⟨_,h⟩))
      ·
       rcases hFF c h with h | h
       · exact .inl ((HF.out c).2 h)
       · exact .inr h
     ·
      have hlk:=spotsF_out (sp:=sp) hsh;have HSH:=Lib.hid hsh;have HLK:=Lib.hid hlk;clear hsh hlk;go_upto_region 11 with fail;refine with_act fun a0 ha0=>?_;have hsz0:a0.tmps.size=120:=by rw[ha0]; rfl
      refine wp_region_vals (W0:=w1) (by kernel_rfl) (by kernel_rfl) [(61,.pointer (some ⟨g,0,none⟩)),(62,.pointer (some ⟨g,0,none⟩)),(63,.pointer (some ⟨g,4,none⟩)),(64,.map (some bm)),(65,.int .i64 x),(66,.int .i64 p),(67,.int .i64 q),(68,.tuple #[.nilIface,.bool false]),(60,.tuple #[.nilIface,.bool false]),(69,.nilIface),(70,.bool false),(10,.nilIface),(11,.bool false)] rfl (by show([61,62,63,64,65,66,67,68,60,69,70,10,11]:List Nat).Nodup; decide) _ hsz0 (by kernel_rfl) (BelX.start _ _) ⟨⟨rfl,?y6v0⟩,⟨rfl,?y6v1⟩,⟨rfl,?y6v2⟩,⟨rfl,?y6v3⟩,⟨rfl,?y6v4⟩,⟨rfl,?y6v5⟩,⟨rfl,?y6v6⟩,⟨rfl,?y6v7⟩,⟨rfl,?y6v8⟩,⟨rfl,?y6v9⟩,⟨rfl,?y6v10⟩,⟨rfl,?y6v11⟩,⟨rfl,?y6v12⟩,trivial⟩ ?y6done
      case y6v0 =>
       exact mvVi rfl rfl rfl (by kernel_rfl) (by rw[ha0]; rfl)
      case y6v1 =>
       intro a' w' hA hdep hX K hK;obtain⟨r61,q61⟩:=dpv hdep ⟨0,.data⟩ (by simp) rfl rfl;clear hdep ha0 hA;refine StepG.value (wanted_none rfl) rfl ?_ (hK _ hX);simp[go_sem, *]
      case y6v2 =>
       intro a' w' hA hdep hX K hK;obtain⟨r62,q62⟩:=dpv hdep ⟨1,.data⟩ (by simp) rfl rfl;clear hdep ha0 hA;refine StepG.value (wanted_none rfl) rfl ?_ (hK _ hX);simp[go_sem, *]
      case y6v3 =>
       intro a' w' hA hdep hX K hK;obtain⟨r63,q63⟩:=dpv hdep ⟨2,.data⟩ (by simp) rfl rfl;have kc0:w'.cell? ⟨g,4,none⟩=some (.map (some bm)):=hX.cell (by simp) (by first | assumption | (go_simp; done) | (simp; done));clear hdep ha0 hA;refine StepG.value (wanted_none rfl) rfl ?_ (hK _ hX);simp[go_sem, *]
      case y6v4 =>
       exact mvVi rfl rfl rfl (by kernel_rfl) (by rw[ha0]; rfl)
      case y6v5 =>
       exact mvVi rfl rfl rfl (by kernel_rfl) (by rw[ha0]; rfl)
      case y6v6 =>
       intro a' w' hA hdep hX K hK;obtain⟨r65,q65⟩:=dpv hdep ⟨4,.data⟩ (by simp) rfl rfl;obtain⟨r66,q66⟩:=dpv hdep ⟨5,.data⟩ (by simp) rfl rfl;clear hdep ha0 hA;refine StepG.value (wanted_none rfl) rfl ?_ (hK _ hX);simp[go_sem, *]
      case y6v7 =>
       intro a' w' hA hdep hX K hK;obtain⟨r64,q64⟩:=dpv hdep ⟨3,.data⟩ (by simp) rfl rfl;obtain⟨r67,q67⟩:=dpv hdep ⟨6,.data⟩ (by simp) rfl rfl;have kx0:=(show(Instr.lookup 166 (.map (some bm)) (.int .i64 (q:Int)) true).run Tryz.prog w'=.ok (.tuple #[.nilIface,.bool false]) w' by have h:=(HM1.out.of_block (hX.block bm hbs1 (by simp))).look Tryz.underlying3 Tryz.underlying166 (zero_shape _) hin true; rw[HLK.out]at h; exact h)
       clear hdep ha0 hA;refine StepG.value (wanted_none rfl) rfl ?_ (hK _ hX);simp[go_sem, *]
      case y6v8 =>
       exact mvV ⟨7,.data⟩ (by simp) rfl rfl rfl rfl rfl
      case y6v9 =>
       intro a' w' hA hdep hX K hK;obtain⟨r60,q60⟩:=dpv hdep ⟨8,.data⟩ (by simp) rfl rfl;clear hdep ha0 hA;refine StepG.value (wanted_none rfl) rfl ?_ (hK _ hX);simp[go_sem, *]
      case y6v10 =>
       intro a' w' hA hdep hX K hK;obtain⟨r60,q60⟩:=dpv hdep ⟨8,.data⟩ (by simp) rfl rfl;clear hdep ha0 hA;refine StepG.value (wanted_none rfl) rfl ?_ (hK _ hX);simp[go_sem, *]
      case y6v11 =>
       intro a' w' hA hdep hX K hK;obtain⟨r69,q69⟩:=dpv hdep ⟨9,.data⟩ (by simp) rfl rfl;clear hdep ha0 hA;refine StepG.value (wanted_none rfl) rfl ?_ (hK _ hX);simp[go_sem, *]
      case y6v12 =>
       intro a' w' hA hdep hX K hK;obtain⟨r70,q70⟩:=dpv hdep ⟨10,.data⟩ (by simp) rfl rfl;clear hdep ha0 hA;refine StepG.value (wanted_none rfl) rfl ?_ (hK _ hX);simp[go_sem, *]
      intro w2 hXR;rw[ha0]; simp only[putL,Act.put,sA_,sZ_,sS_];clear ha0 hsz0;have hg2:=(hXR.block g hgs1 (by simp)).trans HG1.out;have hM2:=HM1.out.of_block (hXR.block bm hbs1 (by simp));have HX2:=Lib.hid hXR;have HM2:=Lib.hid hM2;have HG2:=Lib.hid hg2;clear c0 c1 c2 c3 c4 hXR hM2;obtain⟨c0,c1,c2,c3,c4⟩:=row5 hg2;clear hg2;have hbs2:=HM2.out.lt;have hgs2:=blk_lt HG2.out;have hRep:Rep ty k w2.drew sv (RK.shelves k m a) Fs:=by
       refine(HSV.out.kept (BelP.ofX hX1) (fun c hc h=>HAP.out.2.1 ((show c=g by simpa using h) ▸ hc))).frame k (fun c hc=>?_);exact HX2.out.block c (by have:=HSV.out.lt k c hc; have:=hX1.size; omega) (by simp)
      have HC1:=Lib.hid ((ih sv (RK.shelves k m a) Fs q w2.drew (by omega) hRep (by rw[HEP.out]; omega) (by simpa using HSH.out)).mono (R':=fun e w'=>∃y,e=.returned y/\∃F',Rep ty k w' y (RK.ins (RK.shelves k m a) q) F'/\BelP Fs w2.drew w'/\∀c,F' c->Fs c∨w2.heap.size<=c) (fun e w' ⟨v',F',h1,h2⟩=>⟨v',h1,F',h2⟩));clear hRep;go_upto_region 14 with fail;refine with_act fun a0 ha0=>?_;have hsz0:a0.tmps.size=120:=by rw[ha0]; rfl
      refine wp_region_call1 (by kernel_rfl) (by kernel_rfl) [(75,.pointer (some ⟨g,0,none⟩)),(76,.pointer (some ⟨g,0,none⟩)),(77,.pointer (some ⟨g,0,none⟩)),(78,.pointer (some ⟨g,3,none⟩)),(79,sv),(80,.int .i64 ((k:Int)+1)),(81,.int .i64 k),(82,.int .i64 x),(83,.int .i64 p),(84,.int .i64 q),(85,.nilIface),(86,.pointer (some ⟨g,0,none⟩)),(87,.pointer (some ⟨g,3,none⟩))] 10 85 (.nilIface) _ rfl rfl rfl (by kernel_rfl) rfl (by show([75,76,77,78,79,80,81,82,83,84,85,86,87]:List Nat).Nodup; decide) _ hsz0 (by kernel_rfl) (fun wx:World=>wx.cell? ⟨g,3,none⟩=some (sv)/\True) (fun y w'=>∃F',Rep ty k w' y (RK.ins (RK.shelves k m a) q) F'/\BelP Fs w2.drew w'/\∀c,F' c->Fs c∨w2.heap.size<=c) ⟨(by first | assumption | exact(show w2.cell? ⟨g,3,none⟩=some (sv) from by assumption)),trivial⟩ ?z14keep ⟨⟨rfl,?z14v0⟩,⟨rfl,?z14v1⟩,⟨rfl,?z14v2⟩,⟨rfl,?z14v3⟩,⟨rfl,?z14v4⟩,⟨rfl,?z14v5⟩,⟨rfl,?z14v6⟩,⟨rfl,?z14v7⟩,⟨rfl,?z14v8⟩,⟨rfl,?z14v9⟩,⟨rfl,?z14v10⟩,⟨rfl,?z14v11⟩,⟨rfl,?z14v12⟩,trivial⟩ ?z14done
      case z14keep=>exact(fun y w' ⟨F',_,hB,_⟩=>⟨(World.cell?_of_block (hB.block g hgs2 HAP.out.2.1)).trans c3,trivial⟩)
      case z14v0 =>
       exact mvCi (by decide) rfl rfl rfl (by kernel_rfl) (by rw[ha0]; rfl)
      case z14v1 =>
       exact mvCi (by decide) rfl rfl rfl (by kernel_rfl) (by rw[ha0]; rfl)
      case z14v2 =>
       rw[if_neg (by decide)];intro a' w' hA hdep hS K hK;obtain⟨r76,q76⟩:=dpc hdep ⟨1,.data⟩ (by simp) (by decide) rfl rfl;clear hdep ha0 hA;refine StepG.value (wanted_none rfl) rfl ?_ hK;simp[go_sem, *]
      case z14v3 =>
       rw[if_neg (by decide)];intro a' w' hA hdep hS K hK;obtain⟨r77,q77⟩:=dpc hdep ⟨2,.data⟩ (by simp) (by decide) rfl rfl;clear hdep ha0 hA;refine StepG.value (wanted_none rfl) rfl ?_ hK;simp[go_sem, *]
      case z14v4 =>
       rw[if_neg (by decide)];intro a' w' hA hdep hS K hK;obtain⟨r78,q78⟩:=dpc hdep ⟨3,.data⟩ (by simp) (by decide) rfl rfl;obtain⟨kc0,_⟩:=hS;clear hdep ha0 hA;refine StepG.value (wanted_none rfl) rfl ?_ hK;simp[go_sem, *]
      case z14v5 =>
       exact mvCi (by decide) rfl rfl rfl (by kernel_rfl) (by rw[ha0]; rfl)
      case z14v6 =>
       rw[if_neg (by decide)];intro a' w' hA hdep hS K hK;obtain⟨r80,q80⟩:=dpc hdep ⟨5,.data⟩ (by simp) (by decide) rfl rfl;clear hdep ha0 hA;refine StepG.value (wanted_none rfl) rfl ?_ hK;simp[go_sem, *]
      case z14v7 =>
       exact mvCi (by decide) rfl rfl rfl (by kernel_rfl) (by rw[ha0]; rfl)
      case z14v8 =>
       exact mvCi (by decide) rfl rfl rfl (by kernel_rfl) (by rw[ha0]; rfl)
      case z14v9 =>
       rw[if_neg (by decide)];intro a' w' hA hdep hS K hK;obtain⟨r82,q82⟩:=dpc hdep ⟨7,.data⟩ (by simp) (by decide) rfl rfl;obtain⟨r83,q83⟩:=dpc hdep ⟨8,.data⟩ (by simp) (by decide) rfl rfl;clear hdep ha0 hA;refine StepG.value (wanted_none rfl) rfl ?_ hK;simp[go_sem, *]
      case z14v10 =>
       rw[if_pos rfl];intro a' hA hdep K hK;obtain⟨r79,q79⟩:=dpc hdep ⟨4,.data⟩ (by simp) (by decide) rfl rfl;obtain⟨r81,q81⟩:=dpc hdep ⟨6,.data⟩ (by simp) (by decide) rfl rfl;obtain⟨r84,q84⟩:=dpc hdep ⟨9,.data⟩ (by simp) (by decide) rfl rfl;clear hdep ha0 hA;refine StepG.callE (wanted_none rfl) rfl ?_ (HC1.out) hK;simp[go_sem, *]
      case z14v11 =>
       rw[if_neg (by decide)];intro a' w' hA hdep hS K hK;obtain⟨r75,q75⟩:=dpc hdep ⟨0,.data⟩ (by simp) (by decide) rfl rfl;clear hdep ha0 hA;refine StepG.value (wanted_none rfl) rfl ?_ hK;simp[go_sem, *]
      case z14v12 =>
       rw[if_neg (by decide)];intro a' w' hA hdep hS K hK;obtain⟨r86,q86⟩:=dpc hdep ⟨11,.data⟩ (by simp) (by decide) rfl rfl;clear hdep ha0 hA;refine StepG.value (wanted_none rfl) rfl ?_ hK;simp[go_sem, *]
      intro y1 w3 hR3;rw[ha0]; simp only[List.set_cons_zero,List.set_cons_succ,putL,Act.put,List.setIfInBounds_toArray];clear ha0 hsz0;obtain⟨Fs',hR3,hB3,hF3⟩:=hR3;obtain⟨tt,xx,rfl⟩:=hR3.iface;have hg3:=(hB3.block g hgs2 HAP.out.2.1).trans HG2.out;have fz3:=row_f hg3;clear c0 c1 c2 c3 c4;obtain⟨c0,c1,c2,c3,c4⟩:=row5 hg3;have HR3:=Lib.hid hR3;have HB3:=Lib.hid hB3;have HF3:=Lib.hid hF3;have HG3:=Lib.hid hg3;clear hR3 hB3 hF3 hg3;go_upto_region 15 with fail;obtain⟨w4,h4⟩:∃wx:World,wx=w3.setCell ⟨g,3,none⟩ (.iface tt xx):=⟨_,rfl⟩
      rw[<-h4];have hg4:w4.heap[g]?=some (.cells #[.int .i64 a,.int .i64 b,.int .i64 ((k:Int)+1),.iface tt xx,.map (some bm)] 168 (0,0)):=by rw[h4]; simp[World.setCell,Array.getElem?_modify,HG3.out]
      have hX4:BelX [g] w3 w4:=by rw[h4]; exact(BelX.here [g] w3).setOld (p:=⟨g,3,none⟩) (by simp) _
      have hs4:w3.heap.size<=w4.heap.size:=hX4.size;have hs43:w4.heap.size=w3.heap.size:=by rw[h4]; simp[World.setCell]
      clear h4 c0 c1 c2 c3 c4 fz3;obtain⟨c0,c1,c2,c3,c4⟩:=row5 hg4;have hgs4:=blk_lt hg4;have hM3:=HM2.out.of_block (HB3.out.block bm hbs2 HAP.out.2.2.1);have hM4:=hM3.of_block (hX4.block bm hM3.lt (by simp; exact fun e=>HAP.out.1 e.symm));have hbs4:=hM4.lt;have HM4:=Lib.hid hM4;have HG4:=Lib.hid hg4;have hem:RK.Emp (RK.spot k m a q):=RK.shelf_none (by simpa using HSH.out) (by rw[HEP.out]; exact q2);have HC2:=Lib.hid ((ih (vE ty) (RK.spot k m a q) (fun _=>False) r w4.drew (by omega) (rep_empty ty k _ hem) (by rw[HEP.out]; omega) (hem r)).mono (R':=fun e w'=>∃y,e=.returned y/\∃F',Rep ty k w' y (RK.ins (RK.spot k m a q) r) F'/\BelP (fun _=>False) w4.drew w'/\∀c,F' c->(fun _=>False) c∨w4.heap.size<=c) (fun e w' ⟨v',F',h1,h2⟩=>⟨v',h1,F',h2⟩));have HC:=HC2;unfold vE at HC;clear HC2 hM3 hM4 hg4 hem;refine with_act fun a0 ha0=>?_;have hsz0:a0.tmps.size=120:=by rw[ha0]; rfl
      refine wp_region_call1 (by kernel_rfl) (by kernel_rfl) [(88,.pointer (some ⟨g,0,none⟩)),(89,.pointer (some ⟨g,0,none⟩)),(90,.pointer (some ⟨g,4,none⟩)),(91,.map (some bm)),(92,.int .i64 x),(93,.int .i64 p),(94,.int .i64 q),(95,.iface 154 (.agg #[])),(96,.int .i64 ((k:Int)+1)),(97,.int .i64 k),(98,.int .i64 x),(99,.int .i64 p),(100,.int .i64 r),(101,.nilIface)] 13 101 (.nilIface) _ rfl rfl rfl (by kernel_rfl) rfl (by show([88,89,90,91,92,93,94,95,96,97,98,99,100,101]:List Nat).Nodup; decide) _ hsz0 (by kernel_rfl) (fun wx:World=>wx.cell? ⟨g,4,none⟩=some (.map (some bm))/\True) (fun y w'=>∃F',Rep ty k w' y (RK.ins (RK.spot k m a q) r) F'/\BelP (fun _=>False) w4.drew w'/\∀c,F' c->(fun _=>False) c∨w4.heap.size<=c) ⟨(by first | assumption | exact(show w4.cell? ⟨g,4,none⟩=some (.map (some bm)) from by assumption)),trivial⟩ ?z15keep ⟨⟨rfl,?z15v0⟩,⟨rfl,?z15v1⟩,⟨rfl,?z15v2⟩,⟨rfl,?z15v3⟩,⟨rfl,?z15v4⟩,⟨rfl,?z15v5⟩,⟨rfl,?z15v6⟩,⟨rfl,?z15v7⟩,⟨rfl,?z15v8⟩,⟨rfl,?z15v9⟩,⟨rfl,?z15v10⟩,⟨rfl,?z15v11⟩,⟨rfl,?z15v12⟩,⟨rfl,?z15v13⟩,trivial⟩ ?z15done
      case z15keep=>exact(fun y w' ⟨F',_,hB,_⟩=>⟨(World.cell?_of_block (hB.block g hgs4 (fun h=>h))).trans c4,trivial⟩)
      case z15v0 =>
       exact mvCi (by decide) rfl rfl rfl (by kernel_rfl) (by rw[ha0]; rfl)
      case z15v1 =>
       rw[if_neg (by decide)];intro a' w' hA hdep hS K hK;obtain⟨r88,q88⟩:=dpc hdep ⟨0,.data⟩ (by simp) (by decide) rfl rfl;clear hdep ha0 hA;refine StepG.value (wanted_none rfl) rfl ?_ hK;simp[go_sem, *]
      case z15v2 =>
       rw[if_neg (by decide)];intro a' w' hA hdep hS K hK;obtain⟨r89,q89⟩:=dpc hdep ⟨1,.data⟩ (by simp) (by decide) rfl rfl;clear hdep ha0 hA;refine StepG.value (wanted_none rfl) rfl ?_ hK;simp[go_sem, *]
      case z15v3 =>
       rw[if_neg (by decide)];intro a' w' hA hdep hS K hK;obtain⟨r90,q90⟩:=dpc hdep ⟨2,.data⟩ (by simp) (by decide) rfl rfl;obtain⟨kc0,_⟩:=hS;clear hdep ha0 hA;refine StepG.value (wanted_none rfl) rfl ?_ hK;simp[go_sem, *]
      case z15v4 =>
       exact mvCi (by decide) rfl rfl rfl (by kernel_rfl) (by rw[ha0]; rfl)
      case z15v5 =>
       exact mvCi (by decide) rfl rfl rfl (by kernel_rfl) (by rw[ha0]; rfl)
      case z15v6 =>
       rw[if_neg (by decide)];intro a' w' hA hdep hS K hK;obtain⟨r92,q92⟩:=dpc hdep ⟨4,.data⟩ (by simp) (by decide) rfl rfl;obtain⟨r93,q93⟩:=dpc hdep ⟨5,.data⟩ (by simp) (by decide) rfl rfl;clear hdep ha0 hA;refine StepG.value (wanted_none rfl) rfl ?_ hK;simp[go_sem, *]
      case z15v7 =>
       exact mvCi (by decide) rfl rfl rfl (by kernel_rfl) (by rw[ha0]; rfl)
      case z15v8 =>
       exact mvCi (by decide) rfl rfl rfl (by kernel_rfl) (by rw[ha0]; rfl)
      case z15v9 =>
       rw[if_neg (by decide)];intro a' w' hA hdep hS K hK;obtain⟨r96,q96⟩:=dpc hdep ⟨8,.data⟩ (by simp) (by decide) rfl rfl;clear hdep ha0 hA;refine StepG.value (wanted_none rfl) rfl ?_ hK;simp[go_sem, *]
      case z15v10 =>
       exact mvCi (by decide) rfl rfl rfl (by kernel_rfl) (by rw[ha0]; rfl)
      case z15v11 =>
       exact mvCi (by decide) rfl rfl rfl (by kernel_rfl) (by rw[ha0]; rfl)
      case z15v12 =>
       rw[if_neg (by decide)];intro a' w' hA hdep hS K hK;obtain⟨r98,q98⟩:=dpc hdep ⟨10,.data⟩ (by simp) (by decide) rfl rfl;obtain⟨r99,q99⟩:=dpc hdep ⟨11,.data⟩ (by simp) (by decide) rfl rfl;clear hdep ha0 hA;refine StepG.value (wanted_none rfl) rfl ?_ hK;simp[go_sem, *]
      case z15v13 =>
       rw[if_pos rfl];intro a' hA hdep K hK;obtain⟨r95,q95⟩:=dpc hdep ⟨7,.data⟩ (by simp) (by decide) rfl rfl;obtain⟨r97,q97⟩:=dpc hdep ⟨9,.data⟩ (by simp) (by decide) rfl rfl;obtain⟨r100,q100⟩:=dpc hdep ⟨12,.data⟩ (by simp) (by decide) rfl rfl;clear hdep ha0 hA;refine StepG.callE (wanted_none rfl) rfl ?_ (HC.out) hK;simp[go_sem, *]
      intro y w5 hR5;rw[ha0]; simp only[List.set_cons_zero,List.set_cons_succ,putL,Act.put,List.setIfInBounds_toArray];clear ha0 hsz0;obtain⟨Fo',hR5,hB5,hF5⟩:=hR5;obtain⟨o,hrun,hm6⟩:=(HM4.out.of_block (hB5.block bm hbs4 (fun h=>h))).put Tryz.underlying3 Tryz.underlying166 hin y;obtain⟨w6,h6⟩:∃wx,wx=setBlock w5 bm o:=⟨_,rfl⟩
      rw[<-h6]at hrun hm6;have HR5:=Lib.hid hR5;have HB5:=Lib.hid hB5;have HF5:=Lib.hid hF5;have HM6:=Lib.hid hm6;have H6:=Lib.hid h6;clear hR5 hB5 hF5 hm6 h6 c0 c1 c2 c3 c4;go_wp2_with fail
      go_ret
      have heq:=HEQ.out;have her:=HER.out;subst heq her;have hX1':=BelP.ofX hX1;have hX2':=BelP.ofX HX2.out;have hX4':=BelP.ofX hX4;have hB3:=HB3.out;have hB5:=HB5.out;have hs2:w.heap.size<=w2.heap.size:=Nat.le_trans hX1.size HX2.out.size;have hs3:w2.heap.size<=w3.heap.size:=hB3.size;have h6':=H6.out;have hB56:BelP (fun c=>c=g∨c=bm) w5 w6:=by
       rw[h6'];exact(BelP.ofX ((BelX.here [bm] w5).setBlk (by simp) o)).mono (fun c _ h=>.inr (by simpa using h))
      have hB45:BelP (fun _=>False) w4 w5:=⟨hB5.os,hB5.tape,hB5.output,hB5.size,hB5.block⟩
      have hB23:BelP Fs w2 w3:=⟨hB3.os,hB3.tape,hB3.output,hB3.size,hB3.block⟩
      have hB36:BelP (fun c=>c=g∨c=bm∨Fp (x / RK.R k) c) w3 w6 :=
       BelP.trans (BelP.trans (hX4'.mono (fun c _ h=>.inl (by simpa using h))) hB45 (fun c _ h=>False.elim h)) hB56 (fun c _ h=>h.elim .inl (fun h=>.inr (.inl h)))
      have hg5:=(hB5.block g hgs4 (fun h=>h)).trans HG4.out;have hg6:w6.heap[g]?=some (.cells #[.int .i64 a,.int .i64 b,.int .i64 ((k:Int)+1),.iface tt xx,.map (some bm)] 168 (0,0)):=by
       rw[h6'];exact(((BelX.here [bm] w5).setBlk (b:=bm) (by simp) o).block g (blk_lt hg5) (by simp; exact HAP.out.1)).trans hg5
      have hBt:BelP (fun c=>c=g∨c=bm∨Fs c∨Fp (x / RK.R k) c) w w6 :=
       BelP.trans (BelP.trans (BelP.trans (hX1'.mono (fun c _ h=>.inl (by simpa using h))) hX2' (fun c _ h=>by simp at h)) hB23 (fun c _ h=>.inr (.inr (.inl h)))) hB36 (fun c _ h=>by
        rcases h with h | h | h
        · exact .inl h
        · exact .inr (.inl h)
        · exact .inr (.inr (.inr h)))
      obtain⟨F',hRF,hFF⟩:=rep_ins (T:=ty) (w:=w) (w2:=w3) (w3:=w5) (w4:=w6) (y:=x) HN.out hy HSET.out HMIN.out HMAX.out HSP.out HFP.out HAP.out hgs hbs hBt
       (Nat.le_trans hs2 hs3) (sv':=.iface tt xx) (Fs':=Fs') HR3.out (fun c h=>by
        rcases HF3.out c h with h | h
        · exact .inl h
        · exact .inr (Nat.le_trans hs2 h))
       hB36 HR5.out (fun c h=>by
        rcases HF5.out c h with h | h
        · exact False.elim h
        · exact .inr (by omega)) hB56 hg6 HM6.out
      refine⟨_,F',rfl,hRF,hBt.mono (fun c _ h=>(HF.out c).2 ?_),fun c h=>?_⟩
      ·
       rcases h with h | h | h | h
       · exact .inl h
       · exact .inr (.inl h)
       · exact .inr (.inr (.inl h))
       · exact .inr (.inr (.inr ⟨_,h⟩))
      ·
       rcases hFF c h with h | h
       · exact .inl ((HF.out c).2 h)
       · exact .inr h
end Go.Proofs.YtaffkceklkdokaaGreatDoor
