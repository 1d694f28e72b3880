/- The rule of D3 where the last operation waits for all others by a longer way. -/
import Derived.Test.YtpnfmbeccjehiabGreatDoorZ1
import Derived.Test.YtpnfmbeccjehiabGreatDoorZ2
import Derived.Test.YtpnfmbeccjehiabGreatDoorZ3
set_option maxRecDepth 100000
set_option maxHeartbeats 8000000
namespace Go.Proofs.YtpnfmbeccjehiabGreatDoor
open Go
open Go.RowKit
section
variable {P : Program} {Q : Exit -> Act -> World -> Prop}
/-- does an operation wait for j, by at most n steps more -/
def downTo (l:List Oper) (j:Nat):Nat->Oper->Bool
 | 0,o=>o.after.any fun e=>Region.binds .any e && e.on == j
 | n+1,o=>o.after.any fun e=>Region.binds .any e && (e.on == j || match l[e.on]? with | some o'=>downTo l j n o' | none=>false)
theorem downTo_true {l:List Oper} {s:Nat->Bool} {n j:Nat} (hn:s n=false) (hclo:∀k o,k < n->l[k]?=some o->s k=true->∀e∈o.after,Region.binds .any e=true->s e.on=true) (hlen:l.length<=n+1) :
  ∀(d:Nat) (o:Oper),(∀e∈o.after,Region.binds .any e=true->s e.on=true)->downTo l j d o=true->s j=true
 | 0,o,ho,h=>by
  obtain⟨e,he,h2⟩:=Array.any_eq_true'.1 h;simp only[Bool.and_eq_true,beq_iff_eq]at h2;rw[<-h2.2];exact ho e he h2.1
 | d+1,o,ho,h=>by
  obtain⟨e,he,h2⟩:=Array.any_eq_true'.1 h;rw[Bool.and_eq_true]at h2;have hs:=ho e he h2.1;rcases Bool.or_eq_true_iff.1 h2.2 with h3 | h3
  · rw[<-(beq_iff_eq.1 h3)]; exact hs
  ·
   cases hl:l[e.on]? with
   | none=>rw[hl]at h3; exact absurd h3 (by simp)
   | some o' =>
    rw[hl]at h3;have hlt:=(List.getElem?_eq_some_iff.1 hl).1;have hlt2:e.on < n:=by
     rcases Nat.lt_or_ge e.on n with h | h
     · exact h
     ·
      have:e.on=n:=by omega
      rw[this,hn]at hs; cases hs
    exact downTo_true hn hclo hlen d o' (hclo e.on o' hlt2 hl hs) h3
theorem wp_region_call2 {id : Nat} {l : List Oper} {a : Act} {w : World} (hm : P.follows .mixedOrders = true) (hdag : dagI 0 l = true) (DV : List (Nat × Value)) (c dc : Nat) (vc : Value) (ot : Oper) (hlen : l.length = DV.length + 1) (hot : l[DV.length]? = some ot) (hog : ot.guard = none)
    (hlast : ((List.range DV.length).all fun j => downTo l j 9 ot) = true) (hc : DV[c]? = some (dc, vc)) (hn : (DV.map (·.1)).Nodup)
    (N : Nat) (hN : a.tmps.size = N) (hN2 : (DV.all fun p => decide (p.1 < N)) = true) (S : World -> Prop) (R : Value -> World -> Prop) (hS1 : S w.drew) (hS2 : ∀ y w', R y w' -> S w')
    (hs : StepsC P l.toArray Q a w.drew S R DV c 0 l DV) (hd : ∀ y w', R y w' -> ot.wp P (putL a (DV.set c (dc, y))) w' (fun a' w2 => Q .normal a' w2) Q) : (Code.region id l.toArray true).wp P Q a w := by
  have hsz : ∀ p ∈ DV, p.1 < a.tmps.size := fun p hp => by
    have := List.all_eq_true.1 hN2 p hp
    rw [hN]; simpa using this
  have hcl := (List.getElem?_eq_some_iff.1 hc).1
  refine wp_region_inv hm hdag (IC l Q a w.drew R DV c dc DV.length) (.inr ⟨by simp; omega, fun k o hk _ hs => by
      have h2 := of_decide_eq_true hs
      omega, ⟨fun _ _ => rfl, rfl, rfl⟩, fun j p _ hj hs => ?_, fun _ => rfl, fun hs => ?_⟩) (stepsC_of hn hsz hc hS1 hS2 ot ?_ l DV 0 (by simp) hlen hot (fun i p h => by rw [Nat.zero_add]; exact h) (fun i o h => by rw [Nat.zero_add]; exact h) hs) fun s a' w' hall hI => ?_
  · have := (List.getElem?_eq_some_iff.1 hj).1
    have h2 := of_decide_eq_true hs
    omega
  · have h2 := of_decide_eq_true hs
    omega
  · intro s a' w' hsn hdep hI K hK
    rcases hI with ⟨h1, -⟩ | ⟨-, hclo, hA, hV, -, hR⟩
    · rw [hsn] at h1; cases h1
    have hall : ∀ j, j < DV.length -> s j = true := fun j hj => downTo_true (n := DV.length) hsn hclo (by rw [hlen]; omega) 9 ot hdep (List.all_eq_true.1 hlast j (List.mem_range.2 hj))
    have hRc := hR (hall c hcl)
    have hset : ((DV.set c (dc, a'.eval (.tmp dc))).map (·.1)) = DV.map (·.1) := by
      rw [List.map_set]
      refine List.ext_getElem? fun j => ?_
      by_cases hj : c = j
      · subst hj
        rw [List.getElem?_set_self (by rw [List.length_map]; exact hcl), List.getElem?_map, hc]; rfl
      · rw [List.getElem?_set_ne hj]
    have e : a' = putL a (DV.set c (dc, a'.eval (.tmp dc))) := by
      refine act_ext (by rw [putL_size]; exact hA.size) (by rw [putL_defers]; exact hA.defers) fun t => ?_
      by_cases ht : ∀ p ∈ DV.set c (dc, a'.eval (.tmp dc)), p.1 ≠ t
      · rw [putL_out _ a t ht]
        refine hA.out t (all_ne.2 fun p hp => ?_)
        have : p.1 ∈ (DV.set c (dc, a'.eval (.tmp dc))).map (·.1) := by rw [hset]; exact List.mem_map.2 ⟨p, hp, rfl⟩
        obtain ⟨q, hq, hqe⟩ := List.mem_map.1 this
        rw [<- hqe]; exact ht q hq
      · obtain ⟨p, hp, rfl⟩ : ∃ p, p ∈ DV.set c (dc, a'.eval (.tmp dc)) /\ p.1 = t := by
          apply Classical.byContradiction
          intro h
          exact ht fun p hp e => h ⟨p, hp, e⟩
        rw [putL_in _ a (by rw [hset]; exact hn) (fun q hq => by
          have : q.1 ∈ (DV.set c (dc, a'.eval (.tmp dc))).map (·.1) := List.mem_map.2 ⟨q, hq, rfl⟩
          rw [hset] at this
          obtain ⟨u, hu, hue⟩ := List.mem_map.1 this
          rw [<- hue]; exact hsz u hu) p hp]
        obtain ⟨j, hj⟩ := List.mem_iff_getElem?.1 hp
        by_cases hjc : c = j
        · subst hjc
          rw [List.getElem?_set_self hcl] at hj
          rw [<- Option.some.inj hj]
        · rw [List.getElem?_set_ne hjc] at hj
          exact hV j p (Ne.symm hjc) hj (hall j (List.getElem?_eq_some_iff.1 hj).1)
    have hfin := hd _ _ hRc
    rw [<- e] at hfin
    refine StepG.mk hog (Oper.wp_mono (fun a2 w2 h2 => hK _ _ (.inl ⟨by simp, fun j hj => ?_, h2⟩)) hfin)
    show (j == DV.length || s j) = true
    rw [hall j hj]; simp
  · rcases hI with ⟨-, -, h⟩ | ⟨h, -⟩
    · exact h
    · rw [hall DV.length (by omega)] at h; cases h
end
open Go.RowKit Go.ChangeMaps
attribute [local go_sem ↓] Go.wp_at_zero Go.wp_at_succ
/-- what remove leaves -/
def DelPost (k:Nat) (m:RK.S) (F:Nat->Prop) (x:Nat) (w:World) (e:Ending) (w':World):Prop :=
 ∃v' F',e=.returned v'/\Rep ty k w' v' (RK.del m x) F'/\BelP F w w'/\∀c,F' c->F c∨w.heap.size<=c
theorem remove_zero (o:Int) (v:Value) (m:RK.S) (F:Nat->Prop) (x:Nat) (w:World) (h:Rep ty 0 w v m F) (hm:m x=true) :
  Calls Tryz.prog 48 #[v,.int .i64 o,.int .i64 x] w (DelPost 0 m F x w):=by
 have t1:=ta_pe;have t2:=ta_pp;have t3:=ta_pt;have t4:=ta_te;have t5:=ta_tt;obtain⟨hs,hF,⟨he,-⟩ | ⟨a,b,ha,hb,rfl⟩⟩:=h
 · rw[he x]at hm; cases hm
 ·
  by_cases hab:a=b
  ·
   subst hab;have HR:=Lib.hid (fun wx=>rep_empty ty 0 wx (RK.single ha hb hm).2);clear ha hb hs hF hm;unfold vP;go_enter Tryz.func48,Tryz.ntmps48;go_wp2_with fail
   go_ret
   exact⟨_,fun _=>False,rfl,HR.out _,BelP.mono (BelP.ofBelow (by repeat (first | exact Below.refl _ _ | exact Nat.le_refl _ | refine Below.alloc ?_ ?_ _ | refine Below.setCell ?_ ?_ _ | refine Below.drew ?_ | refine bl_drewN ?_ _ | (assumption) | refine bl_call ?_ (by assumption) ?_ | omega | (simp <;> omega)))) (fun _ _ h=>False.elim h),fun _ h=>False.elim h⟩
  ·
   obtain⟨hx2,h1,h2⟩:=RK.pair_del hs ha hb hab hm;have HR:=Lib.hid (fun wx=>(show Rep ty 0 wx (vP ty (1-x) (1-x)) (RK.del m x) (fun _=>False) from⟨RK.del_supp hs x,fun _ h=>h,.inr ⟨1-x,1-x,h1,h2,rfl⟩⟩));have hx1:((1-x:Nat):Int)=1-(x:Int):=by omega
   unfold vP at HR;rw[hx1]at HR;have hne:((a:Int) == (b:Int))=false:=by simp; omega
   clear ha hb hs hF hm h1 h2 hx1;unfold vP;go_enter Tryz.func48,Tryz.ntmps48;go_wp2_with fail
   go_ret
   exact⟨_,fun _=>False,rfl,HR.out _,BelP.mono (BelP.ofBelow (by repeat (first | exact Below.refl _ _ | exact Nat.le_refl _ | refine Below.alloc ?_ ?_ _ | refine Below.setCell ?_ ?_ _ | refine Below.drew ?_ | refine bl_drewN ?_ _ | (assumption) | refine bl_call ?_ (by assumption) ?_ | omega | (simp <;> omega)))) (fun _ _ h=>False.elim h),fun _ h=>False.elim h⟩
open Go.RowKit Go.ChangeMaps
attribute [local go_sem ↓] Go.wp_at_zero Go.wp_at_succ
theorem BelP.ofX1 {g:Nat} {w w':World} (h:BelX [g] w w'):BelP (fun c=>c=g) w w':=(BelP.ofX h).mono fun _ _ hc=>by simpa using hc
theorem belX_belowK {w w':World} (h:BelX [] w w'):Below w.heap.size w w':=⟨h.os,h.tape,h.output,h.size,fun k hk=>h.block k hk (by simp)⟩
theorem eq_ee (w:World):(binOp .eql 42 (.iface 40 (.agg #[])) (.iface 40 (.agg #[]))).run Tryz.prog w=.ok (.bool true) w:=by kernel_rfl
theorem eq_pe (x:Value) (w:World):(binOp .eql 42 (.iface 78 x) (.iface 40 (.agg #[]))).run Tryz.prog w=.ok (.bool false) w:=by kernel_rfl
theorem eq_te (x:Value) (w:World):(binOp .eql 42 (.iface 81 x) (.iface 40 (.agg #[]))).run Tryz.prog w=.ok (.bool false) w:=by kernel_rfl
theorem remove_single (k:Nat) (v:Value) (m:RK.S) (F:Nat->Prop) (a:Nat) (w:World) (h:Rep ty (k+1) w v m F) (ha:RK.IsMin m a) (hb:RK.IsMax m a) :
  Calls Tryz.prog 48 #[v,.int .i64 ((k:Int)+1),.int .i64 a] w (DelPost (k+1) m F a w):=by
 have t1:=ta_pe;have t2:=ta_pp;have t3:=ta_pt;have t4:=ta_te;have t5:=ta_tt;have HR:=Lib.hid (fun wx=>rep_empty ty (k+1) wx (RK.single ha hb ha.1).2);obtain⟨hs,⟨he,-,-⟩ | ⟨a',b',g,bm,sv,Fs,sp,Fp,ha',hb',rfl,hg,-⟩⟩:=h
 · have:=ha.1; rw[he a]at this; cases this
 ·
  obtain rfl:=ha.unique ha';obtain rfl:=hb.unique hb';obtain⟨c0,c1,-⟩:=row5 hg;clear ha hb ha' hb' hs hg;unfold vT;go_enter Tryz.func48,Tryz.ntmps48;go_upto_region 9 with fail;refine with_act fun a0 ha0=>?_;have hsz0:a0.tmps.size=182:=by rw[ha0]; rfl
  refine wp_region_vals (W0:=w) (by kernel_rfl) (by kernel_rfl) [(39,.pointer (some ⟨g,0,none⟩)),(40,.pointer (some ⟨g,0,none⟩)),(41,.pointer (some ⟨g,0,none⟩)),(42,.pointer (some ⟨g,0,none⟩)),(43,.int .i64 a),(44,.pointer (some ⟨g,0,none⟩)),(45,.pointer (some ⟨g,0,none⟩)),(46,.pointer (some ⟨g,0,none⟩)),(47,.pointer (some ⟨g,1,none⟩)),(48,.int .i64 a),(49,.bool true)] rfl (by show([39,40,41,42,43,44,45,46,47,48,49]:List Nat).Nodup; decide) _ hsz0 (by kernel_rfl) (BelX.start _ _) ⟨⟨rfl,?y1v0⟩,⟨rfl,?y1v1⟩,⟨rfl,?y1v2⟩,⟨rfl,?y1v3⟩,⟨rfl,?y1v4⟩,⟨rfl,?y1v5⟩,⟨rfl,?y1v6⟩,⟨rfl,?y1v7⟩,⟨rfl,?y1v8⟩,⟨rfl,?y1v9⟩,⟨rfl,?y1v10⟩,trivial⟩ ?y1done
  case y1v0 =>
   exact mvVi rfl rfl rfl (by kernel_rfl) (by rw[ha0]; rfl)
  case y1v1 =>
   intro a' w' hA hdep hX K hK;obtain⟨r39,q39⟩:=dpv hdep ⟨0,.data⟩ (by simp) rfl rfl;clear hdep ha0 hA;refine StepG.value (wanted_none rfl) rfl ?_ (hK _ hX);simp[go_sem, *]
  case y1v2 =>
   intro a' w' hA hdep hX K hK;obtain⟨r40,q40⟩:=dpv hdep ⟨1,.data⟩ (by simp) rfl rfl;clear hdep ha0 hA;refine StepG.value (wanted_none rfl) rfl ?_ (hK _ hX);simp[go_sem, *]
  case y1v3 =>
   intro a' w' hA hdep hX K hK;obtain⟨r41,q41⟩:=dpv hdep ⟨2,.data⟩ (by simp) rfl rfl;clear hdep ha0 hA;refine StepG.value (wanted_none rfl) rfl ?_ (hK _ hX);simp[go_sem, *]
  case y1v4 =>
   intro a' w' hA hdep hX K hK;obtain⟨r42,q42⟩:=dpv hdep ⟨3,.data⟩ (by simp) rfl rfl;have kc0:w'.cell? ⟨g,0,none⟩=some (.int .i64 a):=hX.cell (by simp) (by first | assumption | (go_simp; done) | (simp; done));have kc1:w'.cell? ⟨g,1,none⟩=some (.int .i64 a):=hX.cell (by simp) (by first | assumption | (go_simp; done) | (simp; done));clear hdep ha0 hA;refine StepG.value (wanted_none rfl) rfl ?_ (hK _ hX);simp[go_sem, *]
  case y1v5 =>
   exact mvVi rfl rfl rfl (by kernel_rfl) (by rw[ha0]; rfl)
  case y1v6 =>
   intro a' w' hA hdep hX K hK;obtain⟨r44,q44⟩:=dpv hdep ⟨5,.data⟩ (by simp) rfl rfl;clear hdep ha0 hA;refine StepG.value (wanted_none rfl) rfl ?_ (hK _ hX);simp[go_sem, *]
  case y1v7 =>
   intro a' w' hA hdep hX K hK;obtain⟨r45,q45⟩:=dpv hdep ⟨6,.data⟩ (by simp) rfl rfl;clear hdep ha0 hA;refine StepG.value (wanted_none rfl) rfl ?_ (hK _ hX);simp[go_sem, *]
  case y1v8 =>
   intro a' w' hA hdep hX K hK;obtain⟨r46,q46⟩:=dpv hdep ⟨7,.data⟩ (by simp) rfl rfl;clear hdep ha0 hA;refine StepG.value (wanted_none rfl) rfl ?_ (hK _ hX);simp[go_sem, *]
  case y1v9 =>
   intro a' w' hA hdep hX K hK;obtain⟨r47,q47⟩:=dpv hdep ⟨8,.data⟩ (by simp) rfl rfl;have kc0:w'.cell? ⟨g,0,none⟩=some (.int .i64 a):=hX.cell (by simp) (by first | assumption | (go_simp; done) | (simp; done));have kc1:w'.cell? ⟨g,1,none⟩=some (.int .i64 a):=hX.cell (by simp) (by first | assumption | (go_simp; done) | (simp; done));clear hdep ha0 hA;refine StepG.value (wanted_none rfl) rfl ?_ (hK _ hX);simp[go_sem, *]
  case y1v10 =>
   intro a' w' hA hdep hX K hK;obtain⟨r43,q43⟩:=dpv hdep ⟨4,.data⟩ (by simp) rfl rfl;obtain⟨r48,q48⟩:=dpv hdep ⟨9,.data⟩ (by simp) rfl rfl;clear hdep ha0 hA;refine StepG.value (wanted_none rfl) rfl ?_ (hK _ hX);simp[go_sem, *]
  intro w1 hXR;rw[ha0]; simp only[putL,Act.put,sA_,sZ_,sS_];clear ha0 hsz0;have B1:=Lib.hid (belX_belowK hXR);clear hXR c0 c1;go_wp2_with fail
  go_ret
  exact⟨_,fun _=>False,rfl,HR.out _,BelP.mono (BelP.ofBelow B1.out) (fun _ _ h=>False.elim h),fun _ h=>False.elim h⟩
open Go.RowKit Go.ChangeMaps
attribute [local go_sem ↓] Go.wp_at_zero Go.wp_at_succ
theorem row2_0' {w:World} {gT t:Nat} {c0 c1:Value} (h:w.heap[gT]?=some (.cells #[c0,c1] t (0,0))):w.cell? ⟨gT,0,none⟩=some c0/\w.cell? ⟨gT,1,none⟩=some c1:=⟨row2_0 h,row2_1 h⟩
theorem remove_high (k:Nat) (hk:k+1<=3) (ih:∀(v:Value) (m:RK.S) (F:Nat->Prop) (x:Nat) (w:World),k<=3->Rep ty k w v m F->m x=true ->
  Calls Tryz.prog 48 #[v,.int .i64 (k:Int),.int .i64 x] w (DelPost k m F x w))
  (v:Value) (m:RK.S) (F:Nat->Prop) (y a b:Nat) (w:World) (h:Rep ty (k+1) w v m F) (ha:RK.IsMin m a) (hb:RK.IsMax m b) (hab:a≠b) (hm:m y=true) (hya:y≠a) :
  Calls Tryz.prog 48 #[v,.int .i64 ((k:Int)+1),.int .i64 y] w (DelPost (k+1) m F y w):=by
 have t1:=ta_pe;have t2:=ta_pp;have t3:=ta_pt;have t4:=ta_te;have t5:=ta_tt;obtain⟨hs,⟨he,-,-⟩ | ⟨a',b',gT,bm,sv,Fs,sp,Fp,ha',hb',rfl,hg,hmap,hsv,hsp,hFp,hap,hF⟩⟩:=h
 · have:=ha.1; rw[he a]at this; cases this
 ·
  obtain rfl:=ha.unique ha';obtain rfl:=hb.unique hb';clear ha' hb';have hy:=hs y hm;obtain⟨hmin,hset⟩:=RK.del_high ha hya;have hn:=RK.del_supp hs y;have hgs:=blk_lt hg;have hbs:=hmap.lt;obtain⟨c0,c1,c2,c3,c4⟩:=row5 hg;have fz:=row_f hg;have hmem:=(RK.mem_iff hs hya).1 hm;obtain⟨q,r,p,eq,er,ep,hq,hr,q1,r1,p1,p2,q2,r2,y2⟩:=quo_facts (x:=y) hy hk;rw[eq,er]at hmem;obtain⟨hsh,hrm⟩:=hmem;have hpl:=fun wx=>places_any (k:Int) k wx rfl (by omega);rw[ep]at hpl;have HPL:=Lib.hid hpl;have HEQ:=Lib.hid eq;have HER:=Lib.hid er;have HEP:=Lib.hid ep;have hp0:¬p=0:=by omega
  have hwq:=wrap_small q1;have hwr:=wrap_small r1;have hwk:=wrap_small (n:=k) (by omega);have hin:InInt (q:Int):=⟨by omega,by omega⟩
  have hlk:=spotsF_in (sp:=sp) hsh;have HSH:=Lib.hid hsh;obtain⟨sv1,hsv1⟩:∃s,sp q=s:=⟨_,rfl⟩
  rw[hsv1]at hlk;have HSV1:=Lib.hid hsv1;have HLK:=Lib.hid (show(spotsF k m a sp (q:Int)).getD .nilIface=sv1 by rw[hlk]; rfl);have HSP:=Lib.hid hsp;have HSV:=Lib.hid hsv;have HFP:=Lib.hid hFp;have HAP:=Lib.hid hap;have HF:=Lib.hid hF;have HN:=Lib.hid hn;have HMIN:=Lib.hid hmin;have HSET:=Lib.hid hset;have HG1:=Lib.hid hg;have HM1:=Lib.hid hmap;have HA:=Lib.hid ha;have hne:((a:Int) == (b:Int))=false:=by simp; omega
  have hne2:((y:Int) == (a:Int))=false:=by simp; omega
  clear hpl eq er ep hsp hsv hFp hap hF hn hmap hg hm hmin hset hlk hsv1 hsh ha hb hab hya;unfold vT;go_enter Tryz.func48,Tryz.ntmps48;go_upto_region 9 with fail;refine with_act fun a0 ha0=>?_;have hsz0:a0.tmps.size=182:=by rw[ha0]; rfl
  refine wp_region_vals (W0:=w) (by kernel_rfl) (by kernel_rfl) [(39,.pointer (some ⟨gT,0,none⟩)),(40,.pointer (some ⟨gT,0,none⟩)),(41,.pointer (some ⟨gT,0,none⟩)),(42,.pointer (some ⟨gT,0,none⟩)),(43,.int .i64 a),(44,.pointer (some ⟨gT,0,none⟩)),(45,.pointer (some ⟨gT,0,none⟩)),(46,.pointer (some ⟨gT,0,none⟩)),(47,.pointer (some ⟨gT,1,none⟩)),(48,.int .i64 b),(49,.bool false)] rfl (by show([39,40,41,42,43,44,45,46,47,48,49]:List Nat).Nodup; decide) _ hsz0 (by kernel_rfl) (BelX.start _ _) ⟨⟨rfl,?y3v0⟩,⟨rfl,?y3v1⟩,⟨rfl,?y3v2⟩,⟨rfl,?y3v3⟩,⟨rfl,?y3v4⟩,⟨rfl,?y3v5⟩,⟨rfl,?y3v6⟩,⟨rfl,?y3v7⟩,⟨rfl,?y3v8⟩,⟨rfl,?y3v9⟩,⟨rfl,?y3v10⟩,trivial⟩ ?y3done
  case y3v0 =>
   exact mvVi rfl rfl rfl (by kernel_rfl) (by rw[ha0]; rfl)
  case y3v1 =>
   intro a' w' hA hdep hX K hK;obtain⟨r39,q39⟩:=dpv hdep ⟨0,.data⟩ (by simp) rfl rfl;clear hdep ha0 hA;refine StepG.value (wanted_none rfl) rfl ?_ (hK _ hX);simp[go_sem, *]
  case y3v2 =>
   intro a' w' hA hdep hX K hK;obtain⟨r40,q40⟩:=dpv hdep ⟨1,.data⟩ (by simp) rfl rfl;clear hdep ha0 hA;refine StepG.value (wanted_none rfl) rfl ?_ (hK _ hX);simp[go_sem, *]
  case y3v3 =>
   intro a' w' hA hdep hX K hK;obtain⟨r41,q41⟩:=dpv hdep ⟨2,.data⟩ (by simp) rfl rfl;clear hdep ha0 hA;refine StepG.value (wanted_none rfl) rfl ?_ (hK _ hX);simp[go_sem, *]
  case y3v4 =>
   intro a' w' hA hdep hX K hK;obtain⟨r42,q42⟩:=dpv hdep ⟨3,.data⟩ (by simp) rfl rfl;have kc0:w'.cell? ⟨gT,0,none⟩=some (.int .i64 a):=hX.cell (by simp) (by first | assumption | (go_simp; done) | (simp; done));have kc1:w'.cell? ⟨gT,1,none⟩=some (.int .i64 b):=hX.cell (by simp) (by first | assumption | (go_simp; done) | (simp; done));clear hdep ha0 hA;refine StepG.value (wanted_none rfl) rfl ?_ (hK _ hX);simp[go_sem, *]
  case y3v5 =>
   exact mvVi rfl rfl rfl (by kernel_rfl) (by rw[ha0]; rfl)
  case y3v6 =>
   intro a' w' hA hdep hX K hK;obtain⟨r44,q44⟩:=dpv hdep ⟨5,.data⟩ (by simp) rfl rfl;clear hdep ha0 hA;refine StepG.value (wanted_none rfl) rfl ?_ (hK _ hX);simp[go_sem, *]
  case y3v7 =>
   intro a' w' hA hdep hX K hK;obtain⟨r45,q45⟩:=dpv hdep ⟨6,.data⟩ (by simp) rfl rfl;clear hdep ha0 hA;refine StepG.value (wanted_none rfl) rfl ?_ (hK _ hX);simp[go_sem, *]
  case y3v8 =>
   intro a' w' hA hdep hX K hK;obtain⟨r46,q46⟩:=dpv hdep ⟨7,.data⟩ (by simp) rfl rfl;clear hdep ha0 hA;refine StepG.value (wanted_none rfl) rfl ?_ (hK _ hX);simp[go_sem, *]
  case y3v9 =>
   intro a' w' hA hdep hX K hK;obtain⟨r47,q47⟩:=dpv hdep ⟨8,.data⟩ (by simp) rfl rfl;have kc0:w'.cell? ⟨gT,0,none⟩=some (.int .i64 a):=hX.cell (by simp) (by first | assumption | (go_simp; done) | (simp; done));have kc1:w'.cell? ⟨gT,1,none⟩=some (.int .i64 b):=hX.cell (by simp) (by first | assumption | (go_simp; done) | (simp; done));clear hdep ha0 hA;refine StepG.value (wanted_none rfl) rfl ?_ (hK _ hX);simp[go_sem, *]
  case y3v10 =>
   intro a' w' hA hdep hX K hK;obtain⟨r43,q43⟩:=dpv hdep ⟨4,.data⟩ (by simp) rfl rfl;obtain⟨r48,q48⟩:=dpv hdep ⟨9,.data⟩ (by simp) rfl rfl;clear hdep ha0 hA;refine StepG.value (wanted_none rfl) rfl ?_ (hK _ hX);simp[go_sem, *]
  intro w1 hXR;rw[ha0]; simp only[putL,Act.put,sA_,sZ_,sS_];clear ha0 hsz0;have hg2:=(hXR.block gT hgs (by simp)).trans HG1.out;have HX2:=Lib.hid hXR;have HM2:=Lib.hid (HM1.out.of_block (hXR.block bm hbs (by simp)));clear c0 c1 c2 c3 c4 hXR fz;obtain⟨c0,c1,c2,c3,c4⟩:=row5 hg2;have fz:=row_f hg2;have hgs2:=blk_lt hg2;have hbs2:=HM2.out.lt;have HG2:=Lib.hid hg2;clear hg2;go_wp2_with fail;refine(HPL.out _).mono ?_;rintro e w1' ⟨rfl,rfl⟩;obtain⟨w2,h2⟩:∃wx,wx=w1:=⟨_,rfl⟩
  subst h2;have hRep:Rep ty k w2.drew sv1 (RK.spot k m a q) (Fp q):=by
   have h1:=HSP.out q HSH.out;rw[HSV1.out]at h1;exact h1.frame k (fun c hc=>HX2.out.block c (h1.lt k c hc) (by simp))
  go_upto_region 17 with fail;have HC:=Lib.hid ((ih sv1 (RK.spot k m a q) (Fp q) r w2.drew (by omega) hRep hrm).mono (R':=fun e w'=>∃z,e=.returned z/\∃F',Rep ty k w' z (RK.del (RK.spot k m a q) r) F'/\BelP (Fp q) w2.drew w'/\∀c,F' c->Fp q c∨w2.heap.size<=c) (fun e w' ⟨v',F',h1,h2⟩=>⟨v',h1,F',h2⟩));clear hRep hrm;refine with_act fun a0 ha0=>?_;have hsz0:a0.tmps.size=182:=by rw[ha0]; rfl
  refine wp_region_call1 (by kernel_rfl) (by kernel_rfl) [(93,.pointer (some ⟨gT,0,none⟩)),(94,.pointer (some ⟨gT,0,none⟩)),(95,.pointer (some ⟨gT,4,none⟩)),(96,.map (some bm)),(97,.int .i64 y),(98,.int .i64 p),(99,.int .i64 q),(100,sv1),(101,.int .i64 ((k:Int)+1)),(102,.int .i64 k),(103,.int .i64 y),(104,.int .i64 p),(105,.int .i64 r),(106,.nilIface)] 13 106 (.nilIface) _ rfl rfl rfl (by kernel_rfl) rfl (by show([93,94,95,96,97,98,99,100,101,102,103,104,105,106]:List Nat).Nodup; decide) _ hsz0 (by kernel_rfl) (fun wx:World=>wx.cell? ⟨gT,4,none⟩=some (.map (some bm))/\MapIs wx bm (spotsF k m a sp)/\True) (fun z w'=>∃F',Rep ty k w' z (RK.del (RK.spot k m a q) r) F'/\BelP (Fp q) w2.drew w'/\∀c,F' c->Fp q c∨w2.heap.size<=c) ⟨(by first | assumption | exact(show w2.cell? ⟨gT,4,none⟩=some (.map (some bm)) from by assumption)),(HM2.out.of_block rfl),trivial⟩ ?z4keep ⟨⟨rfl,?z4v0⟩,⟨rfl,?z4v1⟩,⟨rfl,?z4v2⟩,⟨rfl,?z4v3⟩,⟨rfl,?z4v4⟩,⟨rfl,?z4v5⟩,⟨rfl,?z4v6⟩,⟨rfl,?z4v7⟩,⟨rfl,?z4v8⟩,⟨rfl,?z4v9⟩,⟨rfl,?z4v10⟩,⟨rfl,?z4v11⟩,⟨rfl,?z4v12⟩,⟨rfl,?z4v13⟩,trivial⟩ ?z4done
  case z4keep=>exact(fun z w' ⟨F',_,hB,_⟩=>⟨(World.cell?_of_block (hB.block gT hgs2 (HAP.out.2.2.2.1 q).1)).trans c4,HM2.out.of_block (hB.block bm hbs2 (HAP.out.2.2.2.1 q).2),trivial⟩)
  case z4v0 =>
   exact mvCi (by decide) rfl rfl rfl (by kernel_rfl) (by rw[ha0]; rfl)
  case z4v1 =>
   rw[if_neg (by decide)];intro a' w' hA hdep hS K hK;obtain⟨r93,q93⟩:=dpc hdep ⟨0,.data⟩ (by simp) (by decide) rfl rfl;clear hdep ha0 hA;refine StepG.value (wanted_none rfl) rfl ?_ hK;simp[go_sem, *]
  case z4v2 =>
   rw[if_neg (by decide)];intro a' w' hA hdep hS K hK;obtain⟨r94,q94⟩:=dpc hdep ⟨1,.data⟩ (by simp) (by decide) rfl rfl;clear hdep ha0 hA;refine StepG.value (wanted_none rfl) rfl ?_ hK;simp[go_sem, *]
  case z4v3 =>
   rw[if_neg (by decide)];intro a' w' hA hdep hS K hK;obtain⟨r95,q95⟩:=dpc hdep ⟨2,.data⟩ (by simp) (by decide) rfl rfl;obtain⟨kc0,hh0,_⟩:=hS;clear hh0;clear hdep ha0 hA;refine StepG.value (wanted_none rfl) rfl ?_ hK;simp[go_sem, *]
  case z4v4 =>
   exact mvCi (by decide) rfl rfl rfl (by kernel_rfl) (by rw[ha0]; rfl)
  case z4v5 =>
   exact mvCi (by decide) rfl rfl rfl (by kernel_rfl) (by rw[ha0]; rfl)
  case z4v6 =>
   rw[if_neg (by decide)];intro a' w' hA hdep hS K hK;obtain⟨r97,q97⟩:=dpc hdep ⟨4,.data⟩ (by simp) (by decide) rfl rfl;obtain⟨r98,q98⟩:=dpc hdep ⟨5,.data⟩ (by simp) (by decide) rfl rfl;clear hdep ha0 hA;refine StepG.value (wanted_none rfl) rfl ?_ hK;simp[go_sem, *]
  case z4v7 =>
   rw[if_neg (by decide)];intro a' w' hA hdep hS K hK;obtain⟨r96,q96⟩:=dpc hdep ⟨3,.data⟩ (by simp) (by decide) rfl rfl;obtain⟨r99,q99⟩:=dpc hdep ⟨6,.data⟩ (by simp) (by decide) rfl rfl;obtain⟨kc0,hh0,_⟩:=hS;have kx0:=(show(Instr.lookup 82 (.map (some bm)) (.int .i64 (q:Int)) false).run Tryz.prog w'=.ok sv1 w' by have h:=hh0.look Tryz.underlying3 Tryz.underlying82 (zero_shape _) hin false; rw[HLK.out]at h; exact h)
   clear hh0;clear hdep ha0 hA;refine StepG.value (wanted_none rfl) rfl ?_ hK;simp[go_sem, *]
  case z4v8 =>
   exact mvCi (by decide) rfl rfl rfl (by kernel_rfl) (by rw[ha0]; rfl)
  case z4v9 =>
   rw[if_neg (by decide)];intro a' w' hA hdep hS K hK;obtain⟨r101,q101⟩:=dpc hdep ⟨8,.data⟩ (by simp) (by decide) rfl rfl;clear hdep ha0 hA;refine StepG.value (wanted_none rfl) rfl ?_ hK;simp[go_sem, *]
  case z4v10 =>
   exact mvCi (by decide) rfl rfl rfl (by kernel_rfl) (by rw[ha0]; rfl)
  case z4v11 =>
   exact mvCi (by decide) rfl rfl rfl (by kernel_rfl) (by rw[ha0]; rfl)
  case z4v12 =>
   rw[if_neg (by decide)];intro a' w' hA hdep hS K hK;obtain⟨r103,q103⟩:=dpc hdep ⟨10,.data⟩ (by simp) (by decide) rfl rfl;obtain⟨r104,q104⟩:=dpc hdep ⟨11,.data⟩ (by simp) (by decide) rfl rfl;clear hdep ha0 hA;refine StepG.value (wanted_none rfl) rfl ?_ hK;simp[go_sem, *]
  case z4v13 =>
   rw[if_pos rfl];intro a' hA hdep K hK;obtain⟨r100,q100⟩:=dpc hdep ⟨7,.data⟩ (by simp) (by decide) rfl rfl;obtain⟨r102,q102⟩:=dpc hdep ⟨9,.data⟩ (by simp) (by decide) rfl rfl;obtain⟨r105,q105⟩:=dpc hdep ⟨12,.data⟩ (by simp) (by decide) rfl rfl;clear hdep ha0 hA;refine StepG.callE (wanted_none rfl) rfl ?_ (HC.out) hK;simp[go_sem, *]
  intro z w3 hR3;rw[ha0]; simp only[List.set_cons_zero,List.set_cons_succ,putL,Act.put,List.setIfInBounds_toArray];clear ha0 hsz0;obtain⟨Fo',hR3,hB3,hF3⟩:=hR3;obtain⟨tt,xx,rfl⟩:=hR3.iface;have hg3:=(hB3.block gT hgs2 (HAP.out.2.2.2.1 q).1).trans HG2.out;have HM3:=Lib.hid (HM2.out.of_block (hB3.block bm hbs2 (HAP.out.2.2.2.1 q).2));have HR3:=Lib.hid hR3;have HB3:=Lib.hid hB3;have HF3:=Lib.hid hF3;clear hR3 hB3 hF3 c0 c1 c2 c3 c4 fz;obtain⟨c0,c1,c2,c3,c4⟩:=row5 hg3;have hgs3:=blk_lt hg3;have hbs3:=HM3.out.lt;have HG3:=Lib.hid hg3;clear hg3;go_upto_region 18 with fail;refine with_act fun a0 ha0=>?_;have hsz0:a0.tmps.size=182:=by rw[ha0]; rfl
  refine wp_region_call1 (by kernel_rfl) (by kernel_rfl) [(107,.pointer (some ⟨gT,0,none⟩)),(108,.pointer (some ⟨gT,0,none⟩)),(109,.pointer (some ⟨gT,4,none⟩)),(110,.map (some bm)),(111,.int .i64 y),(112,.int .i64 p),(113,.int .i64 q),(114,.iface tt xx)] 7 114 (.iface tt xx) _ rfl rfl rfl (by kernel_rfl) rfl (by show([107,108,109,110,111,112,113,114]:List Nat).Nodup; decide) _ hsz0 (by kernel_rfl) (fun wx:World=>wx.cell? ⟨gT,4,none⟩=some (.map (some bm))/\True) (fun(y:Value) (w':World)=>y=.iface tt xx/\w'=w3.drew) ⟨(by first | assumption | exact(show w3.cell? ⟨gT,4,none⟩=some (.map (some bm)) from by assumption)),trivial⟩ ?z5keep ⟨⟨rfl,?z5v0⟩,⟨rfl,?z5v1⟩,⟨rfl,?z5v2⟩,⟨rfl,?z5v3⟩,⟨rfl,?z5v4⟩,⟨rfl,?z5v5⟩,⟨rfl,?z5v6⟩,⟨rfl,?z5v7⟩,trivial⟩ ?z5done
  case z5keep=>exact(fun y w' h=>by obtain⟨-,rfl⟩:=h; exact⟨(by first | assumption | exact(show w3.cell? ⟨gT,4,none⟩=some (.map (some bm)) from by assumption)),trivial⟩)
  case z5v0 =>
   exact mvCi (by decide) rfl rfl rfl (by kernel_rfl) (by rw[ha0]; rfl)
  case z5v1 =>
   rw[if_neg (by decide)];intro a' w' hA hdep hS K hK;obtain⟨r107,q107⟩:=dpc hdep ⟨0,.data⟩ (by simp) (by decide) rfl rfl;clear hdep ha0 hA;refine StepG.value (wanted_none rfl) rfl ?_ hK;simp[go_sem, *]
  case z5v2 =>
   rw[if_neg (by decide)];intro a' w' hA hdep hS K hK;obtain⟨r108,q108⟩:=dpc hdep ⟨1,.data⟩ (by simp) (by decide) rfl rfl;clear hdep ha0 hA;refine StepG.value (wanted_none rfl) rfl ?_ hK;simp[go_sem, *]
  case z5v3 =>
   rw[if_neg (by decide)];intro a' w' hA hdep hS K hK;obtain⟨r109,q109⟩:=dpc hdep ⟨2,.data⟩ (by simp) (by decide) rfl rfl;obtain⟨kc0,_⟩:=hS;clear hdep ha0 hA;refine StepG.value (wanted_none rfl) rfl ?_ hK;simp[go_sem, *]
  case z5v4 =>
   exact mvCi (by decide) rfl rfl rfl (by kernel_rfl) (by rw[ha0]; rfl)
  case z5v5 =>
   exact mvCi (by decide) rfl rfl rfl (by kernel_rfl) (by rw[ha0]; rfl)
  case z5v6 =>
   rw[if_neg (by decide)];intro a' w' hA hdep hS K hK;obtain⟨r111,q111⟩:=dpc hdep ⟨4,.data⟩ (by simp) (by decide) rfl rfl;obtain⟨r112,q112⟩:=dpc hdep ⟨5,.data⟩ (by simp) (by decide) rfl rfl;clear hdep ha0 hA;refine StepG.value (wanted_none rfl) rfl ?_ hK;simp[go_sem, *]
  case z5v7 =>
   rw[if_pos rfl];intro a' hA hdep K hK;obtain⟨r14,q14⟩:=dpi hA 14 (.iface tt xx) (by kernel_rfl) (by rw[ha0]; rfl);clear hdep ha0 hA;refine StepG.value (w':=w3.drew) (wanted_none rfl) rfl ?_ (hK _ _ ⟨rfl,rfl⟩);simp[go_sem, *]
  intro yq0 wq0 hq0;have hq1:yq0=.iface tt xx/\wq0=w3.drew:=hq0;clear hq0;have hqe:=hq1.1;have hqf:=hq1.2;clear hq1;subst hqe;subst hqf;rw[ha0]; simp only[List.set_cons_zero,List.set_cons_succ,putL,Act.put,List.setIfInBounds_toArray];clear ha0 hsz0;obtain⟨o4,hrun4,hm4⟩:=(show MapIs w3.drew bm (spotsF k m a sp) from HM3.out.of_block rfl).put Tryz.underlying3 Tryz.underlying82 hin (.iface tt xx);obtain⟨w4,h4⟩:∃wx,wx=setBlock w3.drew bm o4:=⟨_,rfl⟩
  rw[<-h4]at hrun4 hm4;have HM4:=Lib.hid hm4;have hX4:BelX [bm] w3 w4:=by rw[h4]; exact(BelX.start [bm] w3).setBlk (by simp) o4
  have hg4:w4.heap[gT]?=some (.cells #[.int .i64 a,.int .i64 b,.int .i64 ((k:Int)+1),sv,.map (some bm)] 84 (0,0)):=(hX4.block gT hgs3 (by simp; exact HAP.out.1)).trans HG3.out;have HG4:=Lib.hid hg4;have HX4:=Lib.hid hX4;clear c0 c1 c2 c3 c4 hm4 h4 hX4;obtain⟨c0,c1,c2,c3,c4⟩:=row5 hg4;have fz:=row_f hg4;have hgs4:=blk_lt hg4;have hbs4:=HM4.out.lt;clear hg4;rcases HR3.out.cases with ⟨hem,hLe⟩ | ⟨a2,b2,hmin2,hmax2,hcase⟩
  case inl =>
   have hcmp:=eq_ee;unfold vE at hLe;obtain⟨rfl,rfl⟩:tt=40/\xx=.agg #[]:=by simpa using hLe
   have HEM:=Lib.hid hem;clear hLe hem;go_upto_region 20 with fail;refine with_act fun a0 ha0=>?_;have hsz0:a0.tmps.size=182:=by rw[ha0]; rfl
   refine wp_region_call2 (by kernel_rfl) (by kernel_rfl) [(119,.pointer (some ⟨gT,0,none⟩)),(120,.pointer (some ⟨gT,0,none⟩)),(121,.pointer (some ⟨gT,4,none⟩)),(122,.map (some bm)),(123,.int .i64 y),(124,.int .i64 p),(125,.int .i64 q)] 6 125 (.int .i64 q) _ rfl rfl rfl (by kernel_rfl) rfl (by show([119,120,121,122,123,124,125]:List Nat).Nodup; decide) _ hsz0 (by kernel_rfl) (fun wx:World=>wx.cell? ⟨gT,4,none⟩=some (.map (some bm))/\True) (fun(y:Value) (w':World)=>y=.int .i64 q/\w'=w4.drew) ⟨(by first | assumption | exact(show w4.cell? ⟨gT,4,none⟩=some (.map (some bm)) from by assumption)),trivial⟩ ?z6keep ⟨⟨rfl,?z6v0⟩,⟨rfl,?z6v1⟩,⟨rfl,?z6v2⟩,⟨rfl,?z6v3⟩,⟨rfl,?z6v4⟩,⟨rfl,?z6v5⟩,⟨rfl,?z6v6⟩,trivial⟩ ?z6done
   case z6keep=>exact(fun y w' h=>by obtain⟨-,rfl⟩:=h; exact⟨(by first | assumption | exact(show w4.cell? ⟨gT,4,none⟩=some (.map (some bm)) from by assumption)),trivial⟩)
   case z6v0 =>
    exact mvCi (by decide) rfl rfl rfl (by kernel_rfl) (by rw[ha0]; rfl)
   case z6v1 =>
    rw[if_neg (by decide)];intro a' w' hA hdep hS K hK;obtain⟨r119,q119⟩:=dpc hdep ⟨0,.data⟩ (by simp) (by decide) rfl rfl;clear hdep ha0 hA;refine StepG.value (wanted_none rfl) rfl ?_ hK;simp[go_sem, *]
   case z6v2 =>
    rw[if_neg (by decide)];intro a' w' hA hdep hS K hK;obtain⟨r120,q120⟩:=dpc hdep ⟨1,.data⟩ (by simp) (by decide) rfl rfl;clear hdep ha0 hA;refine StepG.value (wanted_none rfl) rfl ?_ hK;simp[go_sem, *]
   case z6v3 =>
    rw[if_neg (by decide)];intro a' w' hA hdep hS K hK;obtain⟨r121,q121⟩:=dpc hdep ⟨2,.data⟩ (by simp) (by decide) rfl rfl;obtain⟨kc0,_⟩:=hS;clear hdep ha0 hA;refine StepG.value (wanted_none rfl) rfl ?_ hK;simp[go_sem, *]
   case z6v4 =>
    exact mvCi (by decide) rfl rfl rfl (by kernel_rfl) (by rw[ha0]; rfl)
   case z6v5 =>
    exact mvCi (by decide) rfl rfl rfl (by kernel_rfl) (by rw[ha0]; rfl)
   case z6v6 =>
    rw[if_pos rfl];intro a' hA hdep K hK;obtain⟨r123,q123⟩:=dpc hdep ⟨4,.data⟩ (by simp) (by decide) rfl rfl;obtain⟨r124,q124⟩:=dpc hdep ⟨5,.data⟩ (by simp) (by decide) rfl rfl;clear hdep ha0 hA;refine StepG.value (w':=w4.drew) (wanted_none rfl) rfl ?_ (hK _ _ ⟨rfl,rfl⟩);simp[go_sem, *]
   intro yq0 wq0 hq0;have hq1:yq0=.int .i64 q/\wq0=w4.drew:=hq0;clear hq0;have hqe:=hq1.1;have hqf:=hq1.2;clear hq1;subst hqe;subst hqf;rw[ha0]; simp only[List.set_cons_zero,List.set_cons_succ,putL,Act.put,List.setIfInBounds_toArray];clear ha0 hsz0;obtain⟨oD,hrunD,hmD⟩:=(show MapIs w4.drew bm _ from HM4.out.of_block rfl).drop (ty:=0) Tryz.underlying3 Tryz.underlying82 hin;obtain⟨wD,hD⟩:∃wx,wx=setBlock w4.drew bm oD:=⟨_,rfl⟩
   rw[<-hD]at hrunD hmD;have hXD:BelX [bm] w4 wD:=by rw[hD]; exact(BelX.start [bm] w4).setBlk (by simp) oD
   have hgD:wD.heap[gT]?=some (.cells #[.int .i64 a,.int .i64 b,.int .i64 ((k:Int)+1),sv,.map (some bm)] 84 (0,0)):=(hXD.block gT hgs4 (by simp; exact HAP.out.1)).trans HG4.out;have hmD2:MapIs wD bm (fun j=>if j=(q:Int) then none else spotsF k m a sp j):=by
    have e:(fun j=>if j=(q:Int) then none else (if j=(q:Int) then some (Value.iface 40 (.agg #[])) else spotsF k m a sp j))=(fun j=>if j=(q:Int) then none else spotsF k m a sp j):=by
     funext j; by_cases h:j=(q:Int) <;> simp[h]
    rw[<-e]; exact hmD
   have HMD:=Lib.hid hmD2;have HGD:=Lib.hid hgD;have HXD:=Lib.hid hXD;clear c0 c1 c2 c3 c4 fz hmD hmD2 hD hXD;obtain⟨c0,c1,c2,c3,c4⟩:=row5 hgD;have hgsD:=blk_lt hgD;have hbsD:=HMD.out.lt;clear hgD;go_upto_region 21 with fail;have hRD:Rep ty k wD.drew sv (RK.shelves k m a) Fs:=by
    have h2:Rep ty k w2.drew sv (RK.shelves k m a) Fs:=HSV.out.frame k (fun c hc=>HX2.out.block c (HSV.out.lt k c hc) (by simp));have h4:Rep ty k w4 sv (RK.shelves k m a) Fs:=(h2.kept HB3.out (fun c hc h=>HAP.out.2.2.2.2.1 q c hc h)).kept (BelP.ofX HX4.out) (fun c hc h=>HAP.out.2.2.1 ((show c=bm by simpa using h) ▸ hc));exact(h4.kept (BelP.ofX HXD.out) (fun c hc h=>HAP.out.2.2.1 ((show c=bm by simpa using h) ▸ hc))).frame k (fun c hc=>rfl)
   have HC2:=Lib.hid ((ih sv (RK.shelves k m a) Fs q wD.drew (by omega) hRD HSH.out).mono (R':=fun e w'=>∃z,e=.returned z/\∃F',Rep ty k w' z (RK.del (RK.shelves k m a) q) F'/\BelP Fs wD.drew w'/\∀c,F' c->Fs c∨wD.heap.size<=c) (fun e w' ⟨v',F',h1,h2⟩=>⟨v',h1,F',h2⟩));clear hRD;refine with_act fun a0 ha0=>?_;have hsz0:a0.tmps.size=182:=by rw[ha0]; rfl
   refine wp_region_call1 (by kernel_rfl) (by kernel_rfl) [(126,.pointer (some ⟨gT,0,none⟩)),(127,.pointer (some ⟨gT,0,none⟩)),(128,.pointer (some ⟨gT,0,none⟩)),(129,.pointer (some ⟨gT,3,none⟩)),(130,sv),(131,.int .i64 ((k:Int)+1)),(132,.int .i64 k),(133,.int .i64 y),(134,.int .i64 p),(135,.int .i64 q),(136,.nilIface),(137,.pointer (some ⟨gT,0,none⟩)),(138,.pointer (some ⟨gT,3,none⟩))] 10 136 (.nilIface) _ rfl rfl rfl (by kernel_rfl) rfl (by show([126,127,128,129,130,131,132,133,134,135,136,137,138]:List Nat).Nodup; decide) _ hsz0 (by kernel_rfl) (fun wx:World=>wx.cell? ⟨gT,3,none⟩=some (sv)/\True) (fun z w'=>∃F',Rep ty k w' z (RK.del (RK.shelves k m a) q) F'/\BelP Fs wD.drew w'/\∀c,F' c->Fs c∨wD.heap.size<=c) ⟨(by first | assumption | exact(show wD.cell? ⟨gT,3,none⟩=some (sv) from by assumption)),trivial⟩ ?z7keep ⟨⟨rfl,?z7v0⟩,⟨rfl,?z7v1⟩,⟨rfl,?z7v2⟩,⟨rfl,?z7v3⟩,⟨rfl,?z7v4⟩,⟨rfl,?z7v5⟩,⟨rfl,?z7v6⟩,⟨rfl,?z7v7⟩,⟨rfl,?z7v8⟩,⟨rfl,?z7v9⟩,⟨rfl,?z7v10⟩,⟨rfl,?z7v11⟩,⟨rfl,?z7v12⟩,trivial⟩ ?z7done
   case z7keep=>exact(fun z w' ⟨F',_,hB,_⟩=>⟨(World.cell?_of_block (hB.block gT hgsD HAP.out.2.1)).trans c3,trivial⟩)
   case z7v0 =>
    exact mvCi (by decide) rfl rfl rfl (by kernel_rfl) (by rw[ha0]; rfl)
   case z7v1 =>
    exact mvCi (by decide) rfl rfl rfl (by kernel_rfl) (by rw[ha0]; rfl)
   case z7v2 =>
    rw[if_neg (by decide)];intro a' w' hA hdep hS K hK;obtain⟨r127,q127⟩:=dpc hdep ⟨1,.data⟩ (by simp) (by decide) rfl rfl;clear hdep ha0 hA;refine StepG.value (wanted_none rfl) rfl ?_ hK;simp[go_sem, *]
   case z7v3 =>
    rw[if_neg (by decide)];intro a' w' hA hdep hS K hK;obtain⟨r128,q128⟩:=dpc hdep ⟨2,.data⟩ (by simp) (by decide) rfl rfl;clear hdep ha0 hA;refine StepG.value (wanted_none rfl) rfl ?_ hK;simp[go_sem, *]
   case z7v4 =>
    rw[if_neg (by decide)];intro a' w' hA hdep hS K hK;obtain⟨r129,q129⟩:=dpc hdep ⟨3,.data⟩ (by simp) (by decide) rfl rfl;obtain⟨kc0,_⟩:=hS;clear hdep ha0 hA;refine StepG.value (wanted_none rfl) rfl ?_ hK;simp[go_sem, *]
   case z7v5 =>
    exact mvCi (by decide) rfl rfl rfl (by kernel_rfl) (by rw[ha0]; rfl)
   case z7v6 =>
    rw[if_neg (by decide)];intro a' w' hA hdep hS K hK;obtain⟨r131,q131⟩:=dpc hdep ⟨5,.data⟩ (by simp) (by decide) rfl rfl;clear hdep ha0 hA;refine StepG.value (wanted_none rfl) rfl ?_ hK;simp[go_sem, *]
   case z7v7 =>
    exact mvCi (by decide) rfl rfl rfl (by kernel_rfl) (by rw[ha0]; rfl)
   case z7v8 =>
    exact mvCi (by decide) rfl rfl rfl (by kernel_rfl) (by rw[ha0]; rfl)
   case z7v9 =>
    rw[if_neg (by decide)];intro a' w' hA hdep hS K hK;obtain⟨r133,q133⟩:=dpc hdep ⟨7,.data⟩ (by simp) (by decide) rfl rfl;obtain⟨r134,q134⟩:=dpc hdep ⟨8,.data⟩ (by simp) (by decide) rfl rfl;clear hdep ha0 hA;refine StepG.value (wanted_none rfl) rfl ?_ hK;simp[go_sem, *]
   case z7v10 =>
    rw[if_pos rfl];intro a' hA hdep K hK;obtain⟨r130,q130⟩:=dpc hdep ⟨4,.data⟩ (by simp) (by decide) rfl rfl;obtain⟨r132,q132⟩:=dpc hdep ⟨6,.data⟩ (by simp) (by decide) rfl rfl;obtain⟨r135,q135⟩:=dpc hdep ⟨9,.data⟩ (by simp) (by decide) rfl rfl;clear hdep ha0 hA;refine StepG.callE (wanted_none rfl) rfl ?_ (HC2.out) hK;simp[go_sem, *]
   case z7v11 =>
    rw[if_neg (by decide)];intro a' w' hA hdep hS K hK;obtain⟨r126,q126⟩:=dpc hdep ⟨0,.data⟩ (by simp) (by decide) rfl rfl;clear hdep ha0 hA;refine StepG.value (wanted_none rfl) rfl ?_ hK;simp[go_sem, *]
   case z7v12 =>
    rw[if_neg (by decide)];intro a' w' hA hdep hS K hK;obtain⟨r137,q137⟩:=dpc hdep ⟨11,.data⟩ (by simp) (by decide) rfl rfl;clear hdep ha0 hA;refine StepG.value (wanted_none rfl) rfl ?_ hK;simp[go_sem, *]
   intro zs w10 hR10;rw[ha0]; simp only[List.set_cons_zero,List.set_cons_succ,putL,Act.put,List.setIfInBounds_toArray];clear ha0 hsz0;obtain⟨Fs',hR10,hB10,hF10⟩:=hR10;obtain⟨st,sx,rfl⟩:=hR10.iface;have hg10:=(hB10.block gT hgsD HAP.out.2.1).trans HGD.out;have HM10:=Lib.hid (HMD.out.of_block (hB10.block bm hbsD HAP.out.2.2.1));have HR10:=Lib.hid hR10;have HB10:=Lib.hid hB10;have HF10:=Lib.hid hF10;have HG10:=Lib.hid hg10;clear hR10 hB10 hF10 c0 c1 c2 c3 c4;obtain⟨c0,c1,c2,c3,c4⟩:=row5 hg10;have fz:=row_f hg10;have hgs10:=blk_lt hg10;have hbs10:=HM10.out.lt;clear hg10;go_upto_region 22 with fail;obtain⟨w11,h11⟩:∃wx:World,wx=w10.setCell ⟨gT,3,none⟩ (.iface st sx):=⟨_,rfl⟩
   rw[<-h11];have hX11:BelX [gT] w10 w11:=by rw[h11]; exact(BelX.here [gT] w10).setOld (p:=⟨gT,3,none⟩) (by simp) _
   have hg11:w11.heap[gT]?=some (.cells #[.int .i64 a,.int .i64 b,.int .i64 ((k:Int)+1),.iface st sx,.map (some bm)] 84 (0,0)):=by rw[h11]; simp[World.setCell,Array.getElem?_modify,HG10.out]
   have HM11:=Lib.hid (HM10.out.of_block (hX11.block bm hbs10 (by simp; exact fun e=>HAP.out.1 e.symm)));have hFs'g:∀c,Fs' c->c≠gT:=fun c hc h=>by
    subst h;rcases HF10.out _ hc with h | h
    · exact HAP.out.2.1 h
    · omega
   have HS4:Hid (Rep ty k w11 (.iface st sx) (RK.del (RK.shelves k m a) q) Fs'):=Lib.hid (HR10.out.kept (BelP.ofX1 hX11) hFs'g);have HFS:=Lib.hid hFs'g;have HX11:=Lib.hid hX11;clear h11 c0 c1 c2 c3 c4 fz hX11 hFs'g;obtain⟨c0,c1,c2,c3,c4⟩:=row5 hg11;have fz:=row_f hg11;have hgs11:=blk_lt hg11;have hbs11:=HM11.out.lt;have HG11:=Lib.hid hg11;clear hg11;have esh:RK.shelves k (RK.del m y) a=RK.del (RK.shelves k m a) q:=by
    rw[RK.shelves_del HSET.out (by rw[HEQ.out,HER.out]; exact HEM.out),HEQ.out]
   have HESH:=Lib.hid esh;clear esh
   by_cases hse:RK.Emp (RK.del (RK.shelves k m a) q)
   case pos =>
    have HSE:=Lib.hid hse;have HMAX:=Lib.hid (RK.max_none HN.out HMIN.out (by rw[HESH.out]; exact hse));clear hse;go_upto_region 23 with fail;obtain⟨w5,h5⟩:∃wx:World,wx=w11.setCell ⟨gT,1,none⟩ (.int .i64 a):=⟨_,rfl⟩
    rw[<-h5];have hX5:BelX [gT] w11 w5:=by rw[h5]; exact(BelX.here [gT] w11).setOld (p:=⟨gT,1,none⟩) (by simp) _
    have hg5:w5.heap[gT]?=some (.cells #[.int .i64 a,.int .i64 a,.int .i64 ((k:Int)+1),.iface st sx,.map (some bm)] 84 (0,0)):=by rw[h5]; simp[World.setCell,Array.getElem?_modify,HG11.out]
    have HM5:=Lib.hid (HM11.out.of_block (hX5.block bm hbs11 (by simp; exact fun e=>HAP.out.1 e.symm)));have HS5:=Lib.hid (HS4.out.kept (BelP.ofX1 hX5) HFS.out);have HX5:=Lib.hid hX5;clear h5 c0 c1 c2 c3 c4 fz hX5;obtain⟨c0,c1,c2,c3,c4⟩:=row5 hg5;have hgs5:=blk_lt hg5;have HG5:=Lib.hid hg5;clear hg5;go_wp2_with fail;refine(ends_emp w5 HS5.out HSE.out).mono ?_;rintro e w6 ⟨rfl,hb6⟩;have HG6:=Lib.hid ((hb6.block gT hgs5).trans HG5.out);have HM6:=Lib.hid (HM5.out.of_block (hb6.block bm HM5.out.lt));have HB6:=Lib.hid hb6;clear hb6 c0 c1 c2 c3 c4 HM5 HS5 HG5;go_upto_region 27 with fail;obtain⟨w9,h9⟩:∃wx:World,wx=w6.alloc (.cells #[.int .i64 0,.int .i64 0] 78):=⟨_,rfl⟩
    rw[<-h9];have hb9:Below w6.heap.size w6 w9:=by rw[h9]; exact(by repeat (first | exact Below.refl _ _ | exact Nat.le_refl _ | refine Below.alloc ?_ ?_ _ | refine Below.setCell ?_ ?_ _ | refine Below.drew ?_ | refine bl_drewN ?_ _ | (assumption) | refine bl_call ?_ (by assumption) ?_ | omega | (simp <;> omega)))
    have HG9:Hid (w9.heap[gT]?=some (.cells #[.int .i64 a,.int .i64 a,.int .i64 ((k:Int)+1),.iface st sx,.map (some bm)] 84 (0,0))):=Lib.hid (by rw[h9]; exact blk_old HG6.out);have HM9:=Lib.hid (HM6.out.of_block (hb9.block bm HM6.out.lt));have HD9:Hid (BelP (fun c=>c=gT∨c=bm) w11 w9):=Lib.hid (
     BelP.trans (BelP.trans ((BelP.ofX HX5.out).mono fun c _ h=>.inl (by simpa using h)) ((BelP.ofBelow HB6.out).mono fun _ _ h=>False.elim h) (fun _ _ h=>h)) ((BelP.ofBelow hb9).mono fun _ _ h=>False.elim h) (fun _ _ h=>h))
    clear h9 hb9;go_wp2_with fail
    go_ret
    have heq:=HEQ.out;have her:=HER.out;subst heq her;have hB3w:BelP (Fp (y / RK.R k)) w2 w3:=⟨HB3.out.os,HB3.out.tape,HB3.out.output,HB3.out.size,HB3.out.block⟩
    have hB10w:BelP Fs wD w10:=⟨HB10.out.os,HB10.out.tape,HB10.out.output,HB10.out.size,HB10.out.block⟩
    have hB109:BelP (fun c=>c=gT∨c=bm) w10 w9:=BelP.trans ((BelP.ofX HX11.out).mono fun c _ h=>.inl (by simpa using h)) HD9.out (fun _ _ h=>h);have hBw:BelP (fun c=>c=gT∨c=bm∨Fs c∨Fp (y / RK.R k) c) w w9 :=
     BelP.trans (BelP.trans (BelP.trans (BelP.trans (BelP.trans ((BelP.ofX HX2.out).mono fun c _ h=>by simp at h) (hB3w.mono fun c _ h=>.inr (.inr (.inr h))) (fun _ _ h=>h)) ((BelP.ofX HX4.out).mono fun c _ h=>.inr (.inl (by simpa using h))) (fun _ _ h=>h)) ((BelP.ofX HXD.out).mono fun c _ h=>.inr (.inl (by simpa using h))) (fun _ _ h=>h)) (hB10w.mono fun c _ h=>.inr (.inr (.inl h))) (fun _ _ h=>h)) (hB109.mono fun c _ h=>h.elim .inl (fun h=>.inr (.inl h))) (fun _ _ h=>h)
    have hsD:w.heap.size<=wD.heap.size:=Nat.le_trans HX2.out.size (Nat.le_trans HB3.out.size (Nat.le_trans HX4.out.size HXD.out.size));obtain⟨F',hRF,hFF⟩:=rep_del_gone (T:=ty) (w:=w) (w3:=w10) (w4:=w9) (y:=y) HN.out HSET.out HMIN.out HMAX.out HEM.out HSP.out HFP.out HAP.out hgs hbs hBw HR10.out (fun c hc=>(HF10.out c hc).imp id (fun h=>Nat.le_trans hsD h)) hB109 HG9.out HM9.out;refine⟨_,F',rfl,hRF,hBw.mono fun c _ h=>(HF.out c).2 ?_,fun c h=>?_⟩
    ·
     rcases h with h | h | h | h
     · exact .inl h
     · exact .inr (.inl h)
     · exact .inr (.inr (.inl h))
     · exact .inr (.inr (.inr ⟨_,h⟩))
    ·
     rcases hFF c h with h | h
     · exact .inl ((HF.out c).2 h)
     · exact .inr h
   case neg =>
    obtain⟨s0,hs0⟩:=RK.exists_min hse;obtain⟨s1,hs1⟩:=RK.exists_max (RK.del_supp (RK.shelves_supp k m a) q) hse;obtain⟨hsq,hs1m⟩:=(RK.del_iff _ _ _).1 hs1.1;have esp:RK.spot k (RK.del m y) a s1=RK.spot k m a s1:=by rw[RK.spot_del HSET.out s1,HEQ.out,if_neg hsq]
    have hns1:=RK.shelf_some hs1m;obtain⟨d0,hd0⟩:=RK.exists_min hns1;obtain⟨d1,hd1⟩:=RK.exists_max (RK.spot_supp k m a s1) hns1;have HMAX:=Lib.hid (RK.max_some HN.out HMIN.out (by rw[HESH.out]; exact hs1) (by rw[esp]; exact hd1));have hRu:Rep ty k w11 (sp s1) (RK.spot k m a s1) (Fp s1):=by
     have h1:=HSP.out s1 hs1m;have h2:Rep ty k w2.drew (sp s1) (RK.spot k m a s1) (Fp s1):=h1.frame k (fun c hc=>HX2.out.block c (h1.lt k c hc) (by first | (simp; done) | (simp; intro e; exact(HAP.out.2.2.2.1 s1).1 (e ▸ hc)) | exact(fun e=>(HAP.out.2.2.2.1 s1).1 (e ▸ hc))));have h3:=h2.kept HB3.out (fun c hc h=>HAP.out.2.2.2.2.2 s1 q c hsq hc h);have h4:=h3.kept (BelP.ofX HX4.out) (fun c hc h=>(HAP.out.2.2.2.1 s1).2 ((show c=bm by simpa using h) ▸ hc));have h5:Rep ty k wD.drew (sp s1) (RK.spot k m a s1) (Fp s1):=(h4.kept (BelP.ofX HXD.out) (fun c hc h=>(HAP.out.2.2.2.1 s1).2 ((show c=bm by simpa using h) ▸ hc))).frame k (fun c hc=>rfl);exact(h5.kept HB10.out (fun c hc h=>HAP.out.2.2.2.2.1 s1 c h hc)).kept (BelP.ofX1 HX11.out) (fun c hc h=>(HAP.out.2.2.2.1 s1).1 (h ▸ hc))
    have HFU:=Lib.hid (show ∀c,Fp s1 c->c≠gT from fun c hc h=>(HAP.out.2.2.2.1 s1).1 (h ▸ hc));obtain⟨ut,ux,hut⟩:=hRu.iface;have hlk4:(if (s1:Int)=(q:Int) then none else spotsF k m a sp (s1:Int))=some (.iface ut ux):=by
     rw[if_neg (by omega),spotsF_in hs1m,hut]
    rw[hut]at hRu;have HU4:=Lib.hid hRu;have HLK4:=Lib.hid hlk4;have hs1b:=RK.shelves_supp k m a s1 hs1m;have hd1b:=RK.spot_supp _ _ _ _ _ hd1.1;have hjn:=RK.join_lt hs1b hd1b;have HS0:=Lib.hid hs0;have HS1:=Lib.hid hs1;have HD0:=Lib.hid hd0;have HD1:=Lib.hid hd1;clear hs0 hs1 hd0 hd1 hRu hlk4 hns1 esp hs1m hut hse hsq;go_upto_region 23 with fail;obtain⟨w5,h5⟩:∃wx:World,wx=w11.setCell ⟨gT,1,none⟩ (.int .i64 a):=⟨_,rfl⟩
    rw[<-h5];have hX5:BelX [gT] w11 w5:=by rw[h5]; exact(BelX.here [gT] w11).setOld (p:=⟨gT,1,none⟩) (by simp) _
    have hg5:w5.heap[gT]?=some (.cells #[.int .i64 a,.int .i64 a,.int .i64 ((k:Int)+1),.iface st sx,.map (some bm)] 84 (0,0)):=by rw[h5]; simp[World.setCell,Array.getElem?_modify,HG11.out]
    have HM5:=Lib.hid (HM11.out.of_block (hX5.block bm hbs11 (by simp; exact fun e=>HAP.out.1 e.symm)));have HS5:=Lib.hid (HS4.out.kept (BelP.ofX1 hX5) HFS.out);have HU5:=Lib.hid (HU4.out.kept (BelP.ofX1 hX5) HFU.out);have HX5:=Lib.hid hX5;clear h5 c0 c1 c2 c3 c4 fz hX5;obtain⟨c0,c1,c2,c3,c4⟩:=row5 hg5;have hgs5:=blk_lt hg5;have HG5:=Lib.hid hg5;clear hg5;go_wp2_with fail;refine(ends_some w5 HS5.out HS0.out HS1.out).mono ?_;rintro e w6 ⟨rfl,hb6⟩;have hg6:=(hb6.block gT hgs5).trans HG5.out;have HM6:=Lib.hid (HM5.out.of_block (hb6.block bm HM5.out.lt));have HU6:=Lib.hid (HU5.out.below hb6);have HB6:=Lib.hid hb6;have HG6:=Lib.hid hg6;clear hb6 c0 c1 c2 c3 c4 hg6 HM5 HU5 HS5 HG5;go_upto_region 25 with fail;obtain⟨w7,h7⟩:∃wx:World,wx=w6.alloc (.cells #[.int .i64 s0,.int .i64 s1] 78):=⟨_,rfl⟩
    rw[<-h7];have hp7:w7.heap[w6.heap.size]?=some (.cells #[.int .i64 s0,.int .i64 s1] 78 (0,0)):=by rw[h7]; exact blk_new _ _
    have hg7:w7.heap[gT]?=some (.cells #[.int .i64 a,.int .i64 a,.int .i64 ((k:Int)+1),.iface st sx,.map (some bm)] 84 (0,0)):=by rw[h7]; exact blk_old HG6.out
    have hb7:Below w6.heap.size w6 w7:=by rw[h7]; exact(by repeat (first | exact Below.refl _ _ | exact Nat.le_refl _ | refine Below.alloc ?_ ?_ _ | refine Below.setCell ?_ ?_ _ | refine Below.drew ?_ | refine bl_drewN ?_ _ | (assumption) | refine bl_call ?_ (by assumption) ?_ | omega | (simp <;> omega)))
    have HM7:=Lib.hid (HM6.out.of_block (hb7.block bm HM6.out.lt));have HU7:=Lib.hid (HU6.out.below hb7);have HB7:=Lib.hid hb7;obtain⟨c0,c1,c2,c3,c4⟩:=row5 hg7;obtain⟨e0,e1⟩:=row2_0' hp7;have hgs7:=blk_lt hg7;have hps7:=blk_lt hp7;have hbs7:=HM7.out.lt;have HG7:=Lib.hid hg7;have HP7:=Lib.hid hp7;clear h7 hb7 hg7 hp7 HU6 HM6;obtain⟨PB,hPB⟩:∃n,w6.heap.size=n:=⟨_,rfl⟩
    rw[hPB]at e0 e1 hps7 HP7;rw[hPB];have HPB:=Lib.hid hPB;clear hPB c0 c1 c2 c3 e0;have hin1:InInt (s1:Int):=⟨by omega,by have:=RK.R_le (show k<=3 by omega); omega⟩
    refine with_act fun a0 ha0=>?_;refine wp_region_inv (by kernel_rfl) (by kernel_rfl) (fun s a' w'=>∃v158 v159 v160 v161 v162 v163 v164 v165 v157 v166 v167 v17 v18:Value,a'=putL a0 [(158,v158),(159,v159),(160,v160),(161,v161),(162,v162),(163,v163),(164,v164),(165,v165),(157,v157),(166,v166),(167,v167),(17,v17),(18,v18)]/\Hid ((s 0=true->v158=.pointer (some ⟨gT,0,none⟩))/\(s 1=true->v159=.pointer (some ⟨gT,0,none⟩))/\(s 2=true->v160=.pointer (some ⟨gT,4,none⟩))/\(s 3=true->v161=.map (some bm))/\(s 4=true->v162=.pointer (some ⟨PB,1,none⟩))/\(s 5=true->v163=.int .i64 s1)/\(s 6=true->v164=.iface ut ux)/\(s 7=true->v165=.tuple #[.agg #[.int .i64 d0,.int .i64 d1],.bool true])/\(s 8=true->v157=.tuple #[.agg #[.int .i64 d0,.int .i64 d1],.bool true])/\(s 9=true->v166=.agg #[.int .i64 d0,.int .i64 d1])/\(s 10=true->v167=.bool true)/\(s 13=true->v18=.bool true)/\True)/\BelX [] w7 w'/\(s 11=true->∃(g:Nat) (c0 c1:Value),v17=.pointer (some ⟨g,0,none⟩)/\w7.heap.size<=g/\w'.heap[g]?=some (.cells #[c0,c1] 78 (0,0))/\(s 12=true->c0=.int .i64 d0/\c1=.int .i64 d1))/\(s 12=true->s 11=true)/\True) ?x1hzero ⟨?x1hs0,?x1hs1,?x1hs2,?x1hs3,?x1hs4,?x1hs5,?x1hs6,?x1hs7,?x1hs8,?x1hs9,?x1hs10,?x1hs11,?x1hs12,?x1hs13,trivial⟩ ?x1hdone
    case x1hzero =>
     refine⟨a0.tmps.getD 158 undef,a0.tmps.getD 159 undef,a0.tmps.getD 160 undef,a0.tmps.getD 161 undef,a0.tmps.getD 162 undef,a0.tmps.getD 163 undef,a0.tmps.getD 164 undef,a0.tmps.getD 165 undef,a0.tmps.getD 157 undef,a0.tmps.getD 166 undef,a0.tmps.getD 167 undef,a0.tmps.getD 17 undef,a0.tmps.getD 18 undef,?_,?_,?_,?_,?_,trivial⟩
     · simp only[putL,put_self]
     · exact Lib.hid ⟨fun h=>(by simp at h),fun h=>(by simp at h),fun h=>(by simp at h),fun h=>(by simp at h),fun h=>(by simp at h),fun h=>(by simp at h),fun h=>(by simp at h),fun h=>(by simp at h),fun h=>(by simp at h),fun h=>(by simp at h),fun h=>(by simp at h),fun h=>(by simp at h),trivial⟩
     · exact BelX.start _ _
     · exact fun h=>(by simp at h)
     · exact fun h=>(by simp at h)
    case x1hs0 =>
     intro s a' w' hsk hdep hI K hK;try dsimp only at hI hK
     obtain⟨v158,v159,v160,v161,v162,v163,v164,v165,v157,v166,v167,v17,v18,hact,hR,hX,hA17,hN17,_⟩:=hI;subst hact;have HK:=Lib.hid hK;clear hK;clear hdep;refine StepG.mk rfl ?_; rw[ha0]; simp only[putL,Act.put,sA_,sZ_,sS_];go_wp2_with fail;refine HK.out _ _ ?_;refine⟨(.pointer (some ⟨gT,0,none⟩)),v159,v160,v161,v162,v163,v164,v165,v157,v166,v167,v17,v18,(by rw[ha0]; simp only[putL,Act.put,sA_,sZ_,sS_]),?_,?_,?_,?_,trivial⟩
     · obtain⟨h158,h159,h160,h161,h162,h163,h164,h165,h157,h166,h167,h18,_⟩:=hR.out;exact Lib.hid ⟨fun _=>rfl,h159,h160,h161,h162,h163,h164,h165,h157,h166,h167,h18,trivial⟩
     · exact hX
     · intro h; obtain⟨g,c0,c1,e,hg,hblk,hst⟩:=hA17 (by simpa using h); exact⟨g,c0,c1,e,hg,hblk,fun h=>hst (by simpa using h)⟩
     · exact fun h=>(by have h1:=hN17 (by simpa using h); simp[h1])
    case x1hs1 =>
     intro s a' w' hsk hdep hI K hK;try dsimp only at hI hK
     obtain⟨v158,v159,v160,v161,v162,v163,v164,v165,v157,v166,v167,v17,v18,hact,hR,hX,hA17,hN17,_⟩:=hI;subst hact;have HK:=Lib.hid hK;clear hK;have e158:=hR.out.1 (hdep ⟨0,.data⟩ (by simp) rfl);subst e158;clear hdep;refine StepG.mk rfl ?_; rw[ha0]; simp only[putL,Act.put,sA_,sZ_,sS_];go_wp2_with fail;refine HK.out _ _ ?_;refine⟨(.pointer (some ⟨gT,0,none⟩)),(.pointer (some ⟨gT,0,none⟩)),v160,v161,v162,v163,v164,v165,v157,v166,v167,v17,v18,(by rw[ha0]; simp only[putL,Act.put,sA_,sZ_,sS_]),?_,?_,?_,?_,trivial⟩
     · obtain⟨h158,h159,h160,h161,h162,h163,h164,h165,h157,h166,h167,h18,_⟩:=hR.out;exact Lib.hid ⟨fun _=>rfl,fun _=>rfl,h160,h161,h162,h163,h164,h165,h157,h166,h167,h18,trivial⟩
     · exact hX
     · intro h; obtain⟨g,c0,c1,e,hg,hblk,hst⟩:=hA17 (by simpa using h); exact⟨g,c0,c1,e,hg,hblk,fun h=>hst (by simpa using h)⟩
     · exact fun h=>(by have h1:=hN17 (by simpa using h); simp[h1])
    case x1hs2 =>
     intro s a' w' hsk hdep hI K hK;try dsimp only at hI hK
     obtain⟨v158,v159,v160,v161,v162,v163,v164,v165,v157,v166,v167,v17,v18,hact,hR,hX,hA17,hN17,_⟩:=hI;subst hact;have HK:=Lib.hid hK;clear hK;have e159:=hR.out.2.1 (hdep ⟨1,.data⟩ (by simp) rfl);subst e159;clear hdep;refine StepG.mk rfl ?_; rw[ha0]; simp only[putL,Act.put,sA_,sZ_,sS_];go_wp2_with fail;refine HK.out _ _ ?_;refine⟨v158,(.pointer (some ⟨gT,0,none⟩)),(.pointer (some ⟨gT,4,none⟩)),v161,v162,v163,v164,v165,v157,v166,v167,v17,v18,(by rw[ha0]; simp only[putL,Act.put,sA_,sZ_,sS_]),?_,?_,?_,?_,trivial⟩
     · obtain⟨h158,h159,h160,h161,h162,h163,h164,h165,h157,h166,h167,h18,_⟩:=hR.out;exact Lib.hid ⟨h158,fun _=>rfl,fun _=>rfl,h161,h162,h163,h164,h165,h157,h166,h167,h18,trivial⟩
     · exact hX
     · intro h; obtain⟨g,c0,c1,e,hg,hblk,hst⟩:=hA17 (by simpa using h); exact⟨g,c0,c1,e,hg,hblk,fun h=>hst (by simpa using h)⟩
     · exact fun h=>(by have h1:=hN17 (by simpa using h); simp[h1])
    case x1hs3 =>
     intro s a' w' hsk hdep hI K hK;try dsimp only at hI hK
     obtain⟨v158,v159,v160,v161,v162,v163,v164,v165,v157,v166,v167,v17,v18,hact,hR,hX,hA17,hN17,_⟩:=hI;subst hact;have HK:=Lib.hid hK;clear hK;have e160:=hR.out.2.2.1 (hdep ⟨2,.data⟩ (by simp) rfl);subst e160;have kc0:w'.cell? ⟨gT,4,none⟩=some (.map (some bm)):=hX.cell (by first | (simp; done) | (simp; omega)) (by first | assumption | (go_simp; done) | (simp; done));have kc1:w'.cell? ⟨PB,1,none⟩=some (.int .i64 s1):=hX.cell (by first | (simp; done) | (simp; omega)) (by first | assumption | (go_simp; done) | (simp; done));clear hdep;refine StepG.mk rfl ?_; rw[ha0]; simp only[putL,Act.put,sA_,sZ_,sS_];go_wp2_with fail;refine HK.out _ _ ?_;refine⟨v158,v159,(.pointer (some ⟨gT,4,none⟩)),(.map (some bm)),v162,v163,v164,v165,v157,v166,v167,v17,v18,(by rw[ha0]; simp only[putL,Act.put,sA_,sZ_,sS_]),?_,?_,?_,?_,trivial⟩
     · obtain⟨h158,h159,h160,h161,h162,h163,h164,h165,h157,h166,h167,h18,_⟩:=hR.out;exact Lib.hid ⟨h158,h159,fun _=>rfl,fun _=>rfl,h162,h163,h164,h165,h157,h166,h167,h18,trivial⟩
     · exact hX
     · intro h; obtain⟨g,c0,c1,e,hg,hblk,hst⟩:=hA17 (by simpa using h); exact⟨g,c0,c1,e,hg,hblk,fun h=>hst (by simpa using h)⟩
     · exact fun h=>(by have h1:=hN17 (by simpa using h); simp[h1])
    case x1hs4 =>
     intro s a' w' hsk hdep hI K hK;try dsimp only at hI hK
     obtain⟨v158,v159,v160,v161,v162,v163,v164,v165,v157,v166,v167,v17,v18,hact,hR,hX,hA17,hN17,_⟩:=hI;subst hact;have HK:=Lib.hid hK;clear hK;clear hdep;refine StepG.mk rfl ?_; rw[ha0]; simp only[putL,Act.put,sA_,sZ_,sS_];go_wp2_with fail;refine HK.out _ _ ?_;refine⟨v158,v159,v160,v161,(.pointer (some ⟨PB,1,none⟩)),v163,v164,v165,v157,v166,v167,v17,v18,(by rw[ha0]; simp only[putL,Act.put,sA_,sZ_,sS_]),?_,?_,?_,?_,trivial⟩
     · obtain⟨h158,h159,h160,h161,h162,h163,h164,h165,h157,h166,h167,h18,_⟩:=hR.out;exact Lib.hid ⟨h158,h159,h160,h161,fun _=>rfl,h163,h164,h165,h157,h166,h167,h18,trivial⟩
     · exact hX
     · intro h; obtain⟨g,c0,c1,e,hg,hblk,hst⟩:=hA17 (by simpa using h); exact⟨g,c0,c1,e,hg,hblk,fun h=>hst (by simpa using h)⟩
     · exact fun h=>(by have h1:=hN17 (by simpa using h); simp[h1])
    case x1hs5 =>
     intro s a' w' hsk hdep hI K hK;try dsimp only at hI hK
     obtain⟨v158,v159,v160,v161,v162,v163,v164,v165,v157,v166,v167,v17,v18,hact,hR,hX,hA17,hN17,_⟩:=hI;subst hact;have HK:=Lib.hid hK;clear hK;have e162:=hR.out.2.2.2.2.1 (hdep ⟨4,.data⟩ (by simp) rfl);subst e162;have kc0:w'.cell? ⟨gT,4,none⟩=some (.map (some bm)):=hX.cell (by first | (simp; done) | (simp; omega)) (by first | assumption | (go_simp; done) | (simp; done));have kc1:w'.cell? ⟨PB,1,none⟩=some (.int .i64 s1):=hX.cell (by first | (simp; done) | (simp; omega)) (by first | assumption | (go_simp; done) | (simp; done));clear hdep;refine StepG.mk rfl ?_; rw[ha0]; simp only[putL,Act.put,sA_,sZ_,sS_];go_wp2_with fail;refine HK.out _ _ ?_;refine⟨v158,v159,v160,v161,(.pointer (some ⟨PB,1,none⟩)),(.int .i64 s1),v164,v165,v157,v166,v167,v17,v18,(by rw[ha0]; simp only[putL,Act.put,sA_,sZ_,sS_]),?_,?_,?_,?_,trivial⟩
     · obtain⟨h158,h159,h160,h161,h162,h163,h164,h165,h157,h166,h167,h18,_⟩:=hR.out;exact Lib.hid ⟨h158,h159,h160,h161,fun _=>rfl,fun _=>rfl,h164,h165,h157,h166,h167,h18,trivial⟩
     · exact hX
     · intro h; obtain⟨g,c0,c1,e,hg,hblk,hst⟩:=hA17 (by simpa using h); exact⟨g,c0,c1,e,hg,hblk,fun h=>hst (by simpa using h)⟩
     · exact fun h=>(by have h1:=hN17 (by simpa using h); simp[h1])
    case x1hs6 =>
     intro s a' w' hsk hdep hI K hK;try dsimp only at hI hK
     obtain⟨v158,v159,v160,v161,v162,v163,v164,v165,v157,v166,v167,v17,v18,hact,hR,hX,hA17,hN17,_⟩:=hI;subst hact;have HK:=Lib.hid hK;clear hK;have e161:=hR.out.2.2.2.1 (hdep ⟨3,.data⟩ (by simp) rfl);subst e161;have e163:=hR.out.2.2.2.2.2.1 (hdep ⟨5,.data⟩ (by simp) rfl);subst e163;have kx0:=(show(Instr.lookup 82 (.map (some bm)) (.int .i64 (s1:Int)) false).run Tryz.prog w'=.ok (.iface ut ux) w' by have h:=(HM7.out.of_block (hX.block bm hbs7 (by simp))).look Tryz.underlying3 Tryz.underlying82 (zero_shape _) hin1 false; rw[HLK4.out]at h; exact h)
     clear hdep;refine StepG.mk rfl ?_; rw[ha0]; simp only[putL,Act.put,sA_,sZ_,sS_];go_wp2_with fail;refine HK.out _ _ ?_;refine⟨v158,v159,v160,(.map (some bm)),v162,(.int .i64 s1),(.iface ut ux),v165,v157,v166,v167,v17,v18,(by rw[ha0]; simp only[putL,Act.put,sA_,sZ_,sS_]),?_,?_,?_,?_,trivial⟩
     · obtain⟨h158,h159,h160,h161,h162,h163,h164,h165,h157,h166,h167,h18,_⟩:=hR.out;exact Lib.hid ⟨h158,h159,h160,fun _=>rfl,h162,fun _=>rfl,fun _=>rfl,h165,h157,h166,h167,h18,trivial⟩
     · exact hX
     · intro h; obtain⟨g,c0,c1,e,hg,hblk,hst⟩:=hA17 (by simpa using h); exact⟨g,c0,c1,e,hg,hblk,fun h=>hst (by simpa using h)⟩
     · exact fun h=>(by have h1:=hN17 (by simpa using h); simp[h1])
    case x1hs7 =>
     intro s a' w' hsk hdep hI K hK;try dsimp only at hI hK
     obtain⟨v158,v159,v160,v161,v162,v163,v164,v165,v157,v166,v167,v17,v18,hact,hR,hX,hA17,hN17,_⟩:=hI;subst hact;have HK:=Lib.hid hK;clear hK;have e164:=hR.out.2.2.2.2.2.2.1 (hdep ⟨6,.data⟩ (by simp) rfl);subst e164;have kc0:w'.cell? ⟨gT,4,none⟩=some (.map (some bm)):=hX.cell (by first | (simp; done) | (simp; omega)) (by first | assumption | (go_simp; done) | (simp; done));have kc1:w'.cell? ⟨PB,1,none⟩=some (.int .i64 s1):=hX.cell (by first | (simp; done) | (simp; omega)) (by first | assumption | (go_simp; done) | (simp; done));clear hdep;refine StepG.mk rfl ?_; rw[ha0]; simp only[putL,Act.put,sA_,sZ_,sS_];go_wp2_with fail;refine((ends_some w' (HU7.out.kept (BelP.ofX hX) (fun _ _ h=>by simp at h)) HD0.out HD1.out)).mono ?_;rintro e wn ⟨rfl,hb⟩;go_wp2_with fail;refine HK.out _ _ ?_;refine⟨v158,v159,v160,v161,v162,v163,(.iface ut ux),(.tuple #[.agg #[.int .i64 d0,.int .i64 d1],.bool true]),v157,v166,v167,v17,v18,(by rw[ha0]; simp only[putL,Act.put,sA_,sZ_,sS_]),?_,?_,?_,?_,trivial⟩
     · obtain⟨h158,h159,h160,h161,h162,h163,h164,h165,h157,h166,h167,h18,_⟩:=hR.out;exact Lib.hid ⟨h158,h159,h160,h161,h162,h163,fun _=>rfl,fun _=>rfl,h157,h166,h167,h18,trivial⟩
     · exact hX.call hb
     · intro h; obtain⟨g,c0,c1,e,hg,hblk,hst⟩:=hA17 (by simpa using h); exact⟨g,c0,c1,e,hg,(hb.block g (blk_lt hblk)).trans hblk,fun h=>hst (by simpa using h)⟩
     · exact fun h=>(by have h1:=hN17 (by simpa using h); simp[h1])
    case x1hs8 =>
     intro s a' w' hsk hdep hI K hK;try dsimp only at hI hK
     obtain⟨v158,v159,v160,v161,v162,v163,v164,v165,v157,v166,v167,v17,v18,hact,hR,hX,hA17,hN17,_⟩:=hI;subst hact;have HK:=Lib.hid hK;clear hK;have e165:=hR.out.2.2.2.2.2.2.2.1 (hdep ⟨7,.data⟩ (by simp) rfl);subst e165;clear hdep;refine StepG.mk rfl ?_; rw[ha0]; simp only[putL,Act.put,sA_,sZ_,sS_];go_wp2_with fail;refine HK.out _ _ ?_;refine⟨v158,v159,v160,v161,v162,v163,v164,(.tuple #[.agg #[.int .i64 d0,.int .i64 d1],.bool true]),(.tuple #[.agg #[.int .i64 d0,.int .i64 d1],.bool true]),v166,v167,v17,v18,(by rw[ha0]; simp only[putL,Act.put,sA_,sZ_,sS_]),?_,?_,?_,?_,trivial⟩
     · obtain⟨h158,h159,h160,h161,h162,h163,h164,h165,h157,h166,h167,h18,_⟩:=hR.out;exact Lib.hid ⟨h158,h159,h160,h161,h162,h163,h164,fun _=>rfl,fun _=>rfl,h166,h167,h18,trivial⟩
     · exact hX
     · intro h; obtain⟨g,c0,c1,e,hg,hblk,hst⟩:=hA17 (by simpa using h); exact⟨g,c0,c1,e,hg,hblk,fun h=>hst (by simpa using h)⟩
     · exact fun h=>(by have h1:=hN17 (by simpa using h); simp[h1])
    case x1hs9 =>
     intro s a' w' hsk hdep hI K hK;try dsimp only at hI hK
     obtain⟨v158,v159,v160,v161,v162,v163,v164,v165,v157,v166,v167,v17,v18,hact,hR,hX,hA17,hN17,_⟩:=hI;subst hact;have HK:=Lib.hid hK;clear hK;have e157:=hR.out.2.2.2.2.2.2.2.2.1 (hdep ⟨8,.data⟩ (by simp) rfl);subst e157;clear hdep;refine StepG.mk rfl ?_; rw[ha0]; simp only[putL,Act.put,sA_,sZ_,sS_];go_wp2_with fail;refine HK.out _ _ ?_;refine⟨v158,v159,v160,v161,v162,v163,v164,v165,(.tuple #[.agg #[.int .i64 d0,.int .i64 d1],.bool true]),(.agg #[.int .i64 d0,.int .i64 d1]),v167,v17,v18,(by rw[ha0]; simp only[putL,Act.put,sA_,sZ_,sS_]),?_,?_,?_,?_,trivial⟩
     · obtain⟨h158,h159,h160,h161,h162,h163,h164,h165,h157,h166,h167,h18,_⟩:=hR.out;exact Lib.hid ⟨h158,h159,h160,h161,h162,h163,h164,h165,fun _=>rfl,fun _=>rfl,h167,h18,trivial⟩
     · exact hX
     · intro h; obtain⟨g,c0,c1,e,hg,hblk,hst⟩:=hA17 (by simpa using h); exact⟨g,c0,c1,e,hg,hblk,fun h=>hst (by simpa using h)⟩
     · exact fun h=>(by have h1:=hN17 (by simpa using h); simp[h1])
    case x1hs10 =>
     intro s a' w' hsk hdep hI K hK;try dsimp only at hI hK
     obtain⟨v158,v159,v160,v161,v162,v163,v164,v165,v157,v166,v167,v17,v18,hact,hR,hX,hA17,hN17,_⟩:=hI;subst hact;have HK:=Lib.hid hK;clear hK;have e157:=hR.out.2.2.2.2.2.2.2.2.1 (hdep ⟨8,.data⟩ (by simp) rfl);subst e157;clear hdep;refine StepG.mk rfl ?_; rw[ha0]; simp only[putL,Act.put,sA_,sZ_,sS_];go_wp2_with fail;refine HK.out _ _ ?_;refine⟨v158,v159,v160,v161,v162,v163,v164,v165,(.tuple #[.agg #[.int .i64 d0,.int .i64 d1],.bool true]),v166,(.bool true),v17,v18,(by rw[ha0]; simp only[putL,Act.put,sA_,sZ_,sS_]),?_,?_,?_,?_,trivial⟩
     · obtain⟨h158,h159,h160,h161,h162,h163,h164,h165,h157,h166,h167,h18,_⟩:=hR.out;exact Lib.hid ⟨h158,h159,h160,h161,h162,h163,h164,h165,fun _=>rfl,h166,fun _=>rfl,h18,trivial⟩
     · exact hX
     · intro h; obtain⟨g,c0,c1,e,hg,hblk,hst⟩:=hA17 (by simpa using h); exact⟨g,c0,c1,e,hg,hblk,fun h=>hst (by simpa using h)⟩
     · exact fun h=>(by have h1:=hN17 (by simpa using h); simp[h1])
    case x1hs11 =>
     intro s a' w' hsk hdep hI K hK;try dsimp only at hI hK
     obtain⟨v158,v159,v160,v161,v162,v163,v164,v165,v157,v166,v167,v17,v18,hact,hR,hX,hA17,hN17,_⟩:=hI;subst hact;have HK:=Lib.hid hK;clear hK;clear hdep;refine StepG.mk rfl ?_; rw[ha0]; simp only[putL,Act.put,sA_,sZ_,sS_];go_wp2_with fail;refine HK.out _ _ ?_;refine⟨v158,v159,v160,v161,v162,v163,v164,v165,v157,v166,v167,(.pointer (some ⟨w'.heap.size,0,none⟩)),v18,(by rw[ha0]; simp only[putL,Act.put,sA_,sZ_,sS_]),?_,?_,?_,?_,trivial⟩
     · obtain⟨h158,h159,h160,h161,h162,h163,h164,h165,h157,h166,h167,h18,_⟩:=hR.out;exact Lib.hid ⟨h158,h159,h160,h161,h162,h163,h164,h165,h157,h166,h167,h18,trivial⟩
     · exact hX.alloc _
     · exact fun _=>⟨w'.heap.size,.int .i64 0,.int .i64 0,rfl,hX.size,blk_new w' _,fun h=>(by have h1:=hN17 (by simpa using h); rw[h1]at hsk; cases hsk)⟩
     · exact fun _=>rfl
    case x1hs12 =>
     intro s a' w' hsk hdep hI K hK;try dsimp only at hI hK
     obtain⟨v158,v159,v160,v161,v162,v163,v164,v165,v157,v166,v167,v17,v18,hact,hR,hX,hA17,hN17,_⟩:=hI;subst hact;have HK:=Lib.hid hK;clear hK;have e166:=hR.out.2.2.2.2.2.2.2.2.2.1 (hdep ⟨9,.data⟩ (by simp) rfl);subst e166;obtain⟨g,c0,c1,ev,hg,hblk,hst⟩:=hA17 (hdep ⟨11,.data⟩ (by simp) rfl);subst ev;have kc0:w'.cell? ⟨gT,4,none⟩=some (.map (some bm)):=hX.cell (by first | (simp; done) | (simp; omega)) (by first | assumption | (go_simp; done) | (simp; done));have kc1:w'.cell? ⟨PB,1,none⟩=some (.int .i64 s1):=hX.cell (by first | (simp; done) | (simp; omega)) (by first | assumption | (go_simp; done) | (simp; done));have kb0:w'.cell? ⟨g,0,none⟩=some c0:=cell_of_row w' g 0 _ _ _ hblk;have kb1:w'.cell? ⟨g,1,none⟩=some c1:=cell_of_row w' g 1 _ _ _ hblk;have kf:∀o,w'.frozen? ⟨g,o,none⟩=false:=fun o=>frozen_of_row w' g o _ _ hblk;have hBlk:=Lib.hid hblk;clear hblk;have hdepA:s 11=true:=hdep ⟨11,.data⟩ (by simp) rfl;clear hdep;refine StepG.mk rfl ?_; rw[ha0]; simp only[putL,Act.put,sA_,sZ_,sS_];go_wp2_with fail;refine HK.out _ _ ?_;refine⟨v158,v159,v160,v161,v162,v163,v164,v165,v157,(.agg #[.int .i64 d0,.int .i64 d1]),v167,(.pointer (some ⟨g,0,none⟩)),v18,(by rw[ha0]; simp only[putL,Act.put,sA_,sZ_,sS_]),?_,?_,?_,?_,trivial⟩
     · obtain⟨h158,h159,h160,h161,h162,h163,h164,h165,h157,h166,h167,h18,_⟩:=hR.out;exact Lib.hid ⟨h158,h159,h160,h161,h162,h163,h164,h165,h157,fun _=>rfl,h167,h18,trivial⟩
     · exact((hX.setNew (p:=⟨g,0,none⟩) hg _).setNew (p:=⟨g,1,none⟩) hg _)
     · exact fun _=>⟨g,_,_,rfl,hg,blk_set2 hBlk.out,fun _=>⟨rfl,rfl⟩⟩
     · exact fun _=>(by simp[hdepA])
    case x1hs13 =>
     intro s a' w' hsk hdep hI K hK;try dsimp only at hI hK
     obtain⟨v158,v159,v160,v161,v162,v163,v164,v165,v157,v166,v167,v17,v18,hact,hR,hX,hA17,hN17,_⟩:=hI;subst hact;have HK:=Lib.hid hK;clear hK;have e167:=hR.out.2.2.2.2.2.2.2.2.2.2.1 (hdep ⟨10,.data⟩ (by simp) rfl);subst e167;clear hdep;refine StepG.mk rfl ?_; rw[ha0]; simp only[putL,Act.put,sA_,sZ_,sS_];go_wp2_with fail;refine HK.out _ _ ?_;refine⟨v158,v159,v160,v161,v162,v163,v164,v165,v157,v166,(.bool true),v17,(.bool true),(by rw[ha0]; simp only[putL,Act.put,sA_,sZ_,sS_]),?_,?_,?_,?_,trivial⟩
     · obtain⟨h158,h159,h160,h161,h162,h163,h164,h165,h157,h166,h167,h18,_⟩:=hR.out;exact Lib.hid ⟨h158,h159,h160,h161,h162,h163,h164,h165,h157,h166,fun _=>rfl,fun _=>rfl,trivial⟩
     · exact hX
     · intro h; obtain⟨g,c0,c1,e,hg,hblk,hst⟩:=hA17 (by simpa using h); exact⟨g,c0,c1,e,hg,hblk,fun h=>hst (by simpa using h)⟩
     · exact fun h=>(by have h1:=hN17 (by simpa using h); simp[h1])
    intro s a' w8 hall hI;try dsimp only at hI
    obtain⟨v158,v159,v160,v161,v162,v163,v164,v165,v157,v166,v167,v17,v18,hact,hR,hXR,hA17,hN17,_⟩:=hI;subst hact;obtain⟨h158,h159,h160,h161,h162,h163,h164,h165,h157,h166,h167,h18,_⟩:=hR.out;clear hR;have e158:=h158 (hall 0 (by decide));subst e158;clear h158;have e159:=h159 (hall 1 (by decide));subst e159;clear h159;have e160:=h160 (hall 2 (by decide));subst e160;clear h160;have e161:=h161 (hall 3 (by decide));subst e161;clear h161;have e162:=h162 (hall 4 (by decide));subst e162;clear h162;have e163:=h163 (hall 5 (by decide));subst e163;clear h163;have e164:=h164 (hall 6 (by decide));subst e164;clear h164;have e165:=h165 (hall 7 (by decide));subst e165;clear h165;have e157:=h157 (hall 8 (by decide));subst e157;clear h157;have e166:=h166 (hall 9 (by decide));subst e166;clear h166;have e167:=h167 (hall 10 (by decide));subst e167;clear h167;have e18:=h18 (hall 13 (by decide));subst e18;clear h18;obtain⟨g17,c0,c1,ev,hg17,hblk17,hst⟩:=hA17 (hall 11 (by decide));subst ev;clear hA17 hN17;obtain⟨es0,es1⟩:=hst (hall 12 (by decide));subst es0;subst es1;clear hst;clear hall;rw[ha0]; simp only[putL,Act.put,sA_,sZ_,sS_];clear ha0;have hg8:=(hXR.block gT hgs7 (by simp)).trans HG7.out;have hp8:=(hXR.block PB hps7 (by simp)).trans HP7.out;have HM8:=Lib.hid (HM7.out.of_block (hXR.block bm hbs7 (by simp)));have HX8:=Lib.hid hXR;have hq8:=hblk17;have hgq:g17≠gT:=by omega
    have hgp:PB≠gT:=by have:=HPB.out; have:=HB6.out.size; omega
    clear hXR c4 e1 hblk17;obtain⟨c0,c1,c2,c3,c4⟩:=row5 hg8;obtain⟨e0,e1⟩:=row2_0' hp8;obtain⟨f0,f1⟩:=row2_0' hq8;have fz:=row_f hg8;have hgs8:=blk_lt hg8;have HG8:=Lib.hid hg8;obtain⟨Z,hZ⟩:∃Z:Nat,s1 * p=Z:=⟨_,rfl⟩
    have hZi:(s1:Int) * (p:Int)=(Z:Int):=by rw[<-hZ]; simp
    have hZb:Z+d1 < 256:=by
     have h1:=RK.R_le hk;rw[HEP.out,hZ]at hjn;omega
    have hZ1:Z < 256:=by omega
    have hd1:d1 < 256:=by omega
    have HZ:=Lib.hid hZ;clear hg8 hp8 hq8 hZ hjn;go_upto_region 27 with fail;obtain⟨w9,h9⟩:∃wx:World,wx=w8.setCell ⟨gT,1,none⟩ (.int .i64 ((Z:Int)+(d1:Int))):=⟨_,rfl⟩
    rw[<-h9];have hX9:BelX [gT] w8 w9:=by rw[h9]; exact(BelX.here [gT] w8).setOld (p:=⟨gT,1,none⟩) (by simp) _
    have HG9:Hid (w9.heap[gT]?=some (.cells #[.int .i64 a,.int .i64 ((s1 * RK.R k+d1:Nat):Int),.int .i64 ((k:Int)+1),.iface st sx,.map (some bm)] 84 (0,0))):=Lib.hid (by
     rw[h9,HEP.out,HZ.out,Int.natCast_add]; simp[World.setCell,Array.getElem?_modify,HG8.out])
    have HM9:=Lib.hid (HM8.out.of_block (hX9.block bm HM8.out.lt (by simp; exact fun e=>HAP.out.1 e.symm)));have HD9:Hid (BelP (fun c=>c=gT∨c=bm) w11 w9):=Lib.hid (
     BelP.trans (BelP.trans (BelP.trans (BelP.trans ((BelP.ofX HX5.out).mono fun c _ h=>.inl (by simpa using h)) ((BelP.ofBelow HB6.out).mono fun _ _ h=>False.elim h) (fun _ _ h=>h)) ((BelP.ofBelow HB7.out).mono fun _ _ h=>False.elim h) (fun _ _ h=>h))
      ((BelP.ofX HX8.out).mono fun c _ h=>by simp at h) (fun _ _ h=>h)) ((BelP.ofX hX9).mono fun c _ h=>.inl (by simpa using h)) (fun _ _ h=>h))
    clear h9 hX9 c0 c1 c2 c3 c4 e0 e1 f0 f1 fz hZi;go_wp2_with fail
    go_ret
    have heq:=HEQ.out;have her:=HER.out;subst heq her;have hB3w:BelP (Fp (y / RK.R k)) w2 w3:=⟨HB3.out.os,HB3.out.tape,HB3.out.output,HB3.out.size,HB3.out.block⟩
    have hB10w:BelP Fs wD w10:=⟨HB10.out.os,HB10.out.tape,HB10.out.output,HB10.out.size,HB10.out.block⟩
    have hB109:BelP (fun c=>c=gT∨c=bm) w10 w9:=BelP.trans ((BelP.ofX HX11.out).mono fun c _ h=>.inl (by simpa using h)) HD9.out (fun _ _ h=>h);have hBw:BelP (fun c=>c=gT∨c=bm∨Fs c∨Fp (y / RK.R k) c) w w9 :=
     BelP.trans (BelP.trans (BelP.trans (BelP.trans (BelP.trans ((BelP.ofX HX2.out).mono fun c _ h=>by simp at h) (hB3w.mono fun c _ h=>.inr (.inr (.inr h))) (fun _ _ h=>h)) ((BelP.ofX HX4.out).mono fun c _ h=>.inr (.inl (by simpa using h))) (fun _ _ h=>h)) ((BelP.ofX HXD.out).mono fun c _ h=>.inr (.inl (by simpa using h))) (fun _ _ h=>h)) (hB10w.mono fun c _ h=>.inr (.inr (.inl h))) (fun _ _ h=>h)) (hB109.mono fun c _ h=>h.elim .inl (fun h=>.inr (.inl h))) (fun _ _ h=>h)
    have hsD:w.heap.size<=wD.heap.size:=Nat.le_trans HX2.out.size (Nat.le_trans HB3.out.size (Nat.le_trans HX4.out.size HXD.out.size));obtain⟨F',hRF,hFF⟩:=rep_del_gone (T:=ty) (w:=w) (w3:=w10) (w4:=w9) (y:=y) HN.out HSET.out HMIN.out HMAX.out HEM.out HSP.out HFP.out HAP.out hgs hbs hBw HR10.out (fun c hc=>(HF10.out c hc).imp id (fun h=>Nat.le_trans hsD h)) hB109 HG9.out HM9.out;refine⟨_,F',rfl,hRF,hBw.mono fun c _ h=>(HF.out c).2 ?_,fun c h=>?_⟩
    ·
     rcases h with h | h | h | h
     · exact .inl h
     · exact .inr (.inl h)
     · exact .inr (.inr (.inl h))
     · exact .inr (.inr (.inr ⟨_,h⟩))
    ·
     rcases hFF c h with h | h
     · exact .inl ((HF.out c).2 h)
     · exact .inr h
  case inr =>
   have hnem:¬RK.Emp (RK.del (RK.spot k m a q) r):=fun h=>by have:=hmin2.1; rw[h a2]at this; cases this
   have hcmp:∀wx,(binOp .eql 42 (.iface tt xx) (.iface 40 (.agg #[]))).run Tryz.prog wx=.ok (.bool false) wx:=by
    rcases hcase with ⟨-,hL⟩ | ⟨g2,o2,c2',d2,hL,-⟩
    · unfold vP at hL; rw[hL]; exact fun wx=>eq_pe _ wx
    · unfold vT at hL; rw[hL]; exact fun wx=>eq_te _ wx
   have HNE:=Lib.hid hnem;clear hmin2 hmax2 hcase hnem;obtain⟨s0,hs0⟩:=RK.exists_min (m:=RK.shelves k m a) (fun h=>by have:=h q; rw[HSH.out]at this; cases this);obtain⟨s1,hs1⟩:=RK.exists_max (RK.shelves_supp k m a) (fun h=>by have:=h q; rw[HSH.out]at this; cases this);have esh:RK.shelves k (RK.del m y) a=RK.shelves k m a:=RK.shelves_del' HSET.out (by rw[HEQ.out,HER.out]; exact HNE.out) (RK.shelves_supp k m a _ (by rw[HEQ.out]; exact HSH.out));have hns1:=RK.shelf_some (by rw[esh]; exact hs1.1:RK.shelves k (RK.del m y) a s1=true);obtain⟨d0,hd0⟩:=RK.exists_min hns1;obtain⟨d1,hd1⟩:=RK.exists_max (RK.spot_supp k (RK.del m y) a s1) hns1;have HMAX:=Lib.hid (RK.max_some HN.out HMIN.out (by rw[esh]; exact hs1) hd1);have HU0:∃u Fu,(if s1=q then some (.iface tt xx) else spotsF k m a sp (s1:Int))=some u/\Rep ty k w4 u (RK.spot k (RK.del m y) a s1) Fu/\∀c,Fu c->c≠gT:=by
    rw[RK.spot_del HSET.out s1,HEQ.out,HER.out]
    by_cases hsq:s1=q
    ·
     rw[if_pos hsq,if_pos hsq,hsq];refine⟨_,Fo',rfl,HR3.out.kept (BelP.ofX HX4.out) (fun c hc h=>?_),fun c hc h=>?_⟩
     ·
      have hcb:c=bm:=by simpa using h
      subst hcb;rcases HF3.out _ hc with h | h
      · exact(HAP.out.2.2.2.1 q).2 h
      · have:=HM2.out.lt; omega
     ·
      subst h;rcases HF3.out _ hc with h | h
      · exact(HAP.out.2.2.2.1 q).1 h
      · omega
    ·
     rw[if_neg hsq,if_neg hsq,spotsF_in hs1.1];have h1:=HSP.out s1 hs1.1;have h2:Rep ty k w2.drew (sp s1) (RK.spot k m a s1) (Fp s1):=h1.frame k (fun c hc=>HX2.out.block c (h1.lt k c hc) (by simp));refine⟨_,Fp s1,rfl,(h2.kept HB3.out (fun c hc h=>HAP.out.2.2.2.2.2 s1 q c hsq hc h)).kept (BelP.ofX HX4.out) (fun c hc h=>?_),fun c hc h=>?_⟩
     ·
      have hcb:c=bm:=by simpa using h
      subst hcb;exact(HAP.out.2.2.2.1 s1).2 hc
     · subst h;exact(HAP.out.2.2.2.1 s1).1 hc
   obtain⟨u,Fu,hu,hRu,hFu⟩:=HU0;obtain⟨ut,ux,rfl⟩:=hRu.iface;have HU4:=Lib.hid hRu;have HFU:=Lib.hid hFu;have hlk4:(if (s1:Int)=(q:Int) then some (Value.iface tt xx) else spotsF k m a sp (s1:Int))=some (.iface ut ux):=by
    rw[<-hu]
    by_cases hsq:s1=q
    · rw[if_pos hsq,if_pos (by omega)]
    · rw[if_neg hsq,if_neg (by omega)]
   have HLK4:=Lib.hid hlk4;have HS4:Hid (Rep ty k w4 sv (RK.shelves k m a) Fs):=Lib.hid (by
    have h2:Rep ty k w2.drew sv (RK.shelves k m a) Fs:=HSV.out.frame k (fun c hc=>HX2.out.block c (HSV.out.lt k c hc) (by simp));refine(h2.kept HB3.out (fun c hc h=>HAP.out.2.2.2.2.1 q c hc h)).kept (BelP.ofX HX4.out) (fun c hc h=>?_);have hcb:c=bm:=by simpa using h
    subst hcb;exact HAP.out.2.2.1 hc)
   have HFS:=Lib.hid (show ∀c,Fs c->c≠gT from fun c hc h=>HAP.out.2.1 (h ▸ hc));have hs1b:=RK.shelves_supp k m a s1 hs1.1;have hd1b:=RK.spot_supp _ _ _ _ _ hd1.1;have hjn:=RK.join_lt hs1b hd1b;have HS0:=Lib.hid hs0;have HS1:=Lib.hid hs1;have HD0:=Lib.hid hd0;have HD1:=Lib.hid hd1;have HESH:=Lib.hid esh;clear hs0 hs1 hd0 hd1 hu hRu hFu hlk4 hns1 esh;go_upto_region 23 with fail;obtain⟨w5,h5⟩:∃wx:World,wx=w4.setCell ⟨gT,1,none⟩ (.int .i64 a):=⟨_,rfl⟩
   rw[<-h5];have hX5:BelX [gT] w4 w5:=by rw[h5]; exact(BelX.here [gT] w4).setOld (p:=⟨gT,1,none⟩) (by simp) _
   have hg5:w5.heap[gT]?=some (.cells #[.int .i64 a,.int .i64 a,.int .i64 ((k:Int)+1),sv,.map (some bm)] 84 (0,0)):=by rw[h5]; simp[World.setCell,Array.getElem?_modify,HG4.out]
   have HM5:=Lib.hid (HM4.out.of_block (hX5.block bm hbs4 (by simp; exact fun e=>HAP.out.1 e.symm)));have HS5:=Lib.hid (HS4.out.kept (BelP.ofX1 hX5) HFS.out);have HU5:=Lib.hid (HU4.out.kept (BelP.ofX1 hX5) HFU.out);have HX5:=Lib.hid hX5;clear h5 c0 c1 c2 c3 c4 fz hX5;obtain⟨c0,c1,c2,c3,c4⟩:=row5 hg5;have hgs5:=blk_lt hg5;have HG5:=Lib.hid hg5;clear hg5;go_wp2_with fail;refine(ends_some w5 HS5.out HS0.out HS1.out).mono ?_;rintro e w6 ⟨rfl,hb6⟩;have hg6:=(hb6.block gT hgs5).trans HG5.out;have HM6:=Lib.hid (HM5.out.of_block (hb6.block bm HM5.out.lt));have HU6:=Lib.hid (HU5.out.below hb6);have HB6:=Lib.hid hb6;have HG6:=Lib.hid hg6;clear hb6 c0 c1 c2 c3 c4 hg6 HM5 HU5 HS5 HG5;go_upto_region 25 with fail;obtain⟨w7,h7⟩:∃wx:World,wx=w6.alloc (.cells #[.int .i64 s0,.int .i64 s1] 78):=⟨_,rfl⟩
   rw[<-h7];have hp7:w7.heap[w6.heap.size]?=some (.cells #[.int .i64 s0,.int .i64 s1] 78 (0,0)):=by rw[h7]; exact blk_new _ _
   have hg7:w7.heap[gT]?=some (.cells #[.int .i64 a,.int .i64 a,.int .i64 ((k:Int)+1),sv,.map (some bm)] 84 (0,0)):=by rw[h7]; exact blk_old HG6.out
   have hb7:Below w6.heap.size w6 w7:=by rw[h7]; exact(by repeat (first | exact Below.refl _ _ | exact Nat.le_refl _ | refine Below.alloc ?_ ?_ _ | refine Below.setCell ?_ ?_ _ | refine Below.drew ?_ | refine bl_drewN ?_ _ | (assumption) | refine bl_call ?_ (by assumption) ?_ | omega | (simp <;> omega)))
   have HM7:=Lib.hid (HM6.out.of_block (hb7.block bm HM6.out.lt));have HU7:=Lib.hid (HU6.out.below hb7);have HB7:=Lib.hid hb7;obtain⟨c0,c1,c2,c3,c4⟩:=row5 hg7;obtain⟨e0,e1⟩:=row2_0' hp7;have hgs7:=blk_lt hg7;have hps7:=blk_lt hp7;have hbs7:=HM7.out.lt;have HG7:=Lib.hid hg7;have HP7:=Lib.hid hp7;clear h7 hb7 hg7 hp7 HU6 HM6;obtain⟨PB,hPB⟩:∃n,w6.heap.size=n:=⟨_,rfl⟩
   rw[hPB]at e0 e1 hps7 HP7;rw[hPB];have HPB:=Lib.hid hPB;clear hPB c0 c1 c2 c3 e0;have hin1:InInt (s1:Int):=⟨by omega,by have:=RK.R_le (show k<=3 by omega); omega⟩
   refine with_act fun a0 ha0=>?_;refine wp_region_inv (by kernel_rfl) (by kernel_rfl) (fun s a' w'=>∃v158 v159 v160 v161 v162 v163 v164 v165 v157 v166 v167 v17 v18:Value,a'=putL a0 [(158,v158),(159,v159),(160,v160),(161,v161),(162,v162),(163,v163),(164,v164),(165,v165),(157,v157),(166,v166),(167,v167),(17,v17),(18,v18)]/\Hid ((s 0=true->v158=.pointer (some ⟨gT,0,none⟩))/\(s 1=true->v159=.pointer (some ⟨gT,0,none⟩))/\(s 2=true->v160=.pointer (some ⟨gT,4,none⟩))/\(s 3=true->v161=.map (some bm))/\(s 4=true->v162=.pointer (some ⟨PB,1,none⟩))/\(s 5=true->v163=.int .i64 s1)/\(s 6=true->v164=.iface ut ux)/\(s 7=true->v165=.tuple #[.agg #[.int .i64 d0,.int .i64 d1],.bool true])/\(s 8=true->v157=.tuple #[.agg #[.int .i64 d0,.int .i64 d1],.bool true])/\(s 9=true->v166=.agg #[.int .i64 d0,.int .i64 d1])/\(s 10=true->v167=.bool true)/\(s 13=true->v18=.bool true)/\True)/\BelX [] w7 w'/\(s 11=true->∃(g:Nat) (c0 c1:Value),v17=.pointer (some ⟨g,0,none⟩)/\w7.heap.size<=g/\w'.heap[g]?=some (.cells #[c0,c1] 78 (0,0))/\(s 12=true->c0=.int .i64 d0/\c1=.int .i64 d1))/\(s 12=true->s 11=true)/\True) ?x2hzero ⟨?x2hs0,?x2hs1,?x2hs2,?x2hs3,?x2hs4,?x2hs5,?x2hs6,?x2hs7,?x2hs8,?x2hs9,?x2hs10,?x2hs11,?x2hs12,?x2hs13,trivial⟩ ?x2hdone
   case x2hzero =>
    refine⟨a0.tmps.getD 158 undef,a0.tmps.getD 159 undef,a0.tmps.getD 160 undef,a0.tmps.getD 161 undef,a0.tmps.getD 162 undef,a0.tmps.getD 163 undef,a0.tmps.getD 164 undef,a0.tmps.getD 165 undef,a0.tmps.getD 157 undef,a0.tmps.getD 166 undef,a0.tmps.getD 167 undef,a0.tmps.getD 17 undef,a0.tmps.getD 18 undef,?_,?_,?_,?_,?_,trivial⟩
    · simp only[putL,put_self]
    · exact Lib.hid ⟨fun h=>(by simp at h),fun h=>(by simp at h),fun h=>(by simp at h),fun h=>(by simp at h),fun h=>(by simp at h),fun h=>(by simp at h),fun h=>(by simp at h),fun h=>(by simp at h),fun h=>(by simp at h),fun h=>(by simp at h),fun h=>(by simp at h),fun h=>(by simp at h),trivial⟩
    · exact BelX.start _ _
    · exact fun h=>(by simp at h)
    · exact fun h=>(by simp at h)
   case x2hs0 =>
    intro s a' w' hsk hdep hI K hK;try dsimp only at hI hK
    obtain⟨v158,v159,v160,v161,v162,v163,v164,v165,v157,v166,v167,v17,v18,hact,hR,hX,hA17,hN17,_⟩:=hI;subst hact;have HK:=Lib.hid hK;clear hK;clear hdep;refine StepG.mk rfl ?_; rw[ha0]; simp only[putL,Act.put,sA_,sZ_,sS_];go_wp2_with fail;refine HK.out _ _ ?_;refine⟨(.pointer (some ⟨gT,0,none⟩)),v159,v160,v161,v162,v163,v164,v165,v157,v166,v167,v17,v18,(by rw[ha0]; simp only[putL,Act.put,sA_,sZ_,sS_]),?_,?_,?_,?_,trivial⟩
    · obtain⟨h158,h159,h160,h161,h162,h163,h164,h165,h157,h166,h167,h18,_⟩:=hR.out;exact Lib.hid ⟨fun _=>rfl,h159,h160,h161,h162,h163,h164,h165,h157,h166,h167,h18,trivial⟩
    · exact hX
    · intro h; obtain⟨g,c0,c1,e,hg,hblk,hst⟩:=hA17 (by simpa using h); exact⟨g,c0,c1,e,hg,hblk,fun h=>hst (by simpa using h)⟩
    · exact fun h=>(by have h1:=hN17 (by simpa using h); simp[h1])
   case x2hs1 =>
    intro s a' w' hsk hdep hI K hK;try dsimp only at hI hK
    obtain⟨v158,v159,v160,v161,v162,v163,v164,v165,v157,v166,v167,v17,v18,hact,hR,hX,hA17,hN17,_⟩:=hI;subst hact;have HK:=Lib.hid hK;clear hK;have e158:=hR.out.1 (hdep ⟨0,.data⟩ (by simp) rfl);subst e158;clear hdep;refine StepG.mk rfl ?_; rw[ha0]; simp only[putL,Act.put,sA_,sZ_,sS_];go_wp2_with fail;refine HK.out _ _ ?_;refine⟨(.pointer (some ⟨gT,0,none⟩)),(.pointer (some ⟨gT,0,none⟩)),v160,v161,v162,v163,v164,v165,v157,v166,v167,v17,v18,(by rw[ha0]; simp only[putL,Act.put,sA_,sZ_,sS_]),?_,?_,?_,?_,trivial⟩
    · obtain⟨h158,h159,h160,h161,h162,h163,h164,h165,h157,h166,h167,h18,_⟩:=hR.out;exact Lib.hid ⟨fun _=>rfl,fun _=>rfl,h160,h161,h162,h163,h164,h165,h157,h166,h167,h18,trivial⟩
    · exact hX
    · intro h; obtain⟨g,c0,c1,e,hg,hblk,hst⟩:=hA17 (by simpa using h); exact⟨g,c0,c1,e,hg,hblk,fun h=>hst (by simpa using h)⟩
    · exact fun h=>(by have h1:=hN17 (by simpa using h); simp[h1])
   case x2hs2 =>
    intro s a' w' hsk hdep hI K hK;try dsimp only at hI hK
    obtain⟨v158,v159,v160,v161,v162,v163,v164,v165,v157,v166,v167,v17,v18,hact,hR,hX,hA17,hN17,_⟩:=hI;subst hact;have HK:=Lib.hid hK;clear hK;have e159:=hR.out.2.1 (hdep ⟨1,.data⟩ (by simp) rfl);subst e159;clear hdep;refine StepG.mk rfl ?_; rw[ha0]; simp only[putL,Act.put,sA_,sZ_,sS_];go_wp2_with fail;refine HK.out _ _ ?_;refine⟨v158,(.pointer (some ⟨gT,0,none⟩)),(.pointer (some ⟨gT,4,none⟩)),v161,v162,v163,v164,v165,v157,v166,v167,v17,v18,(by rw[ha0]; simp only[putL,Act.put,sA_,sZ_,sS_]),?_,?_,?_,?_,trivial⟩
    · obtain⟨h158,h159,h160,h161,h162,h163,h164,h165,h157,h166,h167,h18,_⟩:=hR.out;exact Lib.hid ⟨h158,fun _=>rfl,fun _=>rfl,h161,h162,h163,h164,h165,h157,h166,h167,h18,trivial⟩
    · exact hX
    · intro h; obtain⟨g,c0,c1,e,hg,hblk,hst⟩:=hA17 (by simpa using h); exact⟨g,c0,c1,e,hg,hblk,fun h=>hst (by simpa using h)⟩
    · exact fun h=>(by have h1:=hN17 (by simpa using h); simp[h1])
   case x2hs3 =>
    intro s a' w' hsk hdep hI K hK;try dsimp only at hI hK
    obtain⟨v158,v159,v160,v161,v162,v163,v164,v165,v157,v166,v167,v17,v18,hact,hR,hX,hA17,hN17,_⟩:=hI;subst hact;have HK:=Lib.hid hK;clear hK;have e160:=hR.out.2.2.1 (hdep ⟨2,.data⟩ (by simp) rfl);subst e160;have kc0:w'.cell? ⟨gT,4,none⟩=some (.map (some bm)):=hX.cell (by first | (simp; done) | (simp; omega)) (by first | assumption | (go_simp; done) | (simp; done));have kc1:w'.cell? ⟨PB,1,none⟩=some (.int .i64 s1):=hX.cell (by first | (simp; done) | (simp; omega)) (by first | assumption | (go_simp; done) | (simp; done));clear hdep;refine StepG.mk rfl ?_; rw[ha0]; simp only[putL,Act.put,sA_,sZ_,sS_];go_wp2_with fail;refine HK.out _ _ ?_;refine⟨v158,v159,(.pointer (some ⟨gT,4,none⟩)),(.map (some bm)),v162,v163,v164,v165,v157,v166,v167,v17,v18,(by rw[ha0]; simp only[putL,Act.put,sA_,sZ_,sS_]),?_,?_,?_,?_,trivial⟩
    · obtain⟨h158,h159,h160,h161,h162,h163,h164,h165,h157,h166,h167,h18,_⟩:=hR.out;exact Lib.hid ⟨h158,h159,fun _=>rfl,fun _=>rfl,h162,h163,h164,h165,h157,h166,h167,h18,trivial⟩
    · exact hX
    · intro h; obtain⟨g,c0,c1,e,hg,hblk,hst⟩:=hA17 (by simpa using h); exact⟨g,c0,c1,e,hg,hblk,fun h=>hst (by simpa using h)⟩
    · exact fun h=>(by have h1:=hN17 (by simpa using h); simp[h1])
   case x2hs4 =>
    intro s a' w' hsk hdep hI K hK;try dsimp only at hI hK
    obtain⟨v158,v159,v160,v161,v162,v163,v164,v165,v157,v166,v167,v17,v18,hact,hR,hX,hA17,hN17,_⟩:=hI;subst hact;have HK:=Lib.hid hK;clear hK;clear hdep;refine StepG.mk rfl ?_; rw[ha0]; simp only[putL,Act.put,sA_,sZ_,sS_];go_wp2_with fail;refine HK.out _ _ ?_;refine⟨v158,v159,v160,v161,(.pointer (some ⟨PB,1,none⟩)),v163,v164,v165,v157,v166,v167,v17,v18,(by rw[ha0]; simp only[putL,Act.put,sA_,sZ_,sS_]),?_,?_,?_,?_,trivial⟩
    · obtain⟨h158,h159,h160,h161,h162,h163,h164,h165,h157,h166,h167,h18,_⟩:=hR.out;exact Lib.hid ⟨h158,h159,h160,h161,fun _=>rfl,h163,h164,h165,h157,h166,h167,h18,trivial⟩
    · exact hX
    · intro h; obtain⟨g,c0,c1,e,hg,hblk,hst⟩:=hA17 (by simpa using h); exact⟨g,c0,c1,e,hg,hblk,fun h=>hst (by simpa using h)⟩
    · exact fun h=>(by have h1:=hN17 (by simpa using h); simp[h1])
   case x2hs5 =>
    intro s a' w' hsk hdep hI K hK;try dsimp only at hI hK
    obtain⟨v158,v159,v160,v161,v162,v163,v164,v165,v157,v166,v167,v17,v18,hact,hR,hX,hA17,hN17,_⟩:=hI;subst hact;have HK:=Lib.hid hK;clear hK;have e162:=hR.out.2.2.2.2.1 (hdep ⟨4,.data⟩ (by simp) rfl);subst e162;have kc0:w'.cell? ⟨gT,4,none⟩=some (.map (some bm)):=hX.cell (by first | (simp; done) | (simp; omega)) (by first | assumption | (go_simp; done) | (simp; done));have kc1:w'.cell? ⟨PB,1,none⟩=some (.int .i64 s1):=hX.cell (by first | (simp; done) | (simp; omega)) (by first | assumption | (go_simp; done) | (simp; done));clear hdep;refine StepG.mk rfl ?_; rw[ha0]; simp only[putL,Act.put,sA_,sZ_,sS_];go_wp2_with fail;refine HK.out _ _ ?_;refine⟨v158,v159,v160,v161,(.pointer (some ⟨PB,1,none⟩)),(.int .i64 s1),v164,v165,v157,v166,v167,v17,v18,(by rw[ha0]; simp only[putL,Act.put,sA_,sZ_,sS_]),?_,?_,?_,?_,trivial⟩
    · obtain⟨h158,h159,h160,h161,h162,h163,h164,h165,h157,h166,h167,h18,_⟩:=hR.out;exact Lib.hid ⟨h158,h159,h160,h161,fun _=>rfl,fun _=>rfl,h164,h165,h157,h166,h167,h18,trivial⟩
    · exact hX
    · intro h; obtain⟨g,c0,c1,e,hg,hblk,hst⟩:=hA17 (by simpa using h); exact⟨g,c0,c1,e,hg,hblk,fun h=>hst (by simpa using h)⟩
    · exact fun h=>(by have h1:=hN17 (by simpa using h); simp[h1])
   case x2hs6 =>
    intro s a' w' hsk hdep hI K hK;try dsimp only at hI hK
    obtain⟨v158,v159,v160,v161,v162,v163,v164,v165,v157,v166,v167,v17,v18,hact,hR,hX,hA17,hN17,_⟩:=hI;subst hact;have HK:=Lib.hid hK;clear hK;have e161:=hR.out.2.2.2.1 (hdep ⟨3,.data⟩ (by simp) rfl);subst e161;have e163:=hR.out.2.2.2.2.2.1 (hdep ⟨5,.data⟩ (by simp) rfl);subst e163;have kx0:=(show(Instr.lookup 82 (.map (some bm)) (.int .i64 (s1:Int)) false).run Tryz.prog w'=.ok (.iface ut ux) w' by have h:=(HM7.out.of_block (hX.block bm hbs7 (by simp))).look Tryz.underlying3 Tryz.underlying82 (zero_shape _) hin1 false; rw[HLK4.out]at h; exact h)
    clear hdep;refine StepG.mk rfl ?_; rw[ha0]; simp only[putL,Act.put,sA_,sZ_,sS_];go_wp2_with fail;refine HK.out _ _ ?_;refine⟨v158,v159,v160,(.map (some bm)),v162,(.int .i64 s1),(.iface ut ux),v165,v157,v166,v167,v17,v18,(by rw[ha0]; simp only[putL,Act.put,sA_,sZ_,sS_]),?_,?_,?_,?_,trivial⟩
    · obtain⟨h158,h159,h160,h161,h162,h163,h164,h165,h157,h166,h167,h18,_⟩:=hR.out;exact Lib.hid ⟨h158,h159,h160,fun _=>rfl,h162,fun _=>rfl,fun _=>rfl,h165,h157,h166,h167,h18,trivial⟩
    · exact hX
    · intro h; obtain⟨g,c0,c1,e,hg,hblk,hst⟩:=hA17 (by simpa using h); exact⟨g,c0,c1,e,hg,hblk,fun h=>hst (by simpa using h)⟩
    · exact fun h=>(by have h1:=hN17 (by simpa using h); simp[h1])
   case x2hs7 =>
    intro s a' w' hsk hdep hI K hK;try dsimp only at hI hK
    obtain⟨v158,v159,v160,v161,v162,v163,v164,v165,v157,v166,v167,v17,v18,hact,hR,hX,hA17,hN17,_⟩:=hI;subst hact;have HK:=Lib.hid hK;clear hK;have e164:=hR.out.2.2.2.2.2.2.1 (hdep ⟨6,.data⟩ (by simp) rfl);subst e164;have kc0:w'.cell? ⟨gT,4,none⟩=some (.map (some bm)):=hX.cell (by first | (simp; done) | (simp; omega)) (by first | assumption | (go_simp; done) | (simp; done));have kc1:w'.cell? ⟨PB,1,none⟩=some (.int .i64 s1):=hX.cell (by first | (simp; done) | (simp; omega)) (by first | assumption | (go_simp; done) | (simp; done));clear hdep;refine StepG.mk rfl ?_; rw[ha0]; simp only[putL,Act.put,sA_,sZ_,sS_];go_wp2_with fail;refine((ends_some w' (HU7.out.kept (BelP.ofX hX) (fun _ _ h=>by simp at h)) HD0.out HD1.out)).mono ?_;rintro e wn ⟨rfl,hb⟩;go_wp2_with fail;refine HK.out _ _ ?_;refine⟨v158,v159,v160,v161,v162,v163,(.iface ut ux),(.tuple #[.agg #[.int .i64 d0,.int .i64 d1],.bool true]),v157,v166,v167,v17,v18,(by rw[ha0]; simp only[putL,Act.put,sA_,sZ_,sS_]),?_,?_,?_,?_,trivial⟩
    · obtain⟨h158,h159,h160,h161,h162,h163,h164,h165,h157,h166,h167,h18,_⟩:=hR.out;exact Lib.hid ⟨h158,h159,h160,h161,h162,h163,fun _=>rfl,fun _=>rfl,h157,h166,h167,h18,trivial⟩
    · exact hX.call hb
    · intro h; obtain⟨g,c0,c1,e,hg,hblk,hst⟩:=hA17 (by simpa using h); exact⟨g,c0,c1,e,hg,(hb.block g (blk_lt hblk)).trans hblk,fun h=>hst (by simpa using h)⟩
    · exact fun h=>(by have h1:=hN17 (by simpa using h); simp[h1])
   case x2hs8 =>
    intro s a' w' hsk hdep hI K hK;try dsimp only at hI hK
    obtain⟨v158,v159,v160,v161,v162,v163,v164,v165,v157,v166,v167,v17,v18,hact,hR,hX,hA17,hN17,_⟩:=hI;subst hact;have HK:=Lib.hid hK;clear hK;have e165:=hR.out.2.2.2.2.2.2.2.1 (hdep ⟨7,.data⟩ (by simp) rfl);subst e165;clear hdep;refine StepG.mk rfl ?_; rw[ha0]; simp only[putL,Act.put,sA_,sZ_,sS_];go_wp2_with fail;refine HK.out _ _ ?_;refine⟨v158,v159,v160,v161,v162,v163,v164,(.tuple #[.agg #[.int .i64 d0,.int .i64 d1],.bool true]),(.tuple #[.agg #[.int .i64 d0,.int .i64 d1],.bool true]),v166,v167,v17,v18,(by rw[ha0]; simp only[putL,Act.put,sA_,sZ_,sS_]),?_,?_,?_,?_,trivial⟩
    · obtain⟨h158,h159,h160,h161,h162,h163,h164,h165,h157,h166,h167,h18,_⟩:=hR.out;exact Lib.hid ⟨h158,h159,h160,h161,h162,h163,h164,fun _=>rfl,fun _=>rfl,h166,h167,h18,trivial⟩
    · exact hX
    · intro h; obtain⟨g,c0,c1,e,hg,hblk,hst⟩:=hA17 (by simpa using h); exact⟨g,c0,c1,e,hg,hblk,fun h=>hst (by simpa using h)⟩
    · exact fun h=>(by have h1:=hN17 (by simpa using h); simp[h1])
   case x2hs9 =>
    intro s a' w' hsk hdep hI K hK;try dsimp only at hI hK
    obtain⟨v158,v159,v160,v161,v162,v163,v164,v165,v157,v166,v167,v17,v18,hact,hR,hX,hA17,hN17,_⟩:=hI;subst hact;have HK:=Lib.hid hK;clear hK;have e157:=hR.out.2.2.2.2.2.2.2.2.1 (hdep ⟨8,.data⟩ (by simp) rfl);subst e157;clear hdep;refine StepG.mk rfl ?_; rw[ha0]; simp only[putL,Act.put,sA_,sZ_,sS_];go_wp2_with fail;refine HK.out _ _ ?_;refine⟨v158,v159,v160,v161,v162,v163,v164,v165,(.tuple #[.agg #[.int .i64 d0,.int .i64 d1],.bool true]),(.agg #[.int .i64 d0,.int .i64 d1]),v167,v17,v18,(by rw[ha0]; simp only[putL,Act.put,sA_,sZ_,sS_]),?_,?_,?_,?_,trivial⟩
    · obtain⟨h158,h159,h160,h161,h162,h163,h164,h165,h157,h166,h167,h18,_⟩:=hR.out;exact Lib.hid ⟨h158,h159,h160,h161,h162,h163,h164,h165,fun _=>rfl,fun _=>rfl,h167,h18,trivial⟩
    · exact hX
    · intro h; obtain⟨g,c0,c1,e,hg,hblk,hst⟩:=hA17 (by simpa using h); exact⟨g,c0,c1,e,hg,hblk,fun h=>hst (by simpa using h)⟩
    · exact fun h=>(by have h1:=hN17 (by simpa using h); simp[h1])
   case x2hs10 =>
    intro s a' w' hsk hdep hI K hK;try dsimp only at hI hK
    obtain⟨v158,v159,v160,v161,v162,v163,v164,v165,v157,v166,v167,v17,v18,hact,hR,hX,hA17,hN17,_⟩:=hI;subst hact;have HK:=Lib.hid hK;clear hK;have e157:=hR.out.2.2.2.2.2.2.2.2.1 (hdep ⟨8,.data⟩ (by simp) rfl);subst e157;clear hdep;refine StepG.mk rfl ?_; rw[ha0]; simp only[putL,Act.put,sA_,sZ_,sS_];go_wp2_with fail;refine HK.out _ _ ?_;refine⟨v158,v159,v160,v161,v162,v163,v164,v165,(.tuple #[.agg #[.int .i64 d0,.int .i64 d1],.bool true]),v166,(.bool true),v17,v18,(by rw[ha0]; simp only[putL,Act.put,sA_,sZ_,sS_]),?_,?_,?_,?_,trivial⟩
    · obtain⟨h158,h159,h160,h161,h162,h163,h164,h165,h157,h166,h167,h18,_⟩:=hR.out;exact Lib.hid ⟨h158,h159,h160,h161,h162,h163,h164,h165,fun _=>rfl,h166,fun _=>rfl,h18,trivial⟩
    · exact hX
    · intro h; obtain⟨g,c0,c1,e,hg,hblk,hst⟩:=hA17 (by simpa using h); exact⟨g,c0,c1,e,hg,hblk,fun h=>hst (by simpa using h)⟩
    · exact fun h=>(by have h1:=hN17 (by simpa using h); simp[h1])
   case x2hs11 =>
    intro s a' w' hsk hdep hI K hK;try dsimp only at hI hK
    obtain⟨v158,v159,v160,v161,v162,v163,v164,v165,v157,v166,v167,v17,v18,hact,hR,hX,hA17,hN17,_⟩:=hI;subst hact;have HK:=Lib.hid hK;clear hK;clear hdep;refine StepG.mk rfl ?_; rw[ha0]; simp only[putL,Act.put,sA_,sZ_,sS_];go_wp2_with fail;refine HK.out _ _ ?_;refine⟨v158,v159,v160,v161,v162,v163,v164,v165,v157,v166,v167,(.pointer (some ⟨w'.heap.size,0,none⟩)),v18,(by rw[ha0]; simp only[putL,Act.put,sA_,sZ_,sS_]),?_,?_,?_,?_,trivial⟩
    · obtain⟨h158,h159,h160,h161,h162,h163,h164,h165,h157,h166,h167,h18,_⟩:=hR.out;exact Lib.hid ⟨h158,h159,h160,h161,h162,h163,h164,h165,h157,h166,h167,h18,trivial⟩
    · exact hX.alloc _
    · exact fun _=>⟨w'.heap.size,.int .i64 0,.int .i64 0,rfl,hX.size,blk_new w' _,fun h=>(by have h1:=hN17 (by simpa using h); rw[h1]at hsk; cases hsk)⟩
    · exact fun _=>rfl
   case x2hs12 =>
    intro s a' w' hsk hdep hI K hK;try dsimp only at hI hK
    obtain⟨v158,v159,v160,v161,v162,v163,v164,v165,v157,v166,v167,v17,v18,hact,hR,hX,hA17,hN17,_⟩:=hI;subst hact;have HK:=Lib.hid hK;clear hK;have e166:=hR.out.2.2.2.2.2.2.2.2.2.1 (hdep ⟨9,.data⟩ (by simp) rfl);subst e166;obtain⟨g,c0,c1,ev,hg,hblk,hst⟩:=hA17 (hdep ⟨11,.data⟩ (by simp) rfl);subst ev;have kc0:w'.cell? ⟨gT,4,none⟩=some (.map (some bm)):=hX.cell (by first | (simp; done) | (simp; omega)) (by first | assumption | (go_simp; done) | (simp; done));have kc1:w'.cell? ⟨PB,1,none⟩=some (.int .i64 s1):=hX.cell (by first | (simp; done) | (simp; omega)) (by first | assumption | (go_simp; done) | (simp; done));have kb0:w'.cell? ⟨g,0,none⟩=some c0:=cell_of_row w' g 0 _ _ _ hblk;have kb1:w'.cell? ⟨g,1,none⟩=some c1:=cell_of_row w' g 1 _ _ _ hblk;have kf:∀o,w'.frozen? ⟨g,o,none⟩=false:=fun o=>frozen_of_row w' g o _ _ hblk;have hBlk:=Lib.hid hblk;clear hblk;have hdepA:s 11=true:=hdep ⟨11,.data⟩ (by simp) rfl;clear hdep;refine StepG.mk rfl ?_; rw[ha0]; simp only[putL,Act.put,sA_,sZ_,sS_];go_wp2_with fail;refine HK.out _ _ ?_;refine⟨v158,v159,v160,v161,v162,v163,v164,v165,v157,(.agg #[.int .i64 d0,.int .i64 d1]),v167,(.pointer (some ⟨g,0,none⟩)),v18,(by rw[ha0]; simp only[putL,Act.put,sA_,sZ_,sS_]),?_,?_,?_,?_,trivial⟩
    · obtain⟨h158,h159,h160,h161,h162,h163,h164,h165,h157,h166,h167,h18,_⟩:=hR.out;exact Lib.hid ⟨h158,h159,h160,h161,h162,h163,h164,h165,h157,fun _=>rfl,h167,h18,trivial⟩
    · exact((hX.setNew (p:=⟨g,0,none⟩) hg _).setNew (p:=⟨g,1,none⟩) hg _)
    · exact fun _=>⟨g,_,_,rfl,hg,blk_set2 hBlk.out,fun _=>⟨rfl,rfl⟩⟩
    · exact fun _=>(by simp[hdepA])
   case x2hs13 =>
    intro s a' w' hsk hdep hI K hK;try dsimp only at hI hK
    obtain⟨v158,v159,v160,v161,v162,v163,v164,v165,v157,v166,v167,v17,v18,hact,hR,hX,hA17,hN17,_⟩:=hI;subst hact;have HK:=Lib.hid hK;clear hK;have e167:=hR.out.2.2.2.2.2.2.2.2.2.2.1 (hdep ⟨10,.data⟩ (by simp) rfl);subst e167;clear hdep;refine StepG.mk rfl ?_; rw[ha0]; simp only[putL,Act.put,sA_,sZ_,sS_];go_wp2_with fail;refine HK.out _ _ ?_;refine⟨v158,v159,v160,v161,v162,v163,v164,v165,v157,v166,(.bool true),v17,(.bool true),(by rw[ha0]; simp only[putL,Act.put,sA_,sZ_,sS_]),?_,?_,?_,?_,trivial⟩
    · obtain⟨h158,h159,h160,h161,h162,h163,h164,h165,h157,h166,h167,h18,_⟩:=hR.out;exact Lib.hid ⟨h158,h159,h160,h161,h162,h163,h164,h165,h157,h166,fun _=>rfl,fun _=>rfl,trivial⟩
    · exact hX
    · intro h; obtain⟨g,c0,c1,e,hg,hblk,hst⟩:=hA17 (by simpa using h); exact⟨g,c0,c1,e,hg,hblk,fun h=>hst (by simpa using h)⟩
    · exact fun h=>(by have h1:=hN17 (by simpa using h); simp[h1])
   intro s a' w8 hall hI;try dsimp only at hI
   obtain⟨v158,v159,v160,v161,v162,v163,v164,v165,v157,v166,v167,v17,v18,hact,hR,hXR,hA17,hN17,_⟩:=hI;subst hact;obtain⟨h158,h159,h160,h161,h162,h163,h164,h165,h157,h166,h167,h18,_⟩:=hR.out;clear hR;have e158:=h158 (hall 0 (by decide));subst e158;clear h158;have e159:=h159 (hall 1 (by decide));subst e159;clear h159;have e160:=h160 (hall 2 (by decide));subst e160;clear h160;have e161:=h161 (hall 3 (by decide));subst e161;clear h161;have e162:=h162 (hall 4 (by decide));subst e162;clear h162;have e163:=h163 (hall 5 (by decide));subst e163;clear h163;have e164:=h164 (hall 6 (by decide));subst e164;clear h164;have e165:=h165 (hall 7 (by decide));subst e165;clear h165;have e157:=h157 (hall 8 (by decide));subst e157;clear h157;have e166:=h166 (hall 9 (by decide));subst e166;clear h166;have e167:=h167 (hall 10 (by decide));subst e167;clear h167;have e18:=h18 (hall 13 (by decide));subst e18;clear h18;obtain⟨g17,c0,c1,ev,hg17,hblk17,hst⟩:=hA17 (hall 11 (by decide));subst ev;clear hA17 hN17;obtain⟨es0,es1⟩:=hst (hall 12 (by decide));subst es0;subst es1;clear hst;clear hall;rw[ha0]; simp only[putL,Act.put,sA_,sZ_,sS_];clear ha0;have hg8:=(hXR.block gT hgs7 (by simp)).trans HG7.out;have hp8:=(hXR.block PB hps7 (by simp)).trans HP7.out;have HM8:=Lib.hid (HM7.out.of_block (hXR.block bm hbs7 (by simp)));have HX8:=Lib.hid hXR;have hq8:=hblk17;have hgq:g17≠gT:=by omega
   have hgp:PB≠gT:=by have:=HPB.out; have:=HB6.out.size; omega
   clear hXR c4 e1 hblk17;obtain⟨c0,c1,c2,c3,c4⟩:=row5 hg8;obtain⟨e0,e1⟩:=row2_0' hp8;obtain⟨f0,f1⟩:=row2_0' hq8;have fz:=row_f hg8;have hgs8:=blk_lt hg8;have HG8:=Lib.hid hg8;obtain⟨Z,hZ⟩:∃Z:Nat,s1 * p=Z:=⟨_,rfl⟩
   have hZi:(s1:Int) * (p:Int)=(Z:Int):=by rw[<-hZ]; simp
   have hZb:Z+d1 < 256:=by
    have h1:=RK.R_le hk;rw[HEP.out,hZ]at hjn;omega
   have hZ1:Z < 256:=by omega
   have hd1:d1 < 256:=by omega
   have HZ:=Lib.hid hZ;clear hg8 hp8 hq8 hZ hjn;go_upto_region 27 with fail;obtain⟨w9,h9⟩:∃wx:World,wx=w8.setCell ⟨gT,1,none⟩ (.int .i64 ((Z:Int)+(d1:Int))):=⟨_,rfl⟩
   rw[<-h9];have hX9:BelX [gT] w8 w9:=by rw[h9]; exact(BelX.here [gT] w8).setOld (p:=⟨gT,1,none⟩) (by simp) _
   have HG9:Hid (w9.heap[gT]?=some (.cells #[.int .i64 a,.int .i64 ((s1 * RK.R k+d1:Nat):Int),.int .i64 ((k:Int)+1),sv,.map (some bm)] 84 (0,0))):=Lib.hid (by
    rw[h9,HEP.out,HZ.out,Int.natCast_add]; simp[World.setCell,Array.getElem?_modify,HG8.out])
   have HM9:=Lib.hid (HM8.out.of_block (hX9.block bm HM8.out.lt (by simp; exact fun e=>HAP.out.1 e.symm)));have HD9:Hid (BelP (fun c=>c=gT∨c=bm) w4 w9):=Lib.hid (
    BelP.trans (BelP.trans (BelP.trans (BelP.trans ((BelP.ofX HX5.out).mono fun c _ h=>.inl (by simpa using h)) ((BelP.ofBelow HB6.out).mono fun _ _ h=>False.elim h) (fun _ _ h=>h)) ((BelP.ofBelow HB7.out).mono fun _ _ h=>False.elim h) (fun _ _ h=>h))
     ((BelP.ofX HX8.out).mono fun c _ h=>by simp at h) (fun _ _ h=>h)) ((BelP.ofX hX9).mono fun c _ h=>.inl (by simpa using h)) (fun _ _ h=>h))
   clear h9 hX9 c0 c1 c2 c3 c4 e0 e1 f0 f1 fz hZi;go_wp2_with fail
   go_ret
   have heq:=HEQ.out;have her:=HER.out;subst heq her;have hB3w:BelP (Fp (y / RK.R k)) w2 w3:=⟨HB3.out.os,HB3.out.tape,HB3.out.output,HB3.out.size,HB3.out.block⟩
   have hB39:BelP (fun c=>c=gT∨c=bm) w3 w9:=BelP.trans ((BelP.ofX HX4.out).mono fun c _ h=>.inr (by simpa using h)) HD9.out (fun _ _ h=>h);have hBw:BelP (fun c=>c=gT∨c=bm∨Fp (y / RK.R k) c) w w9 :=
    BelP.trans (BelP.trans ((BelP.ofX HX2.out).mono fun c _ h=>by simp at h) (hB3w.mono fun c _ h=>.inr (.inr h)) (fun _ _ h=>h)) (hB39.mono fun c _ h=>h.elim .inl (fun h=>.inr (.inl h))) (fun _ _ h=>h)
   have hs2:w.heap.size<=w2.heap.size:=HX2.out.size;obtain⟨F',hRF,hFF⟩:=rep_del_stay (T:=ty) (w:=w) (w3:=w3) (w4:=w9) (y:=y) HN.out HSET.out HMIN.out HMAX.out HSH.out HNE.out HSP.out HFP.out HAP.out hgs hbs hBw HSV.out HR3.out (fun c hc=>(HF3.out c hc).imp id (fun h=>Nat.le_trans hs2 h)) hB39 HG9.out HM9.out;refine⟨_,F',rfl,hRF,hBw.mono fun c _ h=>(HF.out c).2 ?_,fun c h=>?_⟩
   ·
    rcases h with h | h | h
    · exact .inl h
    · exact .inr (.inl h)
    · exact .inr (.inr (.inr ⟨_,h⟩))
   ·
    rcases hFF c h with h | h
    · exact .inl ((HF.out c).2 h)
    · exact .inr h
end Go.Proofs.YtpnfmbeccjehiabGreatDoor
