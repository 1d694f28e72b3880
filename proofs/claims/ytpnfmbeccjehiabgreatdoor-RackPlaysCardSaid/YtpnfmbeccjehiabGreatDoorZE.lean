/- The rack's methods: check of any places; Work, Before, Count. -/
import Derived.Test.YtpnfmbeccjehiabGreatDoorK34
set_option maxHeartbeats 4000000
set_option maxRecDepth 100000
namespace Go.Proofs.YtpnfmbeccjehiabGreatDoor
open Go.RowKit Go.Proofs.YtpnfmbeccjehiabGreatDoorW.PrintWords Go.Proofs.YtpnfmbeccjehiabGreatDoorW.PrintLast Go.Proofs.YtpnfmbeccjehiabGreatDoorW.PrintMore
attribute [local go_sem ↓] Go.wp_at_zero Go.wp_at_succ
theorem check_any (k rb:Nat) (s:Value) (xs:List Int) (w:World) (hk:k<=3) (h:w.cell? ⟨rb,0,none⟩=some (.int .i64 ((k:Int)+1))) (hs:LI w s xs) (hn:xs.length<=2) :
  Calls Tryz.prog 40 #[.pointer (some ⟨rb,0,none⟩),s] w fun e w'=>e=.returned (.int .i64 (if ∀x∈xs,0<=x/\x < RK.R k then 0 else 2))/\w=w':=by
 have HU:=Lib.hid (fun wx h=>usable_ok k rb wx h);have HP:=Lib.hid (fun o wx ho=>places_any o k wx ho hk);have HW:=Lib.hid (fun a b c wx=>within_any a b c wx);have hR:=RK.R_le hk;have hR0:=RK.R_pos k;obtain⟨p,hp⟩:∃p,RK.R k=p:=⟨_,rfl⟩
 rw[hp]at hR hR0 HP;rw[hp];obtain⟨res,hres⟩:∃r:Int,(if ∀x∈xs,0<=x/\x < (p:Int) then (0:Int) else 2)=r:=⟨_,rfl⟩
 rw[hres];have HRS:=Lib.hid hres;clear hres;obtain⟨A,c,rfl⟩:=hs.len;have HS:=Lib.hid hs;obtain⟨n,hxn⟩:∃n,xs.length=n:=⟨_,rfl⟩
 have HXN:=Lib.hid hxn;simp only[hxn]at HS hn ⊢;clear hs hxn;go_enter Tryz.func40,Tryz.ntmps40;go_wp2_with fail;refine(HU.out _ h).mono ?_;rintro e w1 ⟨rfl,rfl⟩;go_upto_region 4 with fail;go_loopw [12,6] (fun i _ wr=>∃j:Nat,i=.int .i64 j/\j<=n/\Hid (∀x∈xs.take j,0<=x/\x < p)/\w=wr) (fun i _ _=>n-(intOf i).toNat)
 case atStart=>exact⟨0,rfl,by omega,Lib.hid (fun x h=>by simp at h),rfl⟩
 case round =>
  obtain⟨j,rfl,hj,HJ,rfl⟩:=hrel
  by_cases hjl:j < n
  ·
   obtain⟨x,hx⟩:∃x,xs[j]?=some x:=⟨xs[j]'(by have:=HXN.out; omega),by have:=HXN.out; simp[show j < xs.length by omega]⟩
   obtain⟨ad,rfl,hc⟩:=HS.out.cell hx;have HTK:=Lib.hid (show xs.take (j+1)=xs.take j ++ [x] by rw[List.take_add_one,hx]; rfl);have HMX:=Lib.hid (List.mem_of_getElem? hx);clear hx;go_wp2_with fail;refine(HP.out _ _ (by omega)).mono ?_;rintro e w1 ⟨rfl,rfl⟩;go_wp2_with fail;refine(HW.out _ _ _ _).mono ?_;rintro e w1 ⟨rfl,rfl⟩
   by_cases hx:0<=x/\x < p
   ·
    rw[show(decide ((0:Int)<=x) && decide (x<=(p:Int)-1))=true by simp; omega];have HX:=Lib.hid hx;clear hx;go_wp2_with fail
    go_roundw
    case rel=>exact⟨j+1,by simp,by omega,Lib.hid (fun z hz=>by
     rw[HTK.out]at hz;rcases List.mem_append.1 hz with h | h
     · exact HJ.out z h
     · rw[List.mem_singleton.1 h]; exact HX.out),by first | rfl | trivial⟩
    case measure=>simp[intOf]; omega
   ·
    rw[show(decide ((0:Int)<=x) && decide (x<=(p:Int)-1))=false by simp; omega];have HX:=Lib.hid hx;clear hx;go_wp2_with fail
    go_ret
    exact⟨by rw[<-HRS.out,if_neg (fun h=>HX.out (h x HMX.out))]; rfl,rfl⟩
  ·
   obtain rfl:j=n:=by omega
   have HX:=Lib.hid (show ∀x∈xs,0<=x/\x < p by
    have:=HJ.out;rw[List.take_of_length_le (by have:=HXN.out; omega)]at this;exact this)
   clear HJ;go_wp2_with fail
   go_ret
   exact⟨by rw[<-HRS.out,if_pos HX.out]; rfl,rfl⟩
theorem work_in (k rb:Nat) (m:RK.S) (v:Value) (F:Nat->Prop) (x:Nat) (w:World) (hk:k<=3) (h:RackIs w rb k m v F) (hx:x < RK.R k) :
  Calls Tryz.prog 33 #[.pointer (some ⟨rb,0,none⟩),.int .i64 x] w fun e w'=>e=.returned (.tuple #[.int .i64 (RK.wk k m x:Int),.int .i64 0])/\Below w.heap.size w w':=by
 have HC:=Lib.hid (fun cap sb wx h hs=>check_one k rb sb cap (x:Int) wx hk h hs);have hH:=fun wx h=>next_any k v m F x wx hk h hx;have HR:=Lib.hid h;have hrs:=blk_lt h.1;have hwk:=wrap_small (n:=k) (by omega);have hif:(if (0:Int)<=(x:Int)/\(x:Int) < RK.R k then (0:Int) else 2)=0:=if_pos ⟨by omega,by omega⟩;have hR4:=RK.R_le hk;obtain⟨N,hN⟩:∃n,(RK.nxv k m x).1=n:=⟨_,rfl⟩
 obtain⟨W,hW⟩:∃n,RK.wk k m x=n:=⟨_,rfl⟩
 obtain⟨O,hO⟩:∃n,(RK.nxv k m x).2=n:=⟨_,rfl⟩
 simp only[hN,hW,hO]at hH;rw[hW];have HH:=Lib.hid hH;simp only[hif]at HC;clear h hif hN hW hO hH;go_enter Tryz.func33,Tryz.ntmps33;go_wp2_with fail;refine(HC.out _ _ _ (row2 (blk_old HR.out.1)).1 (cell_lit _ _ _)).mono ?_;rintro e w1 ⟨rfl,rfl⟩;obtain⟨w2,h2⟩:∃wx:World,wx=w.alloc (.cells #[.int .i64 x] 3):=⟨_,rfl⟩
 rw[<-h2];have HR2:=Lib.hid (show RackIs w2 rb k m v F by rw[h2]; exact HR.out.below (by repeat (first | exact Below.refl _ _ | exact Nat.le_refl _ | refine Below.alloc ?_ ?_ _ | refine Below.setCell ?_ ?_ _ | refine Below.drew ?_ | refine bl_drewN ?_ _ | (assumption) | refine bl_call ?_ (by assumption) ?_ | omega | (simp <;> omega))));have B2:Below w.heap.size w w2:=by rw[h2]; exact(by repeat (first | exact Below.refl _ _ | exact Nat.le_refl _ | refine Below.alloc ?_ ?_ _ | refine Below.setCell ?_ ?_ _ | refine Below.drew ?_ | refine bl_drewN ?_ _ | (assumption) | refine bl_call ?_ (by assumption) ?_ | omega | (simp <;> omega)))
 obtain⟨c0,c1⟩:=row2 HR2.out.1;have hrs2:=blk_lt HR2.out.1;have hsz2:=B2.size;clear h2;go_upto_region 4 with fail;refine with_act fun a0 ha0=>?_;have hsz0:a0.tmps.size=33:=by rw[ha0]; rfl
 refine wp_region_vals (W0:=w2) (by kernel_rfl) (by kernel_rfl) [(18,.pointer (some ⟨rb,0,none⟩)),(19,.pointer (some ⟨rb,0,none⟩)),(20,.pointer (some ⟨rb,1,none⟩)),(21,v),(22,.pointer (some ⟨rb,0,none⟩)),(23,.pointer (some ⟨rb,0,none⟩)),(24,.pointer (some ⟨rb,0,none⟩)),(25,.int .i64 ((k:Int)+1)),(26,.int .i64 k),(27,.int .i64 x),(28,.tuple #[.int .i64 N,.int .i64 W,.bool O]),(17,.tuple #[.int .i64 N,.int .i64 W,.bool O]),(29,.int .i64 N),(30,.int .i64 W),(31,.bool O),(7,.int .i64 N),(8,.int .i64 W),(9,.bool O)] rfl (by show([18,19,20,21,22,23,24,25,26,27,28,17,29,30,31,7,8,9]:List Nat).Nodup; decide) _ hsz0 (by kernel_rfl) (BelX.start _ _) ⟨⟨rfl,?y1v0⟩,⟨rfl,?y1v1⟩,⟨rfl,?y1v2⟩,⟨rfl,?y1v3⟩,⟨rfl,?y1v4⟩,⟨rfl,?y1v5⟩,⟨rfl,?y1v6⟩,⟨rfl,?y1v7⟩,⟨rfl,?y1v8⟩,⟨rfl,?y1v9⟩,⟨rfl,?y1v10⟩,⟨rfl,?y1v11⟩,⟨rfl,?y1v12⟩,⟨rfl,?y1v13⟩,⟨rfl,?y1v14⟩,⟨rfl,?y1v15⟩,⟨rfl,?y1v16⟩,⟨rfl,?y1v17⟩,trivial⟩ ?y1done
 case y1v0 =>
  exact mvVi rfl rfl rfl (by kernel_rfl) (by rw[ha0]; rfl)
 case y1v1 =>
  intro a' w' hA hdep hX K hK;obtain⟨r18,q18⟩:=dpv hdep ⟨0,.data⟩ (by simp) rfl rfl;clear hdep ha0 hA;refine StepG.value (wanted_none rfl) rfl ?_ (hK _ hX);simp[go_sem, *]
 case y1v2 =>
  intro a' w' hA hdep hX K hK;obtain⟨r19,q19⟩:=dpv hdep ⟨1,.data⟩ (by simp) rfl rfl;clear hdep ha0 hA;refine StepG.value (wanted_none rfl) rfl ?_ (hK _ hX);simp[go_sem, *]
 case y1v3 =>
  intro a' w' hA hdep hX K hK;obtain⟨r20,q20⟩:=dpv hdep ⟨2,.data⟩ (by simp) rfl rfl;have kc0:w'.cell? ⟨rb,0,none⟩=some (.int .i64 ((k:Int)+1)):=hX.cell (by simp) (by first | assumption | (go_simp; done) | (simp; done));have kc1:w'.cell? ⟨rb,1,none⟩=some (v):=hX.cell (by simp) (by first | assumption | (go_simp; done) | (simp; done));clear hdep ha0 hA;refine StepG.value (wanted_none rfl) rfl ?_ (hK _ hX);simp[go_sem, *]
 case y1v4 =>
  exact mvVi rfl rfl rfl (by kernel_rfl) (by rw[ha0]; rfl)
 case y1v5 =>
  intro a' w' hA hdep hX K hK;obtain⟨r22,q22⟩:=dpv hdep ⟨4,.data⟩ (by simp) rfl rfl;clear hdep ha0 hA;refine StepG.value (wanted_none rfl) rfl ?_ (hK _ hX);simp[go_sem, *]
 case y1v6 =>
  intro a' w' hA hdep hX K hK;obtain⟨r23,q23⟩:=dpv hdep ⟨5,.data⟩ (by simp) rfl rfl;clear hdep ha0 hA;refine StepG.value (wanted_none rfl) rfl ?_ (hK _ hX);simp[go_sem, *]
 case y1v7 =>
  intro a' w' hA hdep hX K hK;obtain⟨r24,q24⟩:=dpv hdep ⟨6,.data⟩ (by simp) rfl rfl;have kc0:w'.cell? ⟨rb,0,none⟩=some (.int .i64 ((k:Int)+1)):=hX.cell (by simp) (by first | assumption | (go_simp; done) | (simp; done));have kc1:w'.cell? ⟨rb,1,none⟩=some (v):=hX.cell (by simp) (by first | assumption | (go_simp; done) | (simp; done));clear hdep ha0 hA;refine StepG.value (wanted_none rfl) rfl ?_ (hK _ hX);simp[go_sem, *]
 case y1v8 =>
  intro a' w' hA hdep hX K hK;obtain⟨r25,q25⟩:=dpv hdep ⟨7,.data⟩ (by simp) rfl rfl;clear hdep ha0 hA;refine StepG.value (wanted_none rfl) rfl ?_ (hK _ hX);simp[go_sem, *]
 case y1v9 =>
  exact mvVi rfl rfl rfl (by kernel_rfl) (by rw[ha0]; rfl)
 case y1v10 =>
  intro a' w' hA hdep hX K hK;obtain⟨r21,q21⟩:=dpv hdep ⟨3,.data⟩ (by simp) rfl rfl;obtain⟨r26,q26⟩:=dpv hdep ⟨8,.data⟩ (by simp) rfl rfl;obtain⟨r27,q27⟩:=dpv hdep ⟨9,.data⟩ (by simp) rfl rfl;clear hdep ha0 hA;refine StepG.call (wanted_none rfl) rfl ?_ ((HH.out w' (HR2.out.2.1.kept (BelP.ofX hX) (fun _ _ h=>by simp at h)))) (fun w2 hb=>hK _ (hX.call hb));simp[go_sem, *]
 case y1v11 =>
  exact mvV ⟨10,.data⟩ (by simp) rfl rfl rfl rfl rfl
 case y1v12 =>
  intro a' w' hA hdep hX K hK;obtain⟨r17,q17⟩:=dpv hdep ⟨11,.data⟩ (by simp) rfl rfl;clear hdep ha0 hA;refine StepG.value (wanted_none rfl) rfl ?_ (hK _ hX);simp[go_sem, *]
 case y1v13 =>
  intro a' w' hA hdep hX K hK;obtain⟨r17,q17⟩:=dpv hdep ⟨11,.data⟩ (by simp) rfl rfl;clear hdep ha0 hA;refine StepG.value (wanted_none rfl) rfl ?_ (hK _ hX);simp[go_sem, *]
 case y1v14 =>
  intro a' w' hA hdep hX K hK;obtain⟨r17,q17⟩:=dpv hdep ⟨11,.data⟩ (by simp) rfl rfl;clear hdep ha0 hA;refine StepG.value (wanted_none rfl) rfl ?_ (hK _ hX);simp[go_sem, *]
 case y1v15 =>
  intro a' w' hA hdep hX K hK;obtain⟨r29,q29⟩:=dpv hdep ⟨12,.data⟩ (by simp) rfl rfl;clear hdep ha0 hA;refine StepG.value (wanted_none rfl) rfl ?_ (hK _ hX);simp[go_sem, *]
 case y1v16 =>
  intro a' w' hA hdep hX K hK;obtain⟨r30,q30⟩:=dpv hdep ⟨13,.data⟩ (by simp) rfl rfl;clear hdep ha0 hA;refine StepG.value (wanted_none rfl) rfl ?_ (hK _ hX);simp[go_sem, *]
 case y1v17 =>
  intro a' w' hA hdep hX K hK;obtain⟨r31,q31⟩:=dpv hdep ⟨14,.data⟩ (by simp) rfl rfl;clear hdep ha0 hA;refine StepG.value (wanted_none rfl) rfl ?_ (hK _ hX);simp[go_sem, *]
 intro w3 hXR;rw[ha0]; simp only[putL,Act.put,sA_,sZ_,sS_];clear ha0 hsz0;have B3:Below w.heap.size w w3:=hXR.below (by first | assumption | exact(by repeat (first | exact Below.refl _ _ | exact Nat.le_refl _ | refine Below.alloc ?_ ?_ _ | refine Below.setCell ?_ ?_ _ | refine Below.drew ?_ | refine bl_drewN ?_ _ | (assumption) | refine bl_call ?_ (by assumption) ?_ | omega | (simp <;> omega)))) (by first | omega | (simp <;> omega)) (by simp);go_wp2_with fail;exact bodyPost_ret (v:=.tuple #[.int .i64 W,.int .i64 0]) (by simp[results,Tryz.results33,go_sem]) rfl ⟨rfl,(by repeat (first | exact Below.refl _ _ | exact Nat.le_refl _ | refine Below.alloc ?_ ?_ _ | refine Below.setCell ?_ ?_ _ | refine Below.drew ?_ | refine bl_drewN ?_ _ | (assumption) | refine bl_call ?_ (by assumption) ?_ | omega | (simp <;> omega)))⟩
theorem work_out (k rb:Nat) (m:RK.S) (v:Value) (F:Nat->Prop) (x:Int) (w:World) (hk:k<=3) (h:RackIs w rb k m v F) (hx:¬(0<=x/\x < RK.R k)) :
  Calls Tryz.prog 33 #[.pointer (some ⟨rb,0,none⟩),.int .i64 x] w fun e w'=>e=.returned (.tuple #[.int .i64 0,.int .i64 2])/\Below w.heap.size w w':=by
 have HC:=Lib.hid (fun cap sb wx h hs=>check_one k rb sb cap x wx hk h hs);have HR:=Lib.hid h;have hrs:=blk_lt h.1;simp only[if_neg hx]at HC;clear h hx;go_enter Tryz.func33,Tryz.ntmps33;go_wp2_with fail;refine(HC.out _ _ _ (row2 (blk_old HR.out.1)).1 (cell_lit _ _ _)).mono ?_;rintro e w1 ⟨rfl,rfl⟩;go_wp2_with fail;exact bodyPost_ret (v:=.tuple #[.int .i64 0,.int .i64 2]) (by simp[results,Tryz.results33,go_sem]) rfl ⟨rfl,(by repeat (first | exact Below.refl _ _ | exact Nat.le_refl _ | refine Below.alloc ?_ ?_ _ | refine Below.setCell ?_ ?_ _ | refine Below.drew ?_ | refine bl_drewN ?_ _ | (assumption) | refine bl_call ?_ (by assumption) ?_ | omega | (simp <;> omega)))⟩
open Go.RowKit Go.Proofs.YtpnfmbeccjehiabGreatDoorW.PrintWords Go.Proofs.YtpnfmbeccjehiabGreatDoorW.PrintLast Go.Proofs.YtpnfmbeccjehiabGreatDoorW.PrintMore
attribute [local go_sem ↓] Go.wp_at_zero Go.wp_at_succ
namespace RK
/-- the place before, and whether there is one -/
def bfv (m:S):Nat->Nat × Bool
 | 0=>(0,false)
 | x+1=>if m x=true then (x,true) else bfv m x
theorem bfv_none {m:S}:∀{x:Nat},(∀z,z < x->m z=false)->bfv m x=(0,false)
 | 0,_=>rfl
 | x+1,h=>by
  rw[bfv,if_neg (by rw[h x (by omega)]; decide)];exact bfv_none fun z hz=>h z (by omega)
theorem bfv_some {m:S} {i:Nat} (hi:m i=true):∀{x:Nat},i < x->(∀z,i < z->z < x->m z=false)->bfv m x=(i,true)
 | 0,h,_=>by omega
 | x+1,h,hz=>by
  rw[bfv]
  by_cases e:i=x
  · rw[if_pos (by rw[<-e]; exact hi),e]
  · rw[if_neg (by rw[hz x (by omega) (by omega)]; decide)];exact bfv_some hi (by omega) fun z h1 h2=>hz z h1 (by omega)
theorem bfv_spec (m:S):∀x,((bfv m x).2=true->m (bfv m x).1=true/\(bfv m x).1 < x/\∀z,(bfv m x).1 < z->z < x->m z=false)/\((bfv m x).2=false->(bfv m x).1=0/\∀z,z < x->m z=false)
 | 0=>⟨fun h=>by simp[bfv]at h,fun _=>⟨rfl,fun z hz=>by omega⟩⟩
 | x+1=>by
  rw[bfv]
  by_cases h:m x=true
  · rw[if_pos h];exact⟨fun _=>⟨h,by show x < x+1; omega,fun z h1 h2=>by simp only at h1; omega⟩,fun h=>by simp at h⟩
  ·
   rw[if_neg h];obtain⟨h1,h2⟩:=bfv_spec m x;refine⟨fun h3=>?_,fun h3=>⟨(h2 h3).1,fun z hz=>?_⟩⟩
   ·
    obtain⟨q1,q2,q3⟩:=h1 h3;refine⟨q1,by omega,fun z hz hx=>?_⟩
    by_cases e:z=x
    · rw[e]; simpa using h
    · exact q3 z hz (by omega)
   ·
    by_cases e:z=x
    · rw[e]; simpa using h
    · exact(h2 h3).2 z (by omega)
/-- how many of the n places from lo on are there -/
def cn (m:S) (lo:Nat):Nat->Nat
 | 0=>0
 | n+1=>cn m lo n+(if m (lo+n)=true then 1 else 0)
theorem cn_le (m:S) (lo:Nat):∀n,cn m lo n<=n
 | 0=>Nat.le_refl _
 | n+1=>by have:=cn_le m lo n; rw[cn]; split <;> omega
end RK
theorem before_in (k rb:Nat) (m:RK.S) (v:Value) (F:Nat->Prop) (x:Nat) (w:World) (hk:k<=3) (h:RackIs w rb k m v F) (hx:x < RK.R k) :
  Calls Tryz.prog 32 #[.pointer (some ⟨rb,0,none⟩),.int .i64 x] w fun e w'=>e=.returned (foundT (RK.bfv m x))/\Below w.heap.size w w':=by
 have HC:=Lib.hid (fun cap sb wx h hs=>check_one k rb sb cap (x:Int) wx hk h hs);have HH:=Lib.hid (fun(y:Nat) wx h hy=>has_any k (k:Int) v m F y wx rfl hk h hy);have HR:=Lib.hid h;have hrs:=blk_lt h.1;have hwk:=wrap_small (n:=k) (by omega);have hif:(if (0:Int)<=(x:Int)/\(x:Int) < RK.R k then (0:Int) else 2)=0:=if_pos ⟨by omega,by omega⟩;have hR4:=RK.R_le hk;have hx4:x < 256:=by omega
 obtain⟨T,hT⟩:∃n,foundT (RK.bfv m x)=n:=⟨_,rfl⟩
 rw[hT];have HTT:=Lib.hid hT;have HX:=Lib.hid hx;simp only[hif]at HC;clear h hif hT hx hR4;go_enter Tryz.func32,Tryz.ntmps32;go_wp2_with fail;refine(HC.out _ _ _ (row2 (blk_old HR.out.1)).1 (cell_lit _ _ _)).mono ?_;rintro e w1 ⟨rfl,rfl⟩;obtain⟨w2,h2⟩:∃wx:World,wx=w.alloc (.cells #[.int .i64 x] 3):=⟨_,rfl⟩
 rw[<-h2];have HR2:=Lib.hid (show RackIs w2 rb k m v F by rw[h2]; exact HR.out.below (by repeat (first | exact Below.refl _ _ | exact Nat.le_refl _ | refine Below.alloc ?_ ?_ _ | refine Below.setCell ?_ ?_ _ | refine Below.drew ?_ | refine bl_drewN ?_ _ | (assumption) | refine bl_call ?_ (by assumption) ?_ | omega | (simp <;> omega))));have B2:Below w.heap.size w w2:=by rw[h2]; exact(by repeat (first | exact Below.refl _ _ | exact Nat.le_refl _ | refine Below.alloc ?_ ?_ _ | refine Below.setCell ?_ ?_ _ | refine Below.drew ?_ | refine bl_drewN ?_ _ | (assumption) | refine bl_call ?_ (by assumption) ?_ | omega | (simp <;> omega)))
 have hsz2:=B2.size;clear h2;go_upto_region 5 with fail;go_loopw [7] (fun y wr=>∃j:Nat,y=.int .i64 ((j:Int)-1)/\j<=x/\Hid (∀z,j<=z->z < x->m z=false)/\Hid (RackIs wr rb k m v F)/\Below w.heap.size w wr) (fun y _=>(intOf y+1).toNat)
 case atStart=>exact⟨x,by first | rfl | (congr 1; omega) | simp,by omega,Lib.hid (fun z h1 h2=>by omega),HR2,B2⟩
 case round =>
  obtain⟨j,rfl,hj,HZ,HRr,B⟩:=hrel;have zr:=B.size;cases j with
  | zero =>
   have HN:=Lib.hid (show T=.tuple #[.int .i64 0,.int .i64 6] by
    rw[<-HTT.out,RK.bfv_none (fun z hz=>HZ.out z (by omega) hz)]; rfl)
   go_wp2_with fail;exact bodyPost_ret (v:=.tuple #[.int .i64 0,.int .i64 6]) (by simp[results,Tryz.results32,go_sem]) rfl ⟨by rw[HN.out],B⟩
  | succ i =>
   obtain⟨c0,c1⟩:=row2 HRr.out.1;have e1:((i+1:Nat):Int)-1=(i:Int):=by omega
   rw[e1];clear e1;obtain⟨M,hM⟩:∃b,m i=b:=⟨_,rfl⟩
   have HHi:=Lib.hid (fun wx h=>HH.out i wx h (by have:=HX.out; omega));rw[hM]at HHi;have HMi:=Lib.hid hM;clear hM;have hrs2:=blk_lt HRr.out.1;go_upto_region 7 with fail;refine with_act fun a0 ha0=>?_;have hsz0:a0.tmps.size=33:=by rw[ha0]; rfl
   refine wp_region_vals (W0:=wr) (by kernel_rfl) (by kernel_rfl) [(21,.pointer (some ⟨rb,0,none⟩)),(22,.pointer (some ⟨rb,0,none⟩)),(23,.pointer (some ⟨rb,1,none⟩)),(24,v),(25,.pointer (some ⟨rb,0,none⟩)),(26,.pointer (some ⟨rb,0,none⟩)),(27,.pointer (some ⟨rb,0,none⟩)),(28,.int .i64 ((k:Int)+1)),(29,.int .i64 k),(30,.int .i64 i),(31,.bool M)] rfl (by show([21,22,23,24,25,26,27,28,29,30,31]:List Nat).Nodup; decide) _ hsz0 (by kernel_rfl) (BelX.start _ _) ⟨⟨rfl,?y1v0⟩,⟨rfl,?y1v1⟩,⟨rfl,?y1v2⟩,⟨rfl,?y1v3⟩,⟨rfl,?y1v4⟩,⟨rfl,?y1v5⟩,⟨rfl,?y1v6⟩,⟨rfl,?y1v7⟩,⟨rfl,?y1v8⟩,⟨rfl,?y1v9⟩,⟨rfl,?y1v10⟩,trivial⟩ ?y1done
   case y1v0 =>
    exact mvVi rfl rfl rfl (by kernel_rfl) (by rw[ha0]; rfl)
   case y1v1 =>
    intro a' w' hA hdep hX K hK;obtain⟨r21,q21⟩:=dpv hdep ⟨0,.data⟩ (by simp) rfl rfl;clear hdep ha0 hA;refine StepG.value (wanted_none rfl) rfl ?_ (hK _ hX);simp[go_sem, *]
   case y1v2 =>
    intro a' w' hA hdep hX K hK;obtain⟨r22,q22⟩:=dpv hdep ⟨1,.data⟩ (by simp) rfl rfl;clear hdep ha0 hA;refine StepG.value (wanted_none rfl) rfl ?_ (hK _ hX);simp[go_sem, *]
   case y1v3 =>
    intro a' w' hA hdep hX K hK;obtain⟨r23,q23⟩:=dpv hdep ⟨2,.data⟩ (by simp) rfl rfl;have kc0:w'.cell? ⟨rb,0,none⟩=some (.int .i64 ((k:Int)+1)):=hX.cell (by simp) (by first | assumption | (go_simp; done) | (simp; done));have kc1:w'.cell? ⟨rb,1,none⟩=some (v):=hX.cell (by simp) (by first | assumption | (go_simp; done) | (simp; done));clear hdep ha0 hA;refine StepG.value (wanted_none rfl) rfl ?_ (hK _ hX);simp[go_sem, *]
   case y1v4 =>
    exact mvVi rfl rfl rfl (by kernel_rfl) (by rw[ha0]; rfl)
   case y1v5 =>
    intro a' w' hA hdep hX K hK;obtain⟨r25,q25⟩:=dpv hdep ⟨4,.data⟩ (by simp) rfl rfl;clear hdep ha0 hA;refine StepG.value (wanted_none rfl) rfl ?_ (hK _ hX);simp[go_sem, *]
   case y1v6 =>
    intro a' w' hA hdep hX K hK;obtain⟨r26,q26⟩:=dpv hdep ⟨5,.data⟩ (by simp) rfl rfl;clear hdep ha0 hA;refine StepG.value (wanted_none rfl) rfl ?_ (hK _ hX);simp[go_sem, *]
   case y1v7 =>
    intro a' w' hA hdep hX K hK;obtain⟨r27,q27⟩:=dpv hdep ⟨6,.data⟩ (by simp) rfl rfl;have kc0:w'.cell? ⟨rb,0,none⟩=some (.int .i64 ((k:Int)+1)):=hX.cell (by simp) (by first | assumption | (go_simp; done) | (simp; done));have kc1:w'.cell? ⟨rb,1,none⟩=some (v):=hX.cell (by simp) (by first | assumption | (go_simp; done) | (simp; done));clear hdep ha0 hA;refine StepG.value (wanted_none rfl) rfl ?_ (hK _ hX);simp[go_sem, *]
   case y1v8 =>
    intro a' w' hA hdep hX K hK;obtain⟨r28,q28⟩:=dpv hdep ⟨7,.data⟩ (by simp) rfl rfl;clear hdep ha0 hA;refine StepG.value (wanted_none rfl) rfl ?_ (hK _ hX);simp[go_sem, *]
   case y1v9 =>
    exact mvVi rfl rfl rfl (by kernel_rfl) (by rw[ha0]; rfl)
   case y1v10 =>
    intro a' w' hA hdep hX K hK;obtain⟨r24,q24⟩:=dpv hdep ⟨3,.data⟩ (by simp) rfl rfl;obtain⟨r29,q29⟩:=dpv hdep ⟨8,.data⟩ (by simp) rfl rfl;obtain⟨r30,q30⟩:=dpv hdep ⟨9,.data⟩ (by simp) rfl rfl;clear hdep ha0 hA;refine StepG.call (wanted_none rfl) rfl ?_ ((HHi.out w' (HRr.out.2.1.kept (BelP.ofX hX) (fun _ _ h=>by simp at h)))) (fun w2 hb=>hK _ (hX.call hb));simp[go_sem, *]
   intro w3 hXR;rw[ha0]; simp only[putL,Act.put,sA_,sZ_,sS_];clear ha0 hsz0;have B3:Below w.heap.size w w3:=hXR.below (by first | assumption | exact(by repeat (first | exact Below.refl _ _ | exact Nat.le_refl _ | refine Below.alloc ?_ ?_ _ | refine Below.setCell ?_ ?_ _ | refine Below.drew ?_ | refine bl_drewN ?_ _ | (assumption) | refine bl_call ?_ (by assumption) ?_ | omega | (simp <;> omega)))) (by first | omega | (simp <;> omega)) (by simp);have HR3:=Lib.hid (HRr.out.below (belX_toBelow hXR));clear hXR c0 c1;cases M with
   | true =>
    have HN:=Lib.hid (show T=.tuple #[.int .i64 i,.int .i64 0] by
     rw[<-HTT.out,RK.bfv_some HMi.out (show i < x by omega) (fun z h1 h2=>HZ.out z (by omega) h2)]; rfl)
    go_wp2_with fail;exact bodyPost_ret (v:=.tuple #[.int .i64 i,.int .i64 0]) (by simp[results,Tryz.results32,go_sem]) rfl ⟨by rw[HN.out],B3⟩
   | false =>
    go_wp2_with fail
    go_roundw
    case rel=>exact⟨i,by first | rfl | simp,by omega,Lib.hid (fun z h1 h2=>by
     by_cases e:z=i
     · rw[e]; exact HMi.out
     · exact HZ.out z (by omega) h2),HR3,B3⟩
    case measure=>simp[intOf]
theorem before_out (k rb:Nat) (m:RK.S) (v:Value) (F:Nat->Prop) (x:Int) (w:World) (hk:k<=3) (h:RackIs w rb k m v F) (hx:¬(0<=x/\x < RK.R k)) :
  Calls Tryz.prog 32 #[.pointer (some ⟨rb,0,none⟩),.int .i64 x] w fun e w'=>e=.returned (.tuple #[.int .i64 0,.int .i64 2])/\Below w.heap.size w w':=by
 have HC:=Lib.hid (fun cap sb wx h hs=>check_one k rb sb cap x wx hk h hs);have HR:=Lib.hid h;have hrs:=blk_lt h.1;simp only[if_neg hx]at HC;clear h hx;go_enter Tryz.func32,Tryz.ntmps32;go_wp2_with fail;refine(HC.out _ _ _ (row2 (blk_old HR.out.1)).1 (cell_lit _ _ _)).mono ?_;rintro e w1 ⟨rfl,rfl⟩;go_wp2_with fail;exact bodyPost_ret (v:=.tuple #[.int .i64 0,.int .i64 2]) (by simp[results,Tryz.results32,go_sem]) rfl ⟨rfl,(by repeat (first | exact Below.refl _ _ | exact Nat.le_refl _ | refine Below.alloc ?_ ?_ _ | refine Below.setCell ?_ ?_ _ | refine Below.drew ?_ | refine bl_drewN ?_ _ | (assumption) | refine bl_call ?_ (by assumption) ?_ | omega | (simp <;> omega)))⟩
theorem count_in (k rb:Nat) (m:RK.S) (v:Value) (F:Nat->Prop) (lo hi:Nat) (w:World) (hk:k<=3) (h:RackIs w rb k m v F) (hlo:lo < RK.R k) (hhi:hi < RK.R k) :
  Calls Tryz.prog 35 #[.pointer (some ⟨rb,0,none⟩),.int .i64 lo,.int .i64 hi] w fun e w'=>e=.returned (.tuple #[.int .i64 (RK.cn m lo (hi+1-lo):Nat),.int .i64 0])/\Below w.heap.size w w':=by
 have hC:=fun s wx h hs=>check_any k rb s [(lo:Int),(hi:Int)] wx hk h hs (by simp);have hif:(if ∀x∈[(lo:Int),(hi:Int)],0<=x/\x < RK.R k then (0:Int) else 2)=0:=if_pos (fun x hx=>by
  simp only[List.mem_cons,List.not_mem_nil,or_false]at hx;rcases hx with rfl | rfl <;> omega)
 simp only[hif]at hC;have HC:=Lib.hid hC;have HH:=Lib.hid (fun(y:Nat) wx h hy=>has_any k (k:Int) v m F y wx rfl hk h hy);have HR:=Lib.hid h;have hrs:=blk_lt h.1;have hwk:=wrap_small (n:=k) (by omega);have hR4:=RK.R_le hk;have hl4:lo < 256:=by omega
 have hh4:hi < 256:=by omega
 obtain⟨N,hN⟩:∃n,hi+1-lo=n:=⟨_,rfl⟩
 obtain⟨T,hT⟩:∃n,RK.cn m lo N=n:=⟨_,rfl⟩
 rw[hN,hT];have HTT:=Lib.hid hT;have HHI:=Lib.hid hhi;have HNN:=Lib.hid hN;have hcl:=RK.cn_le m lo;have HCL:=Lib.hid hcl;clear h hif hT hhi hlo hR4 hC hcl hN;go_enter Tryz.func35,Tryz.ntmps35;go_wp2_with fail;refine(HC.out _ _ (row2 (blk_old HR.out.1)).1 (LI.two (blk_new _ _))).mono ?_;rintro e w1 ⟨rfl,rfl⟩;obtain⟨w2,h2⟩:∃wx:World,wx=w.alloc (.cells #[.int .i64 lo,.int .i64 hi] 3):=⟨_,rfl⟩
 rw[<-h2];have HR2:=Lib.hid (show RackIs w2 rb k m v F by rw[h2]; exact HR.out.below (by repeat (first | exact Below.refl _ _ | exact Nat.le_refl _ | refine Below.alloc ?_ ?_ _ | refine Below.setCell ?_ ?_ _ | refine Below.drew ?_ | refine bl_drewN ?_ _ | (assumption) | refine bl_call ?_ (by assumption) ?_ | omega | (simp <;> omega))));have B2:Below w.heap.size w w2:=by rw[h2]; exact(by repeat (first | exact Below.refl _ _ | exact Nat.le_refl _ | refine Below.alloc ?_ ?_ _ | refine Below.setCell ?_ ?_ _ | refine Below.drew ?_ | refine bl_drewN ?_ _ | (assumption) | refine bl_call ?_ (by assumption) ?_ | omega | (simp <;> omega)))
 have hsz2:=B2.size;clear h2;go_upto_region 6 with fail;go_loopw [9,10] (fun n y wr=>∃(j c:Nat),y=.int .i64 ((lo+j:Nat):Int)/\n=.int .i64 c/\c<=j/\j<=N/\Hid (RK.cn m lo j=c)/\Hid (RackIs wr rb k m v F)/\Below w.heap.size w wr) (fun _ y _=>(N+lo)-(intOf y).toNat)
 case atStart=>exact⟨0,0,by simp,by simp,by omega,by omega,Lib.hid rfl,HR2,B2⟩
 case round =>
  obtain⟨j,c,rfl,rfl,hcj,hj,HCN,HRr,B⟩:=hrel;have zr:=B.size
  by_cases hjn:j < N
  ·
   have hle:lo+j<=hi:=by have:=HNN.out; omega
   obtain⟨c0,c1⟩:=row2 HRr.out.1;obtain⟨i,hi'⟩:∃i,lo+j=i:=⟨_,rfl⟩
   rw[hi']at hle;rw[hi'];obtain⟨M,hM⟩:∃b,m i=b:=⟨_,rfl⟩
   have HHi:=Lib.hid (fun wx h=>HH.out i wx h (by have:=HHI.out; omega));rw[hM]at HHi;have HIJ:=Lib.hid hi';have HMi:=Lib.hid hM;have hi4:i < 256:=by omega
   have hj4:c<=256:=by omega
   have HJN:=Lib.hid hjn;have HCJ:=Lib.hid hcj;clear hM hi' hjn hj hcj;have hrs2:=blk_lt HRr.out.1;go_upto_region 8 with fail;refine with_act fun a0 ha0=>?_;have hsz0:a0.tmps.size=39:=by rw[ha0]; rfl
   refine wp_region_vals (W0:=wr) (by kernel_rfl) (by kernel_rfl) [(25,.pointer (some ⟨rb,0,none⟩)),(26,.pointer (some ⟨rb,0,none⟩)),(27,.pointer (some ⟨rb,1,none⟩)),(28,v),(29,.pointer (some ⟨rb,0,none⟩)),(30,.pointer (some ⟨rb,0,none⟩)),(31,.pointer (some ⟨rb,0,none⟩)),(32,.int .i64 ((k:Int)+1)),(33,.int .i64 k),(34,.int .i64 i),(35,.bool M)] rfl (by show([25,26,27,28,29,30,31,32,33,34,35]:List Nat).Nodup; decide) _ hsz0 (by kernel_rfl) (BelX.start _ _) ⟨⟨rfl,?y2v0⟩,⟨rfl,?y2v1⟩,⟨rfl,?y2v2⟩,⟨rfl,?y2v3⟩,⟨rfl,?y2v4⟩,⟨rfl,?y2v5⟩,⟨rfl,?y2v6⟩,⟨rfl,?y2v7⟩,⟨rfl,?y2v8⟩,⟨rfl,?y2v9⟩,⟨rfl,?y2v10⟩,trivial⟩ ?y2done
   case y2v0 =>
    exact mvVi rfl rfl rfl (by kernel_rfl) (by rw[ha0]; rfl)
   case y2v1 =>
    intro a' w' hA hdep hX K hK;obtain⟨r25,q25⟩:=dpv hdep ⟨0,.data⟩ (by simp) rfl rfl;clear hdep ha0 hA;refine StepG.value (wanted_none rfl) rfl ?_ (hK _ hX);simp[go_sem, *]
   case y2v2 =>
    intro a' w' hA hdep hX K hK;obtain⟨r26,q26⟩:=dpv hdep ⟨1,.data⟩ (by simp) rfl rfl;clear hdep ha0 hA;refine StepG.value (wanted_none rfl) rfl ?_ (hK _ hX);simp[go_sem, *]
   case y2v3 =>
    intro a' w' hA hdep hX K hK;obtain⟨r27,q27⟩:=dpv hdep ⟨2,.data⟩ (by simp) rfl rfl;have kc0:w'.cell? ⟨rb,0,none⟩=some (.int .i64 ((k:Int)+1)):=hX.cell (by simp) (by first | assumption | (go_simp; done) | (simp; done));have kc1:w'.cell? ⟨rb,1,none⟩=some (v):=hX.cell (by simp) (by first | assumption | (go_simp; done) | (simp; done));clear hdep ha0 hA;refine StepG.value (wanted_none rfl) rfl ?_ (hK _ hX);simp[go_sem, *]
   case y2v4 =>
    exact mvVi rfl rfl rfl (by kernel_rfl) (by rw[ha0]; rfl)
   case y2v5 =>
    intro a' w' hA hdep hX K hK;obtain⟨r29,q29⟩:=dpv hdep ⟨4,.data⟩ (by simp) rfl rfl;clear hdep ha0 hA;refine StepG.value (wanted_none rfl) rfl ?_ (hK _ hX);simp[go_sem, *]
   case y2v6 =>
    intro a' w' hA hdep hX K hK;obtain⟨r30,q30⟩:=dpv hdep ⟨5,.data⟩ (by simp) rfl rfl;clear hdep ha0 hA;refine StepG.value (wanted_none rfl) rfl ?_ (hK _ hX);simp[go_sem, *]
   case y2v7 =>
    intro a' w' hA hdep hX K hK;obtain⟨r31,q31⟩:=dpv hdep ⟨6,.data⟩ (by simp) rfl rfl;have kc0:w'.cell? ⟨rb,0,none⟩=some (.int .i64 ((k:Int)+1)):=hX.cell (by simp) (by first | assumption | (go_simp; done) | (simp; done));have kc1:w'.cell? ⟨rb,1,none⟩=some (v):=hX.cell (by simp) (by first | assumption | (go_simp; done) | (simp; done));clear hdep ha0 hA;refine StepG.value (wanted_none rfl) rfl ?_ (hK _ hX);simp[go_sem, *]
   case y2v8 =>
    intro a' w' hA hdep hX K hK;obtain⟨r32,q32⟩:=dpv hdep ⟨7,.data⟩ (by simp) rfl rfl;clear hdep ha0 hA;refine StepG.value (wanted_none rfl) rfl ?_ (hK _ hX);simp[go_sem, *]
   case y2v9 =>
    exact mvVi rfl rfl rfl (by kernel_rfl) (by rw[ha0]; rfl)
   case y2v10 =>
    intro a' w' hA hdep hX K hK;obtain⟨r28,q28⟩:=dpv hdep ⟨3,.data⟩ (by simp) rfl rfl;obtain⟨r33,q33⟩:=dpv hdep ⟨8,.data⟩ (by simp) rfl rfl;obtain⟨r34,q34⟩:=dpv hdep ⟨9,.data⟩ (by simp) rfl rfl;clear hdep ha0 hA;refine StepG.call (wanted_none rfl) rfl ?_ ((HHi.out w' (HRr.out.2.1.kept (BelP.ofX hX) (fun _ _ h=>by simp at h)))) (fun w2 hb=>hK _ (hX.call hb));simp[go_sem, *]
   intro w3 hXR;rw[ha0]; simp only[putL,Act.put,sA_,sZ_,sS_];clear ha0 hsz0;have B3:Below w.heap.size w w3:=hXR.below (by first | assumption | exact(by repeat (first | exact Below.refl _ _ | exact Nat.le_refl _ | refine Below.alloc ?_ ?_ _ | refine Below.setCell ?_ ?_ _ | refine Below.drew ?_ | refine bl_drewN ?_ _ | (assumption) | refine bl_call ?_ (by assumption) ?_ | omega | (simp <;> omega)))) (by first | omega | (simp <;> omega)) (by simp);have HR3:=Lib.hid (HRr.out.below (belX_toBelow hXR));clear hXR c0 c1;cases M with
   | true =>
    go_wp2_with fail
    go_roundw
    case rel=>exact⟨j+1,c+1,by have:=HIJ.out; first | (congr 1; omega) | (simp; omega),by first | rfl | simp,by have:=HCJ.out; omega,by have:=HJN.out; omega,Lib.hid (by rw[RK.cn,HIJ.out,if_pos HMi.out,HCN.out]),HR3,B3⟩
    case measure=>have h1:=HIJ.out; have h2:=HJN.out; simp[intOf]; omega
   | false =>
    go_wp2_with fail
    go_roundw
    case rel=>exact⟨j+1,c,by have:=HIJ.out; first | (congr 1; omega) | (simp; omega),by first | rfl | simp,by have:=HCJ.out; omega,by have:=HJN.out; omega,Lib.hid (by rw[RK.cn,HIJ.out,if_neg (by rw[HMi.out]; decide),HCN.out]; rfl),HR3,B3⟩
    case measure=>have h1:=HIJ.out; have h2:=HJN.out; simp[intOf]; omega
  ·
   obtain rfl:j=N:=by omega
   have hgt:¬lo+j<=hi:=by have:=HNN.out; omega
   have HN:=Lib.hid (show c=T by rw[<-HTT.out,HCN.out]);go_wp2_with fail;exact bodyPost_ret (v:=.tuple #[.int .i64 c,.int .i64 0]) (by simp[results,Tryz.results35,go_sem]) rfl ⟨by rw[HN.out],B⟩
theorem count_out (k rb:Nat) (m:RK.S) (v:Value) (F:Nat->Prop) (x y:Int) (w:World) (hk:k<=3) (h:RackIs w rb k m v F) (hx:¬((0<=x/\x < RK.R k)/\(0<=y/\y < RK.R k))) :
  Calls Tryz.prog 35 #[.pointer (some ⟨rb,0,none⟩),.int .i64 x,.int .i64 y] w fun e w'=>e=.returned (.tuple #[.int .i64 0,.int .i64 2])/\Below w.heap.size w w':=by
 have hC:=fun s wx h hs=>check_any k rb s [x,y] wx hk h hs (by simp);have hif:(if ∀z∈[x,y],0<=z/\z < RK.R k then (0:Int) else 2)=2:=if_neg (fun hz=>hx ⟨hz x (by simp),hz y (by simp)⟩);simp only[hif]at hC;have HC:=Lib.hid hC;have HR:=Lib.hid h;have hrs:=blk_lt h.1;clear h hx hC hif;go_enter Tryz.func35,Tryz.ntmps35;go_wp2_with fail;refine(HC.out _ _ (row2 (blk_old HR.out.1)).1 (LI.two (blk_new _ _))).mono ?_;rintro e w1 ⟨rfl,rfl⟩;go_wp2_with fail;exact bodyPost_ret (v:=.tuple #[.int .i64 0,.int .i64 2]) (by simp[results,Tryz.results35,go_sem]) rfl ⟨rfl,(by repeat (first | exact Below.refl _ _ | exact Nat.le_refl _ | refine Below.alloc ?_ ?_ _ | refine Below.setCell ?_ ?_ _ | refine Below.drew ?_ | refine bl_drewN ?_ _ | (assumption) | refine bl_call ?_ (by assumption) ?_ | omega | (simp <;> omega)))⟩
end Go.Proofs.YtpnfmbeccjehiabGreatDoor
