/- RackPlays: for every int and every sequence of calls the law returns true. -/
import Derived.Test.YtpnfmbeccjehiabGreatDoorK67
import Derived.Test.YtpnfmbeccjehiabGreatDoorK47
import Derived.Test.YtpnfmbeccjehiabGreatDoorF3
set_option maxRecDepth 100000
set_option maxHeartbeats 8000000
namespace Go.Proofs.YtpnfmbeccjehiabGreatDoor
open Go.RowKit Go.Proofs.YtpnfmbeccjehiabGreatDoorW.PrintWords Go.Proofs.YtpnfmbeccjehiabGreatDoorW.PrintLast Go.Proofs.YtpnfmbeccjehiabGreatDoorW.PrintMore
attribute [local go_sem ↓] Go.wp_at_zero Go.wp_at_succ
theorem add_by (a:Addr) (i d:Nat) (hd:d≠0):(⟨(a.add i).block,(a.add i).off+d,none⟩:Addr)=a.add (i+d):=by
 rw[<-Go.Deep.add_add];generalize a.add i=b;unfold Addr.add;rw[if_neg hd]
theorem RackPlays_walk (o:Int) (a:Value) (xs:List (Int × Int × Int)) (w:World) (ht:Tab w) (_ : -9223372036854775808<=o/\o<=9223372036854775807) (ha:CI w a xs) (_:∀x∈xs,(-9223372036854775808<=x.1/\x.1<=9223372036854775807)/\(-9223372036854775808<=x.2.1/\x.2.1<=9223372036854775807)/\-9223372036854775808<=x.2.2/\x.2.2<=9223372036854775807) :
  Calls Tryz.prog 3 #[.int .i64 o,a] w fun e w'=>e=.returned (.bool true)/\Below w.heap.size w w':=by
 have HT:=Lib.hid ht;have HO:=Lib.hid (fun wx=>refOrder o wx)
 by_cases ho:0<=o/\o<=3
 ·
  rw[decide_eq_true ho]at HO;obtain⟨k,rfl⟩:∃k:Nat,o=k:=⟨o.toNat,by omega⟩
  have hk:k<=3:=by omega
  have hR:=RK.R_le hk;obtain⟨A,c,rfl⟩:=ha.len;have HA:=Lib.hid ha;have hlen:xs.length<=9223372036854775807:=by obtain⟨_,_,_,_,h,_⟩:=ha; exact h
  obtain⟨n,hn⟩:∃n,xs.length=n:=⟨_,rfl⟩
  have HNn:=Lib.hid hn;simp only[hn]at HA hlen ⊢;have hem:RK.lst k (fun _=>false) = []:=(RK.lst_emp (fun x h=>by cases h)).2 (fun x=>rfl);have hsh:(⟨(RK.shT k (fun _=>false)).toArray⟩:ByteArray)=⟨#[45]⟩:=by rw[RK.shT_emp (fun x h=>by cases h) (fun x=>rfl)]
  have HSE:=Lib.hid (fun wx rq (h:Mine w.heap.size wx rq k (fun _=>false)) ht=>(hsh ▸ mine_shape hk h ht:Calls Tryz.prog 7 #[.pointer (some ⟨rq,0,none⟩)] wx fun e w'=>e=.returned (.string ⟨#[45]⟩)/\Below wx.heap.size wx w'));have HLE:=Lib.hid hem;clear hn ht ha ho hem hsh;go_enter Tryz.func3,Tryz.ntmps3;go_wp2_with fail;refine(pair_new (w0:=w) k hk (Below.refl _ _)).mono ?_;rintro e w1 ⟨rq,rfl,hp,B1⟩;have HP1:=Lib.hid hp;clear hp;go_wp2_with fail;refine(HO.out _).mono ?_;rintro e w2 ⟨rfl,hb⟩;have B2:Below w.heap.size w w2:=bl_call B1 hb B1.size;have HP2:=Lib.hid (HP1.out.below hb);clear hb HP1;clear HO B1;go_wp2_with fail;refine(HSE.out _ _ HP2.out.mine (HT.out.below B2)).mono ?_;rintro e w3 ⟨rfl,hb⟩;have B3:Below w.heap.size w w3:=bl_call B2 hb B2.size;have HP3:=Lib.hid (HP2.out.below hb);clear hb HP2;go_wp2_with fail;refine(mine_list hk HP3.out.mine).mono ?_;rintro e w4 ⟨l1,l2,l3,rfl,hO,hb⟩;have B4:Below w.heap.size w w4:=bl_call B3 hb B3.size;have HP4:=Lib.hid (HP3.out.below hb);obtain⟨A4,c4,e4⟩:=(LI.own hO).len;rw[zs_len,HLE.out]at e4;cases e4;clear hb hO HP3;go_wp2_with fail;refine(mine_order hk HP4.out.mine).mono ?_;rintro e w5 ⟨rfl,hb⟩;have B5:Below w.heap.size w w5:=bl_call B4 hb B4.size;have HP5:=Lib.hid (HP4.out.below hb);clear hb HP4;clear B2 B3 B4 HLE HSE;go_upto_region 9 with fail;go_loopw [6,7,8] (fun sv ok i wr=>∃(j:Nat) (M:RK.S),i=.int .i64 j/\ok=.bool true/\j<=n/\j<=200/\Hid (Pair w.heap.size wr rq k M M sv)/\Below w.heap.size w wr) (fun _ _ i _=>n-(intOf i).toNat)
  case atStart=>exact⟨0,_,(by simp),rfl,by omega,by omega,HP5,B5⟩
  case round =>
   clear HP5 B5;obtain⟨j,M,rfl,rfl,hj,hj2,HPR,B⟩:=hrel;have zr:=B.size
   by_cases hjl:j < n
   ·
    by_cases hj3:j < 200
    ·
     obtain⟨x,hx⟩:∃x,xs[j]?=some x:=⟨xs[j]'(by have:=HNn.out; omega),by have:=HNn.out; simp[show j < xs.length by omega]⟩
     obtain⟨ad,rfl,hc0,hc1,hc2⟩:=(HA.out.below B).cell hx;obtain⟨x0,x1,x2⟩:=x;rw[<-add_by ad (j * 3) 1 (by decide)]at hc1;rw[<-add_by ad (j * 3) 2 (by decide)]at hc2;dsimp only at hc0 hc1 hc2;clear hx;have HCL:=Lib.hid (called_any (w0:=w) k rq M _ x0 x1 x2 hk HPR.out B);go_wp2_with fail;refine(HCL.out).mono ?_;rintro e w5 ⟨sv5,M5,rfl,hp,B5⟩;have HP5:=Lib.hid hp;clear hp hc0 hc1 hc2 HCL;go_wp2_with fail
     go_roundw
     case rel=>exact⟨j+1,_,(by simp),rfl,by omega,by omega,HP5,B5⟩
     case measure=>simp[intOf] <;> omega
    ·
     obtain rfl:j=200:=by omega
     clear HA HNn;have HP3:=HPR;have B3:=B;clear HPR B;have hsup:=HP3.out.mine.supp;obtain⟨p1,p2,p3,rfl⟩:=own_form HP3.out.set;have hl6:(zs (RK.lst k M)).length<=1000000:=by rw[zs_len]; have:=RK.lst_len k M; omega
     obtain⟨sa,hsa⟩:∃s:ByteArray,s=⟨(RK.shT k M).toArray⟩:=⟨_,rfl⟩
     have SA:=fun wx (h:Mine w.heap.size wx rq k M) ht=>mine_shape hk h ht;rw[<-hsa]at SA;have RS:=fun sv wx h=>refShape k M sv wx hk hsup h;rw[<-hsa]at RS;have HSA:=Lib.hid SA;have HRS:=Lib.hid RS;clear SA RS hsa hsup;go_wp2_with fail;refine(mine_list hk HP3.out.mine).mono ?_;rintro e w4 ⟨l1,l2,l3,rfl,hO,hb⟩;have B4:Below w.heap.size w w4:=bl_call B3 hb B3.size;have HP4:=Lib.hid (HP3.out.below hb);have HO4:=Lib.hid (LI.own hO);clear hb hO HP3;go_wp2_with fail;refine(ints_any _ _ _ _ w4 HO4.out (LI.own HP4.out.set) hl6).mono ?_;rintro e w5 ⟨rfl,hb⟩;have B5:Below w.heap.size w w5:=bl_call B4 hb B4.size;have HP5:=Lib.hid (HP4.out.below hb);clear hb HP4;rw[decide_eq_true rfl];go_wp2_with fail;refine(HSA.out _ HP5.out.mine (HT.out.below B5)).mono ?_;rintro e w6 ⟨rfl,hb⟩;have B6:Below w.heap.size w w6:=bl_call B5 hb B5.size;have HP6:=Lib.hid (HP5.out.below hb);clear hb HP5;go_wp2_with fail;refine(HRS.out _ _ (LI.own HP6.out.set)).mono ?_;rintro e w7 ⟨rfl,hb⟩;have B7:Below w.heap.size w w7:=bl_call B6 hb B6.size;have HP7:=Lib.hid (HP6.out.below hb);clear hb HP6;go_wp2_with fail;refine(mine_order hk HP7.out.mine).mono ?_;rintro e w8 ⟨rfl,hb⟩;have B8:Below w.heap.size w w8:=bl_call B7 hb B7.size;have HP8:=Lib.hid (HP7.out.below hb);clear hb HP7;go_wp2_with fail;refine(awake_any _ (HT.out.below B8)).mono ?_;rintro e w9 ⟨rfl,hb⟩;have B9:Below w.heap.size w w9:=bl_call B8 hb B8.size;have HP9:=Lib.hid (HP8.out.below hb);clear hb HP8;go_wp2_with fail
     go_ret
     exact⟨rfl,B9⟩
   ·
    obtain rfl:j=n:=by omega
    clear HA HNn;have HP3:=HPR;have B3:=B;clear HPR B;have hsup:=HP3.out.mine.supp;obtain⟨p1,p2,p3,rfl⟩:=own_form HP3.out.set;have hl6:(zs (RK.lst k M)).length<=1000000:=by rw[zs_len]; have:=RK.lst_len k M; omega
    obtain⟨sa,hsa⟩:∃s:ByteArray,s=⟨(RK.shT k M).toArray⟩:=⟨_,rfl⟩
    have SA:=fun wx (h:Mine w.heap.size wx rq k M) ht=>mine_shape hk h ht;rw[<-hsa]at SA;have RS:=fun sv wx h=>refShape k M sv wx hk hsup h;rw[<-hsa]at RS;have HSA:=Lib.hid SA;have HRS:=Lib.hid RS;clear SA RS hsa hsup;go_wp2_with fail;refine(mine_list hk HP3.out.mine).mono ?_;rintro e w4 ⟨l1,l2,l3,rfl,hO,hb⟩;have B4:Below w.heap.size w w4:=bl_call B3 hb B3.size;have HP4:=Lib.hid (HP3.out.below hb);have HO4:=Lib.hid (LI.own hO);clear hb hO HP3;go_wp2_with fail;refine(ints_any _ _ _ _ w4 HO4.out (LI.own HP4.out.set) hl6).mono ?_;rintro e w5 ⟨rfl,hb⟩;have B5:Below w.heap.size w w5:=bl_call B4 hb B4.size;have HP5:=Lib.hid (HP4.out.below hb);clear hb HP4;rw[decide_eq_true rfl];go_wp2_with fail;refine(HSA.out _ HP5.out.mine (HT.out.below B5)).mono ?_;rintro e w6 ⟨rfl,hb⟩;have B6:Below w.heap.size w w6:=bl_call B5 hb B5.size;have HP6:=Lib.hid (HP5.out.below hb);clear hb HP5;go_wp2_with fail;refine(HRS.out _ _ (LI.own HP6.out.set)).mono ?_;rintro e w7 ⟨rfl,hb⟩;have B7:Below w.heap.size w w7:=bl_call B6 hb B6.size;have HP7:=Lib.hid (HP6.out.below hb);clear hb HP6;go_wp2_with fail;refine(mine_order hk HP7.out.mine).mono ?_;rintro e w8 ⟨rfl,hb⟩;have B8:Below w.heap.size w w8:=bl_call B7 hb B7.size;have HP8:=Lib.hid (HP7.out.below hb);clear hb HP7;go_wp2_with fail;refine(awake_any _ (HT.out.below B8)).mono ?_;rintro e w9 ⟨rfl,hb⟩;have B9:Below w.heap.size w w9:=bl_call B8 hb B8.size;have HP9:=Lib.hid (HP8.out.below hb);clear hb HP8;go_wp2_with fail
    go_ret
    exact⟨rfl,B9⟩
 ·
  rw[decide_eq_false ho]at HO;have HN:=Lib.hid (fun wx=>new_bad o wx ho);obtain⟨A,c,rfl⟩:=ha.len;clear ht ha ho;go_enter Tryz.func3,Tryz.ntmps3;go_wp2_with fail;refine(HN.out _).mono ?_;rintro e w1 ⟨rfl,rfl⟩;go_wp2_with fail;refine(HO.out _).mono ?_;rintro e w2 ⟨rfl,B2⟩;go_wp2_with fail;refine(awake_any _ (HT.out.below B2)).mono ?_;rintro e w3 ⟨rfl,hb⟩;have B3:Below w.heap.size w w3:=bl_call B2 hb B2.size;go_wp2_with fail
  go_ret
  exact⟨rfl,B3⟩
namespace rackPlays
open Go.ChangeShapes Go.WideShapes Go.ChangeAt Go.RowKit
open Go.Lib Go.Joins
theorem contract (H:Type) (enc:TypeId × Value->H) (W:World) (base:Nat) (args:Array Value) (ds gs:List (DataW H)) (before:List MemPlace)
  (hval:∀(j:Nat) t v,Tryz.f3.params[j]?=some t->args[j]?=some v->Value.okWide Tryz.prog W .any base t v)
  (hW:DataW.Whole enc Tryz.prog Tryz.f3.params.toList Rows.rackPlaysSpec.vars false W args.toList ds gs before) (hL:laidMetH Tryz.prog tabs W) :
  Calls Tryz.prog 3 args W fun e W'=>∃v,e=.returned v/\Rows.rackPlaysSpec.post enc Tryz.prog Tryz.f3 false true false false W args v W':=by
 have hW':=hW;obtain⟨p,q,hA0,hV,rfl,hfz,hnd⟩:=hW;have hA:DataW.TrodAll enc Tryz.prog W 0 (fun _=>true) true Tryz.f3.params.toList args.toList ds p:=hA0;rw[Tryz.params3]at hA hval;obtain⟨v0,vs0,d0,ds0,p0,q0,hargs,rfl,rfl,h0,r0⟩:=trodAll_cons hA;obtain⟨v1,vs1,d1,ds1,p1,q1,rfl,rfl,rfl,h1,r1⟩:=trodAll_cons r0;obtain⟨rfl,rfl,rfl⟩:=trodAll_nil r1;obtain rfl:args=#[v0,v1]:=by cases args; simp_all
 obtain⟨rfl,rfl⟩:=trodVars_none hV;obtain⟨x0,rfl,rfl,rfl,wx0⟩:=open_int Tryz.underlying3 (hval 0 3 v0 rfl rfl) h0;obtain⟨x1,li1,wx1⟩:=CI_of (hval 1 22 v1 rfl rfl) h1;have lt1:∀x∈p1,x.block < W.heap.size:=by obtain⟨fuel,hf⟩:=h1; exact DataW.trod_lt fuel _ _ _ hf
 clear hA0;try simp only[List.append_nil]at hW'
 refine(show Calls Tryz.prog 3 _ W _ from(RackPlays_walk x0 v1 x1 W (tab_of hL) (inI wx0) li1 wx1)).mono fun e W' ⟨he,hb⟩=>?_;subst he;exact⟨_,rfl,_,_,_,_,_,_,hW',trodAll_mk1 (shut_bool Tryz.underlying4 _),trodAll_cons_mk (shut_int Tryz.underlying3 wx0) (trodAll_cons_mk (Below.trod laidOut (by kernel_rfl) (of_decide_eq_true (by kernel_rfl)) h1 hb lt1) (trodAll_mk0)),rfl,hb.frame _,fun h=>by cases h⟩
theorem reads (os:Os) {H:Type} (enc:TypeId × Value->H):∃places,DataW.whole enc Tryz.prog ((laidWorld os).forCall (fun _ _=>0) ⟨#[],#[.int .i64 0,.slice none 0 0],[]⟩).memory Tryz.f3.params.toList Rows.rackPlaysSpec.vars false (#[.int .i64 0,.slice none 0 0]:Array Value).toList 8=some ([.lit (.int .i64 0),.nil],[],places) :=
 ⟨[],by kernel_rfl⟩
theorem lifted (os:Os) (started:os.Started) (H:Type) (enc:TypeId × Value->H) (F:Stop.Interp) :
  ReturnsInHanded {} Tryz.checked os 3 .any ((OpenSpec.ofChange Rows.rackPlaysSpec).preRow enc Tryz.prog Tryz.f3 Rows.rackPlaysRow.domain false Rows.rackPlaysRow.laid) (((OpenSpec.ofChange Rows.rackPlaysSpec).at F).post enc Tryz.prog Tryz.f3 false true false false):=by
 obtain⟨places,hx⟩:=reads os enc;refine returnsInHanded_of_row (C:=Tryz.checked) (s:=OpenSpec.ofChange Rows.rackPlaysSpec) own started (by kernel_rfl) Tryz.func3
  (witness_row_at (enc:=enc) (C:=Tryz.checked) false (laidWorld os) #[.int .i64 0,.slice none 0 0] rfl (by kernel_rfl) (by kernel_rfl) (by kernel_rfl)
   (OpenSpec.preRow_of_cond 8 hx (by kernel_rfl) (fun k hk=>by cases hk) (by kernel_rfl) (laid_met os _))) ?_
 intro W base args ds gs before hval hW _ _ _ hL _ _;exact contract H enc W base args ds gs before hval hW hL
theorem said:Rows.RackPlaysSaid :=
 OpenClaim.holds_of_cond 3 Tryz.f3 rfl rfl rfl rfl rfl rfl rfl ⟨rfl,rfl,rfl,rfl,rfl⟩ rfl rfl rfl rfl rfl (by kernel_rfl) Tryz.func3 (by kernel_rfl)
  (of_decide_eq_true (by kernel_rfl)) (by unfold Func.isWrapper; first | (rw[if_pos (by decide +kernel)]; kernel_rfl) | (rw[if_neg (by decide +kernel)]; exact⟨rfl,rfl⟩))
  (fun os started H enc _ F=>by rw[OpenClaim.pre_eq_preRow]; exact lifted os started H enc F)
theorem plain (f:FuncId) (fn:Func) (hf:Tryz.pinned.checked.prog.funcNamed "remould/remouldlaw07.RackPlays" = some f) (hfn:Tryz.pinned.checked.prog.funcs[f]?=some fn) :
  true=Tryz.pinned.checked.prog.looks []/\∀(j:Nat) t,fn.params[j]?=some t->Tryz.pinned.checked.prog.wantsStandIn t=false:=by
 obtain rfl:f=3:=Option.some.inj ((show Tryz.prog.funcNamed "remould/remouldlaw07.RackPlays" = some 3 by kernel_rfl).symm.trans hf) |>.symm
 obtain rfl:fn=Tryz.f3:=(Option.some.inj (Tryz.func3.symm.trans hfn)).symm;refine⟨by kernel_rfl,fun j t ht=>?_⟩;rw[Tryz.params3]at ht;have hm:t∈[3,22]:=by simpa using Array.mem_of_getElem? ht
 have hall:([3,22].all fun u=>!Tryz.prog.wantsStandIn u)=true:=by kernel_rfl
 exact(show Tryz.prog.wantsStandIn t=false by simpa using List.all_eq_true.1 hall t (by simpa using hm))
theorem card:Rows.RackPlaysCardSaid :=
 Claim7.holds_tied_plain_at .later [] _ _ _ _ said (fun _ h=>by cases h) (by kernel_rfl) (fun _ h=>by cases h) rackPlays_row_tie rfl ⟨rfl,rfl⟩ (by kernel_rfl) rfl plain (by kernel_rfl)
end rackPlays
theorem RackPlays_holds:Rows.RackPlaysCardSaid:=rackPlays.card
end Go.Proofs.YtpnfmbeccjehiabGreatDoor
