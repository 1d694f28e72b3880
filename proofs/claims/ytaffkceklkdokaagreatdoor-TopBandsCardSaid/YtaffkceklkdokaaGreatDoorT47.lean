/- How many letters can come from each state: 2, 0, 1, 0. -/
import Derived.Test.YtaffkceklkdokaaGreatDoorTN
import Derived.Test.YtaffkceklkdokaaGreatDoorTE
set_option maxRecDepth 100000
set_option maxHeartbeats 4000000
namespace Go.Proofs.YtaffkceklkdokaaGreatDoor
open Go.RowKit Go.ChangeMaps
attribute [local go_sem ↓] Go.wp_at_zero Go.wp_at_succ
theorem run_storeF {P:Program} {w:World} {a:Addr} {m:Mode} (fn:Fn) (first captured:Array Value):(store a (.func fn first captured) m).run P w=stored P w a (.func fn first captured) m:=run_store P w a _ m rfl
attribute [local go_sem] run_storeF
theorem Env.low {W W':World} {K M V kb mb L B:Nat} (h:Env W K M V kb mb L) (hb:Below B W W') (hB:K < B/\M < B/\V < B):Env W' K M V kb mb L:=by
 have hs:=hb.size;exact⟨(hb.cell hB.1).trans h.k,(hb.cell hB.2.1).trans h.m,(hb.cell hB.2.2).trans h.v,h.ne,h.le.1,by have:=h.le; omega,by have:=h.le; omega,by have:=h.le; omega,by have:=h.le; omega⟩
abbrev NoR:Nat->Prop:=fun _=>False
/-- what the calls of the loop rely on -/
def LS (w:World) (mb gs cs gn cn:Nat) (r c:Nat->Nat) (W:World):Prop :=
 Env W (w.heap.size+1+1) w.heap.size (w.heap.size+1+1+1) (w.heap.size+1) mb w.heap.size/\(∃f,MapIs W (w.heap.size+1) f/\OKf NoR f)/\Mach W w.heap.size mb gs cs gn cn r c/\Below w.heap.size w W
theorem LS.visit {w W:World} {mb gs cs gn cn:Nat} {r c:Nat->Nat} (h:LS w mb gs cs gn cn r c W) (i:Nat) (hi:i < 4) :
  Calls Tryz.prog 139 #[.int .i64 (i:Nat),.pointer (some ⟨w.heap.size+1+1,0,none⟩),.pointer (some ⟨w.heap.size,0,none⟩),.pointer (some ⟨w.heap.size+1+1+1,0,none⟩)] W fun e W'=>e=.returned (.int .i64 (LG i))/\LS w mb gs cs gn cn r c W'/\BelX [w.heap.size+1] W W':=by
 obtain⟨hE,⟨f,hm,ok⟩,hM,hB⟩:=h;have hn:∀{j:Nat},¬NoR j:=fun h=>h;have key:Calls Tryz.prog 139 #[.int .i64 (i:Nat),.pointer (some ⟨w.heap.size+1+1,0,none⟩),.pointer (some ⟨w.heap.size,0,none⟩),.pointer (some ⟨w.heap.size+1+1+1,0,none⟩)] W fun e W'=>VPost W (w.heap.size+1) i NoR e W':=by
  rcases (by omega:i=0∨i=1∨i=2∨i=3) with rfl | rfl | rfl | rfl
  · exact visit_0 NoR hn hn hn hn _ _ _ _ _ _ _ _ _ _ r c f W hE hM hm ok
  · exact visit_1 NoR hn _ _ _ _ _ _ _ _ _ _ r c f W hE hM hm ok
  · exact visit_2 NoR hn hn _ _ _ _ _ _ _ _ _ _ r c f W hE hM hm ok
  · exact visit_3 NoR hn _ _ _ _ _ _ _ _ _ _ r c f W hE hM hm ok
 refine key.mono ?_;rintro e W' ⟨rfl,hb,f',hm',ok',-⟩;have hs:=hB.size;exact⟨rfl,⟨hE.keep hb,⟨f',hm',ok'⟩,hM.keep (fun k hk=>hb.block k (by omega) (by simp; omega)),hB.trans (belx_low hb (by omega) hs)⟩,hb⟩
theorem LS.low {w W W':World} {mb gs cs gn cn:Nat} {r c:Nat->Nat} (h:LS w mb gs cs gn cn r c W) (hb:Below (w.heap.size+1+1+1+1) W W'):LS w mb gs cs gn cn r c W':=by
 obtain⟨hE,⟨f,hm,ok⟩,hM,hB⟩:=h;exact⟨hE.low hb ⟨by omega,by omega,by omega⟩,⟨f,hm.of_block (hb.block _ (by omega)),ok⟩,hM.keep (fun k hk=>hb.block k (by omega)),hB.trans (hb.mono (by omega))⟩
def lgs:Nat->List Int
 | 0=>[] | 1=>[2] | 2=>[2,0] | 3=>[2,0,1] | _=>[2,0,1,0]
theorem longest_ok (mb gs cs gn cn:Nat) (r c:Nat->Nat) (w:World) (hMa:Mach w w.heap.size mb gs cs gn cn r c) :
  Calls Tryz.prog 114 #[.pointer (some ⟨mb,0,none⟩)] w fun e w'=>∃sv,e=.returned sv/\w'.ownsRow w.heap.size 3 1 sv 4 (iV [2,0,1,0])/\Below w.heap.size w w':=by
 have hmm:=@run_makeMap Tryz.prog;have hmf:∀(fn:Fn) (first cap:Array Value) (w:World),(Instr.makeFunc fn first cap).run Tryz.prog w=.ok (.func fn first cap) w:=fun _ _ _ _=>rfl;obtain⟨i0,hii,hy0,hy1,hy2⟩:=info_parts infoInt;have HMA:=Lib.hid hMa;clear hMa;go_enter Tryz.func114,Tryz.ntmps114;go_upto_region 3 with fail;obtain⟨W0,h0⟩:∃W0,W0=((((w.alloc (.cells #[.pointer (some ⟨mb,0,none⟩)] 177)).alloc (.map #[] 0)).alloc (.cells #[.map (some (w.heap.size+1))] 55)).alloc (.cells #[.nilFunc] 56)):=⟨_,rfl⟩
 rw[<-h0];have M0:W0.heap[w.heap.size]?=some (.cells #[.pointer (some ⟨mb,0,none⟩)] 177 (0,0)):=by rw[h0]; exact(by repeat (first | assumption | (with_reducible apply blk_set2) | (with_reducible apply blk_set1) | (with_reducible refine blk_far2 ?_ ?_; (first | omega | (simp; done) | (simp; omega))) | (with_reducible refine blk_far1 ?_ ?_; (first | omega | (simp; done) | (simp; omega))) | (with_reducible refine blk_new' _ _ ?_; (first | omega | (simp; done) | (simp; omega))) | (with_reducible refine blk_old ?_) | (with_reducible refine blk_drew ?_)))
 have P0:W0.heap[w.heap.size+1]?=some (.map #[] 0):=by rw[h0]; exact(by repeat (first | assumption | (with_reducible apply blk_set2) | (with_reducible apply blk_set1) | (with_reducible refine blk_far2 ?_ ?_; (first | omega | (simp; done) | (simp; omega))) | (with_reducible refine blk_far1 ?_ ?_; (first | omega | (simp; done) | (simp; omega))) | (with_reducible refine blk_new' _ _ ?_; (first | omega | (simp; done) | (simp; omega))) | (with_reducible refine blk_old ?_) | (with_reducible refine blk_drew ?_)))
 have K0:W0.heap[w.heap.size+1+1]?=some (.cells #[.map (some (w.heap.size+1))] 55 (0,0)):=by rw[h0]; exact(by repeat (first | assumption | (with_reducible apply blk_set2) | (with_reducible apply blk_set1) | (with_reducible refine blk_far2 ?_ ?_; (first | omega | (simp; done) | (simp; omega))) | (with_reducible refine blk_far1 ?_ ?_; (first | omega | (simp; done) | (simp; omega))) | (with_reducible refine blk_new' _ _ ?_; (first | omega | (simp; done) | (simp; omega))) | (with_reducible refine blk_old ?_) | (with_reducible refine blk_drew ?_)))
 have V0:W0.heap[w.heap.size+1+1+1]?=some (.cells #[.nilFunc] 56 (0,0)):=by rw[h0]; exact(by repeat (first | assumption | (with_reducible apply blk_set2) | (with_reducible apply blk_set1) | (with_reducible refine blk_far2 ?_ ?_; (first | omega | (simp; done) | (simp; omega))) | (with_reducible refine blk_far1 ?_ ?_; (first | omega | (simp; done) | (simp; omega))) | (with_reducible refine blk_new' _ _ ?_; (first | omega | (simp; done) | (simp; omega))) | (with_reducible refine blk_old ?_) | (with_reducible refine blk_drew ?_)))
 have B0:Below w.heap.size w W0:=by rw[h0]; exact(by repeat (first | exact Below.refl _ _ | exact Nat.le_refl _ | refine Below.alloc ?_ ?_ _ | refine Below.setCell ?_ ?_ _ | refine Below.drew ?_ | refine bl_drewN ?_ _ | (assumption) | refine bl_call ?_ (by assumption) ?_ | omega | (simp <;> omega)))
 clear h0;have v0:=row1_0 V0;have vf:=row_f V0;obtain⟨W1,h1⟩:∃W1,W1=W0.setCell ⟨w.heap.size+1+1+1,0,none⟩ (VisF (w.heap.size+1+1) w.heap.size (w.heap.size+1+1+1)):=⟨_,rfl⟩
 have V1:W1.heap[w.heap.size+1+1+1]?=some (.cells #[VisF (w.heap.size+1+1) w.heap.size (w.heap.size+1+1+1)] 56 (0,0)):=by rw[h1]; exact(blk_setI 0 _ V0).trans rfl
 have K1:W1.heap[w.heap.size+1+1]?=some (.cells #[.map (some (w.heap.size+1))] 55 (0,0)):=by rw[h1]; exact blk_farI 0 _ (by omega) K0
 have P1:W1.heap[w.heap.size+1]?=some (.map #[] 0):=by rw[h1]; exact blk_farI 0 _ (by omega) P0
 have M1:W1.heap[w.heap.size]?=some (.cells #[.pointer (some ⟨mb,0,none⟩)] 177 (0,0)):=by rw[h1]; exact blk_farI 0 _ (by omega) M0
 have B1:Below w.heap.size w W1:=by rw[h1]; exact B0.setCell (p:=⟨w.heap.size+1+1+1,0,none⟩) (by show w.heap.size<=w.heap.size+1+1+1; omega) _
 have E1:Env W1 (w.heap.size+1+1) w.heap.size (w.heap.size+1+1+1) (w.heap.size+1) mb w.heap.size:=⟨row1_0 K1,row1_0 M1,row1_0 V1,⟨by omega,by omega,by omega⟩,by omega,blk_lt P1,blk_lt K1,blk_lt M1,blk_lt V1⟩
 have MI1:MapIs W1 (w.heap.size+1) (fun _=>none):=⟨#[],0,P1,⟨by simp,by simp,by simp⟩,⟨by simp,by simp⟩⟩
 have L1:LS w mb gs cs gn cn r c W1:=⟨E1,⟨_,MI1,fun j _=>.inl rfl⟩,HMA.out.keep (fun k hk=>B1.block k hk),B1⟩
 have m0:W1.cell? ⟨mb,1,none⟩=some (.slice (some ⟨gs,0,none⟩) 4 cs):=L1.2.2.1.m1;have m1:W1.cell? ⟨w.heap.size,0,none⟩=some (.pointer (some ⟨mb,0,none⟩)):=row1_0 M1;have HL1:=Lib.hid L1;have HH1:=Lib.hid h1;clear M0 P0 K0 V0 B0 V1 K1 P1 M1 B1 E1 MI1 L1 h1;go_upto_region 5 with fail;rw[<-HH1.out];clear HH1 v0 vf HMA;go_wp2;go_loopw [14,5] (fun x v wr=>∃j:Nat,x=.int .i64 j/\j<=4/\wr.ownsRow (w.heap.size+1+1+1+1) 3 1 v (lgs j).length (iV (lgs j))/\LS w mb gs cs gn cn r c wr) (fun x _ _=>4-(intOf x).toNat)
 case atStart=>exact⟨0,rfl,by decide,World.ownsRow_nil _ _ _ _,HL1.out⟩
 case round =>
  clear HL1 m0 m1;obtain⟨j,rfl,hj,hw,hL⟩:=hrel;rcases (by omega:j=0∨j=1∨j=2∨j=3∨j=4) with rfl | rfl | rfl | rfl | rfl
  ·
   have hu:=hj;clear hu;have hE:=hL.1;have v0:=hE.v;have hle:=hE.le;have HV:=Lib.hid (hL.visit 0 (by decide));have HW:=Lib.hid hw;clear hw hL hE;go_wp2_with fail;refine HV.out.mono ?_;rintro e W2 ⟨rfl,hL2,hb2⟩;rw[show LG 0=2 from rfl];have hw2:W2.ownsRow (w.heap.size+1+1+1+1) 3 1 u5 (lgs 0).length (iV (lgs 0)):=by
    refine⟨HW.out.1,?_⟩;rcases HW.out.2 with hn | ⟨g,cap,cur,e1,e2,e3,e4⟩
    · exact .inl hn
    · exact .inr ⟨g,cap,cur,e1,e2,(hb2.block g (blk_lt e3) (by simp; omega)).trans e3,e4⟩
   have hz2:w.heap.size+1+1+1+1<=W2.heap.size:=by have:=hL2.1.le; omega
   have HW2:=Lib.hid hw2;have HL2:=Lib.hid hL2;clear hw2 hL2 hb2 v0 HV HW hle;go_wp2_with (first
    | (at_builtin; refine wpList_append_own _ rfl _ _ 22 rfl (w.heap.size+1+1+1+1) 3 i0 (.int .i64 0) 1 8 Tryz.underlying22 hii hy0 hy1 hy2 rfl (by decide) _ _ _ rfl (HW2.out.alloc _) ⟨W2.heap.size,0,none⟩ 1 1 [.int .i64 2] rfl rfl (cell_one_new _ _ _) (one_i _) (by decide) (by decide) (by simp; omega) ?_; intro v' w3 hown' hgrow3 hnil3; have hbw3:Below (w.heap.size+1+1+1+1) W2 w3:=Below.grown ((Below.refl _ W2).alloc hz2 _) hgrow3 (by simp; omega) (fun q hq=>by have:=(HW2.out.lt _ hq).1; omega); have HO:=Lib.hid hown'; have HL3:=Lib.hid (HL2.out.low hbw3); clear hown' hgrow3 hnil3 hbw3)
    | fail)
   exact⟨⟨0+1,rfl,by decide,HO.out,HL3.out⟩,by decide⟩
  ·
   have hu:=hj;clear hu;have hE:=hL.1;have v0:=hE.v;have hle:=hE.le;have HV:=Lib.hid (hL.visit 1 (by decide));have HW:=Lib.hid hw;clear hw hL hE;go_wp2_with fail;refine HV.out.mono ?_;rintro e W2 ⟨rfl,hL2,hb2⟩;rw[show LG 1=0 from rfl];have hw2:W2.ownsRow (w.heap.size+1+1+1+1) 3 1 u5 (lgs 1).length (iV (lgs 1)):=by
    refine⟨HW.out.1,?_⟩;rcases HW.out.2 with hn | ⟨g,cap,cur,e1,e2,e3,e4⟩
    · exact .inl hn
    · exact .inr ⟨g,cap,cur,e1,e2,(hb2.block g (blk_lt e3) (by simp; omega)).trans e3,e4⟩
   have hz2:w.heap.size+1+1+1+1<=W2.heap.size:=by have:=hL2.1.le; omega
   have HW2:=Lib.hid hw2;have HL2:=Lib.hid hL2;clear hw2 hL2 hb2 v0 HV HW hle;go_wp2_with (first
    | (at_builtin; refine wpList_append_own _ rfl _ _ 22 rfl (w.heap.size+1+1+1+1) 3 i0 (.int .i64 0) 1 8 Tryz.underlying22 hii hy0 hy1 hy2 rfl (by decide) _ _ _ rfl (HW2.out.alloc _) ⟨W2.heap.size,0,none⟩ 1 1 [.int .i64 0] rfl rfl (cell_one_new _ _ _) (one_i _) (by decide) (by decide) (by simp; omega) ?_; intro v' w3 hown' hgrow3 hnil3; have hbw3:Below (w.heap.size+1+1+1+1) W2 w3:=Below.grown ((Below.refl _ W2).alloc hz2 _) hgrow3 (by simp; omega) (fun q hq=>by have:=(HW2.out.lt _ hq).1; omega); have HO:=Lib.hid hown'; have HL3:=Lib.hid (HL2.out.low hbw3); clear hown' hgrow3 hnil3 hbw3)
    | fail)
   exact⟨⟨1+1,rfl,by decide,HO.out,HL3.out⟩,by decide⟩
  ·
   have hu:=hj;clear hu;have hE:=hL.1;have v0:=hE.v;have hle:=hE.le;have HV:=Lib.hid (hL.visit 2 (by decide));have HW:=Lib.hid hw;clear hw hL hE;go_wp2_with fail;refine HV.out.mono ?_;rintro e W2 ⟨rfl,hL2,hb2⟩;rw[show LG 2=1 from rfl];have hw2:W2.ownsRow (w.heap.size+1+1+1+1) 3 1 u5 (lgs 2).length (iV (lgs 2)):=by
    refine⟨HW.out.1,?_⟩;rcases HW.out.2 with hn | ⟨g,cap,cur,e1,e2,e3,e4⟩
    · exact .inl hn
    · exact .inr ⟨g,cap,cur,e1,e2,(hb2.block g (blk_lt e3) (by simp; omega)).trans e3,e4⟩
   have hz2:w.heap.size+1+1+1+1<=W2.heap.size:=by have:=hL2.1.le; omega
   have HW2:=Lib.hid hw2;have HL2:=Lib.hid hL2;clear hw2 hL2 hb2 v0 HV HW hle;go_wp2_with (first
    | (at_builtin; refine wpList_append_own _ rfl _ _ 22 rfl (w.heap.size+1+1+1+1) 3 i0 (.int .i64 0) 1 8 Tryz.underlying22 hii hy0 hy1 hy2 rfl (by decide) _ _ _ rfl (HW2.out.alloc _) ⟨W2.heap.size,0,none⟩ 1 1 [.int .i64 1] rfl rfl (cell_one_new _ _ _) (one_i _) (by decide) (by decide) (by simp; omega) ?_; intro v' w3 hown' hgrow3 hnil3; have hbw3:Below (w.heap.size+1+1+1+1) W2 w3:=Below.grown ((Below.refl _ W2).alloc hz2 _) hgrow3 (by simp; omega) (fun q hq=>by have:=(HW2.out.lt _ hq).1; omega); have HO:=Lib.hid hown'; have HL3:=Lib.hid (HL2.out.low hbw3); clear hown' hgrow3 hnil3 hbw3)
    | fail)
   exact⟨⟨2+1,rfl,by decide,HO.out,HL3.out⟩,by decide⟩
  ·
   have hu:=hj;clear hu;have hE:=hL.1;have v0:=hE.v;have hle:=hE.le;have HV:=Lib.hid (hL.visit 3 (by decide));have HW:=Lib.hid hw;clear hw hL hE;go_wp2_with fail;refine HV.out.mono ?_;rintro e W2 ⟨rfl,hL2,hb2⟩;rw[show LG 3=0 from rfl];have hw2:W2.ownsRow (w.heap.size+1+1+1+1) 3 1 u5 (lgs 3).length (iV (lgs 3)):=by
    refine⟨HW.out.1,?_⟩;rcases HW.out.2 with hn | ⟨g,cap,cur,e1,e2,e3,e4⟩
    · exact .inl hn
    · exact .inr ⟨g,cap,cur,e1,e2,(hb2.block g (blk_lt e3) (by simp; omega)).trans e3,e4⟩
   have hz2:w.heap.size+1+1+1+1<=W2.heap.size:=by have:=hL2.1.le; omega
   have HW2:=Lib.hid hw2;have HL2:=Lib.hid hL2;clear hw2 hL2 hb2 v0 HV HW hle;go_wp2_with (first
    | (at_builtin; refine wpList_append_own _ rfl _ _ 22 rfl (w.heap.size+1+1+1+1) 3 i0 (.int .i64 0) 1 8 Tryz.underlying22 hii hy0 hy1 hy2 rfl (by decide) _ _ _ rfl (HW2.out.alloc _) ⟨W2.heap.size,0,none⟩ 1 1 [.int .i64 0] rfl rfl (cell_one_new _ _ _) (one_i _) (by decide) (by decide) (by simp; omega) ?_; intro v' w3 hown' hgrow3 hnil3; have hbw3:Below (w.heap.size+1+1+1+1) W2 w3:=Below.grown ((Below.refl _ W2).alloc hz2 _) hgrow3 (by simp; omega) (fun q hq=>by have:=(HW2.out.lt _ hq).1; omega); have HO:=Lib.hid hown'; have HL3:=Lib.hid (HL2.out.low hbw3); clear hown' hgrow3 hnil3 hbw3)
    | fail)
   exact⟨⟨3+1,rfl,by decide,HO.out,HL3.out⟩,by decide⟩
  · have HL:=Lib.hid hL;have HW:=Lib.hid hw;clear hL hw;go_wp2;exact bodyPost_ret (v:=u5) (by simp[results,Tryz.results114,go_sem]) rfl ⟨u5,rfl,own_mono HW.out (by omega),HL.out.2.2.2⟩
end Go.Proofs.YtaffkceklkdokaaGreatDoor
