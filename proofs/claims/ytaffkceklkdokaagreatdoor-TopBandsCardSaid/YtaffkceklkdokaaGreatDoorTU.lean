/- Codes of sets; cells; spaces of up to six points. -/
import Derived.Test.YtaffkceklkdokaaGreatDoorT71
import Derived.Shelf.RegionOpenPlain
import Derived.Test.YtaffkceklkdokaaGreatDoorTE
import Derived.Test.YtaffkceklkdokaaGreatDoorZ1
set_option maxRecDepth 100000
set_option maxHeartbeats 4000000
namespace Go.Proofs.YtaffkceklkdokaaGreatDoor
open Go.RowKit Go.Shelf
attribute [local go_sem ↓] Go.wp_at_zero Go.wp_at_succ
/-- a slice of numbers lies there -/
def IntsAt (W:World) (lv:Value) (l:List Nat):Prop :=
 ∃a cap,lv=.slice a l.length cap/\(l = []∨∃b,a=some ⟨b,0,none⟩/\∀(k p:Nat),l[k]?=some p->W.cell? ⟨b,k,none⟩=some (.int .i64 (p:Nat)))
theorem IntsAt.below {W W':World} {lv:Value} {l:List Nat} (h:IntsAt W lv l) (hb:Below W.heap.size W W'):IntsAt W' lv l:=by
 obtain⟨a,cap,h1,h2⟩:=h;exact⟨a,cap,h1,h2.imp id fun⟨b,h3,h4⟩=>⟨b,h3,fun k p hk=>keepc hb (h4 k p hk)⟩⟩
theorem ply_withinT (n lo hi:Int) (h:lo<=n/\n<=hi) (w:World) :
  Calls Tryz.prog 62 #[.int .i64 n,.int .i64 lo,.int .i64 hi] w fun e w'=>e=.returned (.bool true)/\w=w':=by
 refine(ply_within n lo hi w).mono ?_;rintro e w' ⟨rfl,rfl⟩;exact⟨by simp[h.1,h.2],rfl⟩
theorem codes1N (n nb k:Nat) (hn:n<=6) (hk:k < 2 ^ n) (w:World) (h:w.cell? ⟨nb,0,none⟩=some (.int .i64 (n:Nat))):Calls Tryz.prog 67 #[.int .i64 (k:Nat),.pointer (some ⟨nb,0,none⟩)] w fun e w'=>e=.returned (.bool false)/\w=w':=by
 rcases (by omega:n=0∨n=1∨n=2∨n=3∨n=4∨n=5∨n=6) with rfl | rfl | rfl | rfl | rfl | rfl | rfl;all_goals
  simp only[Nat.reducePow]at hk;go_enter Tryz.func67,Tryz.ntmps67;go_wp2_with (first
   | (go_at_call 62; refine(ply_withinT _ _ _ (by omega) _).mono ?_; rintro e w' ⟨rfl,rfl⟩)
   | fail)
  go_ret
  exact⟨rfl,rfl⟩
theorem codesIdxN (n nb:Nat) (l:List Nat) (lv:Value) (hn:n<=6) (hm:l.length<=6) (hl:∀k∈l,k < 2 ^ n) (w:World) (h:w.cell? ⟨nb,0,none⟩=some (.int .i64 (n:Nat))) (hL:IntsAt w lv l) :
  Calls Tryz.prog 86 #[lv,.func (.func 67) #[] #[.pointer (some ⟨nb,0,none⟩)]] w fun e w'=>e=.returned (.int .i64 (-1))/\w=w':=by
 obtain⟨ad,cap,rfl,hL⟩:=hL;obtain⟨m,hml⟩:∃m,l.length=m:=⟨_,rfl⟩
 rw[hml]at hm ⊢;have HML:=Lib.hid hml;have HL:=Lib.hid hL;have HB:=Lib.hid hl;have HN:=Lib.hid h;clear hml hL hl h;go_enter Tryz.func86,Tryz.ntmps86;go_wp2;go_loopw [8] (fun x wr=>∃k:Nat,x=.int .i64 k/\k<=m/\w=wr) (fun x _=>m-(intOf x).toNat)
 case atStart=>exact⟨0,rfl,Nat.zero_le _,rfl⟩
 case round =>
  obtain⟨k,rfl,hk,rfl⟩:=hrel
  by_cases hkm:k < m
  ·
   obtain⟨p,hp⟩:∃p,l[k]?=some p:=⟨l[k]'(by rw[HML.out]; exact hkm),by simp[HML.out,hkm]⟩
   have hpb:=HB.out p (List.mem_of_getElem? hp);obtain⟨b,rfl,hcell⟩:∃b,ad=some ⟨b,0,none⟩/\∀(k p:Nat),l[k]?=some p->w.cell? ⟨b,k,none⟩=some (.int .i64 (p:Nat)):=by
    rcases HL.out with h | h
    · rw[h]at hp; simp at hp
    · exact h
   have c0:=hcell k p hp;have HC:=Lib.hid (codes1N n nb p hn hpb w HN.out);clear hcell hp hpb;go_wp2_with fail;refine HC.out.mono ?_;rintro e w' ⟨rfl,rfl⟩;clear HC c0;go_wp2;exact⟨⟨k+1,by simp,by omega,trivial⟩,by simp[intOf]; omega⟩
  ·
   go_wp2
   go_ret
   exact⟨rfl,rfl⟩
theorem codesHasN (n nb:Nat) (l:List Nat) (lv:Value) (hn:n<=6) (hm:l.length<=6) (hl:∀k∈l,k < 2 ^ n) (w:World) (h:w.cell? ⟨nb,0,none⟩=some (.int .i64 (n:Nat))) (hL:IntsAt w lv l) :
  Calls Tryz.prog 66 #[lv,.func (.func 67) #[] #[.pointer (some ⟨nb,0,none⟩)]] w fun e w'=>e=.returned (.bool false)/\w=w':=by
 have HC:=Lib.hid (codesIdxN n nb l lv hn hm hl w h hL);clear hl h hL;go_enter Tryz.func66,Tryz.ntmps66;go_wp2_with fail;refine HC.out.mono ?_;rintro e w' ⟨rfl,rfl⟩;go_wp2
 go_ret
 exact⟨rfl,rfl⟩
theorem areCodesN (n:Nat) (l:List Nat) (lv:Value) (hn:n<=6) (hm:l.length<=6) (hl:∀k∈l,k < 2 ^ n) (w:World) (hL:IntsAt w lv l) :
  Calls Tryz.prog 44 #[.int .i64 (n:Nat),lv] w fun e w'=>e=.returned (.bool true)/\Below w.heap.size w w':=by
 have hb:Below w.heap.size w (w.alloc (.cells #[.int .i64 (n:Nat)] 3)):=(Below.refl _ w).alloc (Nat.le_refl _) _;have HC:=Lib.hid (codesHasN n w.heap.size l lv hn hm hl _ (row1_0 (blk_new _ _)) (hL.below hb));clear hl hL hb;go_enter Tryz.func44,Tryz.ntmps44;go_wp2_with fail;refine HC.out.mono ?_;rintro e w' ⟨rfl,rfl⟩;go_wp2
 go_ret
 exact⟨rfl,(by repeat (first | exact Below.refl _ _ | exact Nat.le_refl _ | refine Below.alloc ?_ ?_ _ | refine Below.setCell ?_ ?_ _ | refine Below.drew ?_ | refine bl_drewN ?_ _ | (assumption) | refine bl_call ?_ (by assumption) ?_ | omega | (simp <;> omega)))⟩
/-- the cells of a list -/
def cof (l:List Nat) (p:Nat):Nat:=l.getD p 0
def cofK (l:List Nat) (k p:Nat):Nat:=if p < k then l.getD p 0 else 0
theorem cofK_set (n:Nat) (l:List Nat) {k p:Nat} (hk:k < 6) (hp:l[k]?=some p):(spc n (cofK l k)).setIfInBounds (1+k) (.int .u64 (p:Nat))=spc n (cofK l (k+1)):=by
 have e:p=l.getD k 0:=by rw[List.getD_eq_getElem?_getD,hp]; rfl
 rw[e];rcases (by omega:k=0∨k=1∨k=2∨k=3∨k=4∨k=5) with rfl | rfl | rfl | rfl | rfl | rfl <;> rfl
theorem cofK_all (n:Nat) (l:List Nat):spc n (cofK l l.length)=spc n (cof l):=by
 have e:∀p,cofK l l.length p=cof l p:=fun p=>by
  unfold cofK cof
  split
  · rfl
  · rw[List.getD_eq_getElem?_getD,List.getElem?_eq_none (by omega)];rfl
 rw[show cofK l l.length=cof l from funext e]
theorem newCellsN (l:List Nat) (lv:Value) (hm:1<=l.length/\l.length<=6) (hl:∀k∈l,k < 2 ^ l.length) (w:World) (hL:IntsAt w lv l) :
  Calls Tryz.prog 39 #[lv] w fun e w'=>e=.returned (.tuple #[.agg (spc l.length (cof l)),.bool true])/\Below w.heap.size w w':=by
 have HAR:=Lib.hid (fun W hW=>areCodesN l.length l lv hm.2 hm.2 hl W hW);have HLL:=Lib.hid hL;obtain⟨ad,cap,hlv,hL⟩:=hL;rw[hlv]at HAR HLL ⊢;have hl64:∀k∈l,k < 64:=fun k hk=>Nat.lt_of_lt_of_le (hl k hk) (Nat.le_trans (Nat.pow_le_pow_right (by decide) hm.2) (by decide));have hfin:=cofK_all l.length l;obtain⟨m,hml⟩:∃m,l.length=m:=⟨_,rfl⟩
 rw[hml]at hm hfin ⊢;simp only[hml]at HAR HLL;have HML:=Lib.hid hml;have HL:=Lib.hid hL;have HB:=Lib.hid hl64;have HFI:=Lib.hid hfin;have hRs:(spc m (cof l)).size=7:=rfl;have hZs:XZ.size=7:=rfl;have hR1:(spc m (cof l)).all (·.oneCell')=true:=by simp[spc,Value.oneCell']
 have HR1:=Lib.hid hR1;clear hR1 hml hL hl64 hfin hlv hl;go_enter Tryz.func39,Tryz.ntmps39;go_wp2_with (first
  | (go_at_call 62; refine(ply_withinT _ _ _ (by omega) _).mono ?_; rintro e w' ⟨rfl,rfl⟩)
  | fail)
 obtain⟨W0,h0⟩:∃W0,W0=(w.alloc (.cells XZ 52)).alloc (.cells (spc m (cofK l 0)) 52):=⟨_,rfl⟩
 refine Eq.mp (congrArg (fun W=>Calls Tryz.prog 44 _ W _) h0) ?_;have hZ:W0.heap[w.heap.size]?=some (.cells XZ 52 (0,0)):=by rw[h0]; exact blk_old (blk_new _ _)
 have hX:W0.heap[w.heap.size+1]?=some (.cells (spc m (cofK l 0)) 52 (0,0)):=by rw[h0]; exact blk_new' _ _ (by simp)
 have B0:Below w.heap.size w W0:=by rw[h0]; exact(by repeat (first | exact Below.refl _ _ | exact Nat.le_refl _ | refine Below.alloc ?_ ?_ _ | refine Below.setCell ?_ ?_ _ | refine Below.drew ?_ | refine bl_drewN ?_ _ | (assumption) | refine bl_call ?_ (by assumption) ?_ | omega | (simp <;> omega)))
 have HZ:=Lib.hid hZ;have HX:=Lib.hid hX;clear h0 hZ hX;refine(HAR.out W0 (HLL.out.below B0)).mono ?_;rintro e w1 ⟨rfl,hb1⟩;have B1:Below w.heap.size w w1:=bl_call B0 hb1 B0.size;have HZ1:=Lib.hid ((hb1.block _ (blk_lt HZ.out)).trans HZ.out);have HX1:=Lib.hid ((hb1.block _ (blk_lt HX.out)).trans HX.out);clear hb1 HZ HX B0 HAR HLL;go_wp2_with fail;go_loopw [24] (fun x wr=>∃k:Nat,x=.int .i64 k/\k<=m/\wr.heap[w.heap.size]?=some (.cells XZ 52 (0,0))/\wr.heap[w.heap.size+1]?=some (.cells (spc m (cofK l k)) 52 (0,0))/\Below w.heap.size w wr) (fun x _=>m-(intOf x).toNat)
 case atStart=>exact⟨0,rfl,Nat.zero_le _,HZ1.out,HX1.out,B1⟩
 case round =>
  obtain⟨k,rfl,hk,hZ,hX,B⟩:=hrel;have fX:=row_f hX;have zX:=blk_lt hX
  by_cases hkm:k < m
  ·
   obtain⟨p,hp⟩:∃p,l[k]?=some p:=⟨l[k]'(by rw[HML.out]; exact hkm),by simp[HML.out,hkm]⟩
   have hpb:=HB.out p (List.mem_of_getElem? hp);obtain⟨b,rfl,hcell⟩:∃b,ad=some ⟨b,0,none⟩/\∀(k p:Nat),l[k]?=some p->w.cell? ⟨b,k,none⟩=some (.int .i64 (p:Nat)):=by
    rcases HL.out with h | h
    · rw[h]at hp; simp at hp
    · exact h
   have c0:=keepc B (hcell k p hp);have d1:wr.cell? ⟨w.heap.size+1,1+k,none⟩=some (.int .u64 (cofK l k k:Nat)):=spc_cell hX (by omega);have hset:=cofK_set m l (k:=k) (by omega) hp;have HZ2:=Lib.hid hZ;have HX2:=Lib.hid hX;have HS:=Lib.hid hset;clear hZ hX hp hcell hset;go_wp2;exact⟨⟨k+1,by simp,by omega,blk_farI (1+k) _ (by omega) HZ2.out,(blk_setI (1+k) _ HX2.out).trans (by rw[HS.out]),(by repeat (first | exact Below.refl _ _ | exact Nat.le_refl _ | refine Below.alloc ?_ ?_ _ | refine Below.setCell ?_ ?_ _ | refine Below.drew ?_ | refine bl_drewN ?_ _ | (assumption) | refine bl_call ?_ (by assumption) ?_ | omega | (simp <;> omega)))⟩,by simp[intOf]; omega⟩
  ·
   have hke:k=m:=by omega
   rw[hke]at hX;rw[HFI.out]at hX;have HZ2:=Lib.hid hZ;have HX2:=Lib.hid hX;clear hZ hX;obtain⟨R,hR⟩:∃R,spc m (cof l)=R:=⟨_,rfl⟩
   rw[hR]at HX2 hRs HR1;have HR:=Lib.hid hR;clear hR;go_wp2_with (first
    | (refine wpList_load_row rfl 52 (.tmp 4) rfl (w.heap.size+1) rfl 52 R (0,0) _ HX2.out Tryz.underlying52 rfl (by rw[hRs]; exact sizeSpace) ?_)
    | (refine wpList_store_row rfl 52 (.tmp 2) (.tmp 35) rfl w.heap.size R rfl rfl 52 XZ HZ2.out (by rw[hRs]; exact sizeSpace) (by rw[hRs,hZs]) HR1.out ?_)
    | fail)
   exact bodyPost_ret (v:=.tuple #[.agg R,.bool true]) (results_row_tmp (p:=2) (q:=3) (ty:=52) (by kernel_rfl) _ _ w.heap.size 52 R (0,0) _ rfl (setRow_heap _ _ _ _ _ _ HZ2.out) Tryz.underlying52 rfl (by rw[hRs]; exact sizeSpace)) rfl ⟨by rw[HR.out],below_setRow B (Nat.le_refl _) _⟩
open Go.RowKit Go.Shelf
attribute [local go_sem ↓] Go.wp_at_zero Go.wp_at_succ
abbrev XLn (n c0 c1 c2 c3 c4 c5:Nat):Array Value:=#[.int .i64 (n:Nat),.int .u64 (c0:Nat),.int .u64 (c1:Nat),.int .u64 (c2:Nat),.int .u64 (c3:Nat),.int .u64 (c4:Nat),.int .u64 (c5:Nat)]
theorem spc_eq (n:Nat) (c:Nat->Nat):spc n c=XLn n (c 0) (c 1) (c 2) (c 3) (c 4) (c 5):=rfl
theorem newSpaceN (l:List Nat) (lv:Value) (hm:1<=l.length/\l.length<=6) (hl:∀k∈l,k < 2 ^ l.length) (hsp:IsSp l.length (cof l)) (w:World) (hT:BitTab6 w) (hL:IntsAt w lv l) :
  Calls Tryz.prog 16 #[lv] w fun e w'=>e=.returned (.tuple #[.agg (spc l.length (cof l)),.bool true])/\Below w.heap.size w w':=by
 have hmix:Tryz.prog.follows .mixedOrders=true:=by kernel_rfl
 have HTW:=Lib.hid hT;have HISP:=Lib.hid (fun W hW=>isSpace_gen l.length (cof l) hm hsp W hW);have HNC:=Lib.hid (newCellsN l lv hm hl (w.alloc (.cells XZ 52)) (hL.below ((Below.refl _ w).alloc (Nat.le_refl _) _)));obtain⟨n,hn⟩:∃n,l.length=n:=⟨_,rfl⟩
 rw[hn]at hm HNC HISP;rw[hn];have hxl:=spc_eq n (cof l);obtain⟨c0,h0⟩:∃c0,cof l 0=c0:=⟨_,rfl⟩
 obtain⟨c1,h1⟩:∃c1,cof l 1=c1:=⟨_,rfl⟩
 obtain⟨c2,h2⟩:∃c2,cof l 2=c2:=⟨_,rfl⟩
 obtain⟨c3,h3⟩:∃c3,cof l 3=c3:=⟨_,rfl⟩
 obtain⟨c4,h4⟩:∃c4,cof l 4=c4:=⟨_,rfl⟩
 obtain⟨c5,h5⟩:∃c5,cof l 5=c5:=⟨_,rfl⟩
 rw[h0,h1,h2,h3,h4,h5]at hxl;simp only[hxl]at HISP;rw[hxl]at HNC;have HXL:=Lib.hid hxl;clear hT hL hsp hl hxl h0 h1 h2 h3 h4 h5 hn;go_enter Tryz.func16,Tryz.ntmps16;go_wp2_with fail;refine HNC.out.mono ?_;rintro e w1 ⟨rfl,hb1⟩;have B1:Below w.heap.size w w1:=bl_call (by repeat (first | exact Below.refl _ _ | exact Nat.le_refl _ | refine Below.alloc ?_ ?_ _ | refine Below.setCell ?_ ?_ _ | refine Below.drew ?_ | refine bl_drewN ?_ _ | (assumption) | refine bl_call ?_ (by assumption) ?_ | omega | (simp <;> omega))) hb1 (by simp);have Z1:w1.heap[w.heap.size]?=some (.cells XZ 52 (0,0)):=(hb1.block _ (by simp)).trans (blk_new _ _);have HZ1:=Lib.hid Z1;clear hb1 Z1 HNC;go_upto_region 2 with fail;obtain⟨W0,h0⟩:∃W0,W0=w1.alloc (.cells (XLn n c0 c1 c2 c3 c4 c5) 52):=⟨_,rfl⟩
 rw[<-h0];have B0:Below w.heap.size w W0:=by rw[h0]; exact B1.alloc B1.size _
 have X0:W0.heap[w1.heap.size]?=some (.cells (XLn n c0 c1 c2 c3 c4 c5) 52 (0,0)):=by rw[h0]; exact blk_new _ _
 have Z0:W0.heap[w.heap.size]?=some (.cells XZ 52 (0,0)):=by rw[h0]; exact blk_old HZ1.out
 have y0:W0.cell? ⟨w1.heap.size,0,none⟩=some (.int .i64 (n:Nat)):=cell_of_row W0 _ 0 _ _ _ X0;have y1:W0.cell? ⟨w1.heap.size,1,none⟩=some (.int .u64 (c0:Nat)):=cell_of_row W0 _ 1 _ _ _ X0;have y2:W0.cell? ⟨w1.heap.size,2,none⟩=some (.int .u64 (c1:Nat)):=cell_of_row W0 _ 2 _ _ _ X0;have y3:W0.cell? ⟨w1.heap.size,3,none⟩=some (.int .u64 (c2:Nat)):=cell_of_row W0 _ 3 _ _ _ X0;have y4:W0.cell? ⟨w1.heap.size,4,none⟩=some (.int .u64 (c3:Nat)):=cell_of_row W0 _ 4 _ _ _ X0;have y5:W0.cell? ⟨w1.heap.size,5,none⟩=some (.int .u64 (c4:Nat)):=cell_of_row W0 _ 5 _ _ _ X0;have y6:W0.cell? ⟨w1.heap.size,6,none⟩=some (.int .u64 (c5:Nat)):=cell_of_row W0 _ 6 _ _ _ X0;have z0:W0.cell? ⟨w.heap.size,0,none⟩=some (.int .i64 0):=cell_of_row W0 _ 0 _ _ _ Z0;have z1:W0.cell? ⟨w.heap.size,1,none⟩=some (.int .u64 0):=cell_of_row W0 _ 1 _ _ _ Z0;have z2:W0.cell? ⟨w.heap.size,2,none⟩=some (.int .u64 0):=cell_of_row W0 _ 2 _ _ _ Z0;have z3:W0.cell? ⟨w.heap.size,3,none⟩=some (.int .u64 0):=cell_of_row W0 _ 3 _ _ _ Z0;have z4:W0.cell? ⟨w.heap.size,4,none⟩=some (.int .u64 0):=cell_of_row W0 _ 4 _ _ _ Z0;have z5:W0.cell? ⟨w.heap.size,5,none⟩=some (.int .u64 0):=cell_of_row W0 _ 5 _ _ _ Z0;have z6:W0.cell? ⟨w.heap.size,6,none⟩=some (.int .u64 0):=cell_of_row W0 _ 6 _ _ _ Z0;have zf:=row_f Z0;have HZ0:=Lib.hid Z0;have hT0:=HTW.out.below B0;have HTT:=Lib.hid hT0;have hsz0:w1.heap.size < W0.heap.size:=blk_lt X0;have hsz1:w.heap.size < w1.heap.size:=blk_lt HZ1.out;clear h0 X0 Z0 hT0 HZ1;have hIS:Calls Tryz.prog 40 #[.agg (XLn n c0 c1 c2 c3 c4 c5)] W0.drew fun e w'=>e=.returned (.bool true)/\Below W0.heap.size W0.drew w':=HISP.out W0.drew (HTT.out.keep rfl);have HIS:=Lib.hid hIS;clear hIS
 go_region_with_o (go_at_call 40; refine HIS.out.mono ?_; rintro e w2 ⟨rfl,hb2⟩; have ny0:=keepc (W:=W0.drew) hb2 y0; clear y0; have y0:=ny0; clear ny0; have ny1:=keepc (W:=W0.drew) hb2 y1; clear y1; have y1:=ny1; clear ny1; have ny2:=keepc (W:=W0.drew) hb2 y2; clear y2; have y2:=ny2; clear ny2; have ny3:=keepc (W:=W0.drew) hb2 y3; clear y3; have y3:=ny3; clear ny3; have ny4:=keepc (W:=W0.drew) hb2 y4; clear y4; have y4:=ny4; clear ny4; have ny5:=keepc (W:=W0.drew) hb2 y5; clear y5; have y5:=ny5; clear ny5; have ny6:=keepc (W:=W0.drew) hb2 y6; clear y6; have y6:=ny6; clear ny6; have nz0:=keepc (W:=W0.drew) hb2 z0; clear z0; have z0:=nz0; clear nz0; have nz1:=keepc (W:=W0.drew) hb2 z1; clear z1; have z1:=nz1; clear nz1; have nz2:=keepc (W:=W0.drew) hb2 z2; clear z2; have z2:=nz2; clear nz2; have nz3:=keepc (W:=W0.drew) hb2 z3; clear z3; have z3:=nz3; clear nz3; have nz4:=keepc (W:=W0.drew) hb2 z4; clear z4; have z4:=nz4; clear nz4; have nz5:=keepc (W:=W0.drew) hb2 z5; clear z5; have z5:=nz5; clear nz5; have nz6:=keepc (W:=W0.drew) hb2 z6; clear z6; have z6:=nz6; clear nz6; have nzf:∀o,w2.frozen? ⟨w.heap.size,o,none⟩=false:=fun o=>(hb2.frozen (by show w.heap.size < W0.heap.size; omega)).trans (zf o); clear zf; have zf:=nzf; clear nzf)
 all_goals
  have B2:Below w.heap.size w w2:=B0.trans ((show Below W0.heap.size W0 w2 from⟨hb2.os,hb2.tape,hb2.output,hb2.size,hb2.block⟩).mono (by omega));have Z2:=Lib.hid (((show Below W0.heap.size W0 w2 from⟨hb2.os,hb2.tape,hb2.output,hb2.size,hb2.block⟩).block _ (blk_lt HZ0.out)).trans HZ0.out);clear hb2 y0 y1 y2 y3 y4 y5 y6 z0 z1 z2 z3 z4 z5 z6 zf;go_wp2;exact bodyPost_ret (v:=.tuple #[(.agg (XLn n c0 c1 c2 c3 c4 c5)),.bool true]) (results_row_tmp (p:=2) (q:=3) (ty:=52) (by kernel_rfl) _ _ w.heap.size 52 (XLn n c0 c1 c2 c3 c4 c5) (0,0) _ rfl (set7 Z2.out) Tryz.underlying52 rfl sizeSpace) rfl ⟨by rw[HXL.out],bel7 B2 (Nat.le_refl _)⟩
open Go.RowKit Go.Shelf
attribute [local go_sem ↓] Go.wp_at_zero Go.wp_at_succ
theorem cellsAt (b k:Nat) (hk:k<=6) (w:World):(Instr.sliceAt 50 (.pointer (some ⟨b,1,none⟩)) none (some (.int .i64 (k:Nat))) none).run Tryz.prog w=.ok (.slice (some ⟨b,1,none⟩) k 6) w:=by
 have hl:Tryz.prog.arrayLen 50=6:=by kernel_rfl
 have h:=run_sliceAt_array_h (P:=Tryz.prog) w 50 ⟨b,1,none⟩ (by kernel_rfl) .i64 (k:Nat) (by omega) (by rw[hl]; omega);rw[hl]at h;refine h.trans ?_;have hs:(sizeOf (Tryz.prog.elem 50)).run Tryz.prog w=.ok 1 w:=by kernel_rfl
 rw[hs];simp[Result.andThen,slicedAt];rfl
theorem plIdx (gb n m cap v:Nat) (c:Nat->Nat) (hm:m<=6) (hne:∀j,j < m->c j≠v) (w:World) (hX:w.heap[gb]?=some (.cells (spc n c) 52 (0,0))) :
  Calls Tryz.prog 63 #[.slice (some ⟨gb,1,none⟩) m cap,.int .u64 (v:Nat)] w fun e w'=>e=.returned (.int .i64 (-1))/\w=w':=by
 have HNE:=Lib.hid hne;have HX:=Lib.hid hX;clear hne hX;go_enter Tryz.func63,Tryz.ntmps63;go_wp2;go_loopw [8] (fun x wr=>∃k:Nat,x=.int .i64 k/\k<=m/\w=wr) (fun x _=>m-(intOf x).toNat)
 case atStart=>exact⟨0,rfl,Nat.zero_le _,rfl⟩
 case round =>
  obtain⟨k,rfl,hk,rfl⟩:=hrel
  by_cases hkm:k < m
  ·
   have c0:w.cell? ⟨gb,1+k,none⟩=some (.int .u64 (c k:Nat)):=spc_cell HX.out (by omega);have hn:=HNE.out k hkm;obtain⟨ck,hck⟩:∃ck,c k=ck:=⟨_,rfl⟩
   rw[hck]at c0 hn;have hn1:((v:Int) == (ck:Int))=false:=by simp; omega
   clear hck hn;go_wp2;exact⟨⟨k+1,by simp,by omega,trivial⟩,by simp[intOf]; omega⟩
  ·
   go_wp2
   go_ret
   exact⟨rfl,rfl⟩
theorem plHas (gb n m cap v:Nat) (c:Nat->Nat) (hm:m<=6) (hne:∀j,j < m->c j≠v) (w:World) (hX:w.heap[gb]?=some (.cells (spc n c) 52 (0,0))) :
  Calls Tryz.prog 41 #[.slice (some ⟨gb,1,none⟩) m cap,.int .u64 (v:Nat)] w fun e w'=>e=.returned (.bool false)/\Below w.heap.size w w':=by
 have HC:=Lib.hid (plIdx gb n m cap v c hm hne w hX);clear hne hX;go_enter Tryz.func41,Tryz.ntmps41;go_wp2_with fail;refine HC.out.mono ?_;rintro e w' ⟨rfl,rfl⟩;go_wp2
 go_ret
 exact⟨rfl,Below.refl _ _⟩
theorem isPlainN (n:Nat) (c:Nat->Nat) (hn:n<=6) (hpl:∀p,p < n->∀j,j < p->c j≠c p) (w:World) :
  Calls Tryz.prog 17 #[.agg (spc n c)] w fun e w'=>e=.returned (.bool true)/\Below w.heap.size w w':=by
 have hmix:Tryz.prog.follows .mixedOrders=true:=by kernel_rfl
 have HPL:=Lib.hid hpl;have hxl:=spc_eq n c;obtain⟨c0,h0⟩:∃c0,c 0=c0:=⟨_,rfl⟩
 obtain⟨c1,h1⟩:∃c1,c 1=c1:=⟨_,rfl⟩
 obtain⟨c2,h2⟩:∃c2,c 2=c2:=⟨_,rfl⟩
 obtain⟨c3,h3⟩:∃c3,c 3=c3:=⟨_,rfl⟩
 obtain⟨c4,h4⟩:∃c4,c 4=c4:=⟨_,rfl⟩
 obtain⟨c5,h5⟩:∃c5,c 5=c5:=⟨_,rfl⟩
 rw[h0,h1,h2,h3,h4,h5]at hxl;rw[hxl];have HXL:=Lib.hid hxl;clear hpl hxl h0 h1 h2 h3 h4 h5;go_enter Tryz.func17,Tryz.ntmps17;go_wp2_with fail;go_loopw [6] (fun x wr=>∃k:Nat,x=.int .i64 k/\k<=n/\wr.heap[w.heap.size]?=some (.cells (spc n c) 52 (0,0))/\Below w.heap.size w wr) (fun x _=>n-(intOf x).toNat)
 case atStart=>exact⟨0,rfl,Nat.zero_le _,by rw[HXL.out]; exact(by repeat (first | assumption | (with_reducible apply blk_set2) | (with_reducible apply blk_set1) | (with_reducible refine blk_far2 ?_ ?_; (first | omega | (simp; done) | (simp; omega))) | (with_reducible refine blk_far1 ?_ ?_; (first | omega | (simp; done) | (simp; omega))) | (with_reducible refine blk_new' _ _ ?_; (first | omega | (simp; done) | (simp; omega))) | (with_reducible refine blk_old ?_) | (with_reducible refine blk_drew ?_))),(by repeat (first | exact Below.refl _ _ | exact Nat.le_refl _ | refine Below.alloc ?_ ?_ _ | refine Below.setCell ?_ ?_ _ | refine Below.drew ?_ | refine bl_drewN ?_ _ | (assumption) | refine bl_call ?_ (by assumption) ?_ | omega | (simp <;> omega)))⟩
 case round =>
  obtain⟨k,rfl,hk,hX,B⟩:=hrel;have x0:wr.cell? ⟨w.heap.size,0,none⟩=some (.int .i64 (n:Nat)):=cell_of_row wr _ 0 _ _ _ hX;have HX:=Lib.hid hX;have hszr:=blk_lt hX
  by_cases hkn:k < n
  ·
   have xk:wr.cell? ⟨w.heap.size,1+k,none⟩=some (.int .u64 (c k:Nat)):=spc_cell hX (by omega);clear hX;go_upto_region 4 with fail;have HC:=Lib.hid (fun wx hx=>plHas w.heap.size n k 6 (c k) c (by omega) (HPL.out k hkn) wx hx);obtain⟨ck,hck⟩:∃ck,c k=ck:=⟨_,rfl⟩
   simp only[hck]at HC;rw[hck]at xk;have b6k:¬(6:Int)<=(k:Int):=by omega
   have hsl:=fun wx=>cellsAt w.heap.size k (by omega) wx;clear hck;refine with_act fun a0 ha0=>?_;have hsz0:a0.tmps.size=18:=by rw[ha0]; rfl
   refine wp_region_vals (W0:=wr) (by kernel_rfl) (by kernel_rfl) [(9,.pointer (some ⟨w.heap.size,1,none⟩)),(10,.int .i64 (k:Nat)),(11,.slice (some ⟨w.heap.size,1,none⟩) k 6),(12,.int .i64 (k:Nat)),(13,.pointer (some ⟨w.heap.size,1,none⟩)),(14,.pointer (some ⟨w.heap.size,1+k,none⟩)),(15,.int .u64 (ck:Nat)),(16,.bool false)] rfl (by show([9,10,11,12,13,14,15,16]:List Nat).Nodup; decide) _ hsz0 (by kernel_rfl) (BelX.start _ _) ⟨⟨rfl,?y1v0⟩,⟨rfl,?y1v1⟩,⟨rfl,?y1v2⟩,⟨rfl,?y1v3⟩,⟨rfl,?y1v4⟩,⟨rfl,?y1v5⟩,⟨rfl,?y1v6⟩,⟨rfl,?y1v7⟩,trivial⟩ ?y1done
   case y1v0 =>
    intro a' w' hA hdep hX K hK;obtain⟨r1,q1⟩:=dpi hA 1 (.pointer (some ⟨w.heap.size,0,none⟩)) (by kernel_rfl) (by rw[ha0]; rfl);clear hdep ha0 hA;refine StepG.value (wanted_none rfl) rfl ?_ (hK _ hX);simp[go_sem, *]
   case y1v1 =>
    exact mvVi rfl rfl rfl (by kernel_rfl) (by rw[ha0]; rfl)
   case y1v2 =>
    intro a' w' hA hdep hX K hK;obtain⟨r9,q9⟩:=dpv hdep ⟨0,.data⟩ (by simp) rfl rfl;obtain⟨r10,q10⟩:=dpv hdep ⟨1,.data⟩ (by simp) rfl rfl;clear hdep ha0 hA;refine StepG.value (wanted_none rfl) rfl ?_ (hK _ hX);simp[go_sem, *]
   case y1v3 =>
    exact mvVi rfl rfl rfl (by kernel_rfl) (by rw[ha0]; rfl)
   case y1v4 =>
    intro a' w' hA hdep hX K hK;obtain⟨r1,q1⟩:=dpi hA 1 (.pointer (some ⟨w.heap.size,0,none⟩)) (by kernel_rfl) (by rw[ha0]; rfl);clear hdep ha0 hA;refine StepG.value (wanted_none rfl) rfl ?_ (hK _ hX);simp[go_sem, *]
   case y1v5 =>
    intro a' w' hA hdep hX K hK;obtain⟨r13,q13⟩:=dpv hdep ⟨4,.data⟩ (by simp) rfl rfl;obtain⟨r12,q12⟩:=dpv hdep ⟨3,.data⟩ (by simp) rfl rfl;clear hdep ha0 hA;refine StepG.value (wanted_none rfl) rfl ?_ (hK _ hX);simp[go_sem, *]
   case y1v6 =>
    intro a' w' hA hdep hX K hK;obtain⟨r14,q14⟩:=dpv hdep ⟨5,.data⟩ (by simp) rfl rfl;have kc0:w'.cell? ⟨w.heap.size,1+k,none⟩=some (.int .u64 (ck:Nat)):=hX.cell (by simp) (by first | assumption | (go_simp; done) | (simp; done));clear hdep ha0 hA;refine StepG.value (wanted_none rfl) rfl ?_ (hK _ hX);simp[go_sem, *]
   case y1v7 =>
    intro a' w' hA hdep hX K hK;obtain⟨r11,q11⟩:=dpv hdep ⟨2,.data⟩ (by simp) rfl rfl;obtain⟨r15,q15⟩:=dpv hdep ⟨6,.data⟩ (by simp) rfl rfl;clear hdep ha0 hA;refine StepG.call (wanted_none rfl) rfl ?_ ((HC.out _ ((hX.block _ hszr (by simp)).trans HX.out))) (fun w2 hb=>hK _ (hX.call hb));simp[go_sem, *]
   intro w1 hXR;rw[ha0]; simp only[putL,Act.put,sA_,sZ_,sS_];clear ha0 hsz0;have B1:Below w.heap.size w w1:=hXR.below B (by omega) (by simp);have HX1:=Lib.hid ((hXR.block _ hszr (by simp)).trans HX.out);clear hXR x0 xk;go_wp2;exact⟨⟨k+1,by simp,by omega,HX1.out,B1⟩,by simp[intOf]; omega⟩
  ·
   clear hX;go_wp2
   go_ret
   exact⟨rfl,B⟩
open Go.RowKit Go.Shelf
attribute [local go_sem ↓] Go.wp_at_zero Go.wp_at_succ
/-- the points in whose cells a point lies, of the first q -/
def rowN (c:Nat->Nat) (p:Nat):Nat->Nat
 | 0=>0
 | q+1=>rowN c p q+(if hasb (c q) p then 2 ^ q else 0)
theorem rowN_lt (c:Nat->Nat) (p:Nat):∀q,rowN c p q < 2 ^ q
 | 0=>by simp[rowN]
 | q+1=>by
  have h:=rowN_lt c p q;unfold rowN;rw[Nat.pow_succ]
  split <;> omega
theorem or_pow {x q:Nat} (hq:q < 6) (hx:x < 2 ^ q):bits BinOp.or IntKind.u64 (x:Int) ((2 ^ q:Nat):Int)=((x+2 ^ q:Nat):Int):=by
 have h:=fin64 (p:=fun x=>(List.range 6).all fun q=>!decide (x < 2 ^ q) || decide (bits BinOp.or IntKind.u64 (x:Int) ((2 ^ q:Nat):Int)=((x+2 ^ q:Nat):Int))) (by kernel_rfl) (x:=x) (Nat.lt_of_lt_of_le hx (Nat.le_trans (Nat.pow_le_pow_right (by decide) (show q<=6 by omega)) (by decide)));have h2:=List.all_eq_true.1 h q (List.mem_range.2 hq)
 simpa[hx]using h2
theorem spc_set (n:Nat) (f:Nat->Nat) {k:Nat} (v:Nat) (hk:k < 6):(spc n f).setIfInBounds (1+k) (.int .u64 (v:Nat))=spc n (fun i=>if i=k then v else f i):=by
 rcases (by omega:k=0∨k=1∨k=2∨k=3∨k=4∨k=5) with rfl | rfl | rfl | rfl | rfl | rfl <;> rfl
def outF (n:Nat) (c:Nat->Nat) (p q:Nat):Nat->Nat:=fun i=>if i < p then rowN c i n else if i=p then rowN c p q else 0
/-- the space turned -/
def turnF (n:Nat) (c:Nat->Nat):Nat->Nat:=fun i=>if i < n then rowN c i n else 0
theorem outF_at (n:Nat) (c:Nat->Nat) (p q:Nat):outF n c p q p=rowN c p q:=by simp[outF]
theorem outF_yes (n:Nat) (c:Nat->Nat) (p q:Nat) (h:hasb (c q) p=true):(fun i=>if i=p then rowN c p q+2 ^ q else outF n c p q i)=outF n c p (q+1):=by
 funext i
 unfold outF
 by_cases h1:i=p
 · subst h1; simp[rowN,h]
 · simp[h1]
theorem outF_no (n:Nat) (c:Nat->Nat) (p q:Nat) (h:hasb (c q) p=false):outF n c p q=outF n c p (q+1):=by
 funext i
 unfold outF;simp[rowN,h]
theorem outF_next (n:Nat) (c:Nat->Nat) (p:Nat):outF n c p n=outF n c (p+1) 0:=by
 funext i
 unfold outF;simp only[rowN]
 by_cases h1:i < p
 · simp[h1,Nat.lt_succ_of_lt h1]
 ·
  by_cases h2:i=p
  · subst h2; simp
  ·
   have h3:¬i < p+1:=by omega
   simp[h1,h2,h3]
theorem outF_end (n:Nat) (c:Nat->Nat):outF n c n 0=turnF n c:=by
 funext i
 unfold outF turnF;simp[rowN]
theorem outF_start (n:Nat) (c:Nat->Nat):outF n c 0 0=fun _=>0:=by
 funext i
 unfold outF;simp[rowN]
theorem turnedN (n:Nat) (c:Nat->Nat) (hn:n<=6) (hc:∀p,p < n->c p < 64) (w:World) :
  Calls Tryz.prog 21 #[.agg (spc n c)] w fun e w'=>e=.returned (.agg (spc n (turnF n c)))/\Below w.heap.size w w':=by
 have hmix:Tryz.prog.follows .mixedOrders=true:=by kernel_rfl
 have HC:=Lib.hid hc;have hxl:=spc_eq n c;obtain⟨c0,h0⟩:∃c0,c 0=c0:=⟨_,rfl⟩
 obtain⟨c1,h1⟩:∃c1,c 1=c1:=⟨_,rfl⟩
 obtain⟨c2,h2⟩:∃c2,c 2=c2:=⟨_,rfl⟩
 obtain⟨c3,h3⟩:∃c3,c 3=c3:=⟨_,rfl⟩
 obtain⟨c4,h4⟩:∃c4,c 4=c4:=⟨_,rfl⟩
 obtain⟨c5,h5⟩:∃c5,c 5=c5:=⟨_,rfl⟩
 rw[h0,h1,h2,h3,h4,h5]at hxl;rw[hxl];have HXL:=Lib.hid hxl;clear hc hxl h0 h1 h2 h3 h4 h5;go_enter Tryz.func21,Tryz.ntmps21;go_wp2_with fail;go_loopw [11] (fun x wr=>∃k:Nat,x=.int .i64 k/\k<=n/\wr.heap[w.heap.size]?=some (.cells (spc n c) 52 (0,0))/\wr.heap[w.heap.size+1]?=some (.cells XZ 52 (0,0))/\wr.heap[w.heap.size+1+1]?=some (.cells (spc n (outF n c k 0)) 52 (0,0))/\Below w.heap.size w wr) (fun x _=>n-(intOf x).toNat)
 case atStart =>
  refine⟨0,rfl,Nat.zero_le _,by rw[HXL.out]; exact(by repeat (first | assumption | (with_reducible apply blk_set2) | (with_reducible apply blk_set1) | (with_reducible refine blk_far2 ?_ ?_; (first | omega | (simp; done) | (simp; omega))) | (with_reducible refine blk_far1 ?_ ?_; (first | omega | (simp; done) | (simp; omega))) | (with_reducible refine blk_new' _ _ ?_; (first | omega | (simp; done) | (simp; omega))) | (with_reducible refine blk_old ?_) | (with_reducible refine blk_drew ?_))),blk_old (blk_new' _ _ (by simp)),?_,(by repeat (first | exact Below.refl _ _ | exact Nat.le_refl _ | refine Below.alloc ?_ ?_ _ | refine Below.setCell ?_ ?_ _ | refine Below.drew ?_ | refine bl_drewN ?_ _ | (assumption) | refine bl_call ?_ (by assumption) ?_ | omega | (simp <;> omega)))⟩;rw[outF_start];exact blk_new' _ _ (by simp)
 case round =>
  obtain⟨k,rfl,hk,hX,hZ,hO,B⟩:=hrel;have x0:wr.cell? ⟨w.heap.size,0,none⟩=some (.int .i64 (n:Nat)):=cell_of_row wr _ 0 _ _ _ hX;have HX:=Lib.hid hX;have HZ:=Lib.hid hZ;have HO:=Lib.hid hO;clear hX hZ hO
  by_cases hkn:k < n
  ·
   go_wp2_with fail;go_loopw [16] (fun y wr=>∃q:Nat,y=.int .i64 q/\q<=n/\wr.heap[w.heap.size]?=some (.cells (spc n c) 52 (0,0))/\wr.heap[w.heap.size+1]?=some (.cells XZ 52 (0,0))/\wr.heap[w.heap.size+1+1]?=some (.cells (spc n (outF n c k q)) 52 (0,0))/\Below w.heap.size w wr) (fun y _=>n-(intOf y).toNat)
   case atStart=>exact⟨0,rfl,Nat.zero_le _,HX.out,HZ.out,HO.out,B⟩
   case round =>
    clear x0 HX HZ HO B;obtain⟨q,rfl,hq,hX,hZ,hO,B⟩:=hrel;have x0:wr.cell? ⟨w.heap.size,0,none⟩=some (.int .i64 (n:Nat)):=cell_of_row wr _ 0 _ _ _ hX
    by_cases hqn:q < n
    ·
     have xq:wr.cell? ⟨w.heap.size,1+q,none⟩=some (.int .u64 (c q:Nat)):=spc_cell hX (by omega);have ok:wr.cell? ⟨w.heap.size+1+1,1+k,none⟩=some (.int .u64 (outF n c k q k:Nat)):=spc_cell hO (by omega);rw[outF_at]at ok;have of:=row_f hO;have hor:=or_pow (x:=rowN c k q) (q:=q) (by omega) (rowN_lt c k q);have hsh:IntKind.u64.wrap ((2:Int) ^ q)=((2 ^ q:Nat):Int):=by
      have e:((2:Int) ^ q)=((2 ^ q:Nat):Int):=by simp
      have h64:2 ^ q<=64:=Nat.le_trans (Nat.pow_le_pow_right (by decide) (show q<=6 by omega)) (by decide);rw[e];generalize 2 ^ q=Q at h64;exact IntWalk.u64_in _ (by omega)
     have hyes:=outF_yes n c k q;have hno:=outF_no n c k q;have hset:=spc_set n (outF n c k q) (k:=k) (rowN c k q+2 ^ q) (by omega);obtain⟨Q,hQ⟩:∃Q,2 ^ q=Q:=⟨_,rfl⟩
     obtain⟨o,ho⟩:∃o,rowN c k q=o:=⟨_,rfl⟩
     have hck:=HC.out q hqn;rw[hQ]at hor hsh hyes hset;rw[ho]at hor ok hyes hset;have hszr:=blk_lt hO;have HX:=Lib.hid hX;have HZ:=Lib.hid hZ;have HO:=Lib.hid hO;have HOR:=Lib.hid hor;have HSH:=Lib.hid hsh;have HYES:=Lib.hid hyes;have HNO:=Lib.hid hno;have HSET:=Lib.hid hset;have HOK:=Lib.hid ok;clear hX hZ hO hor hsh hyes hno hset hQ ho ok;go_wp2_with fail;refine(hasN (c q) k hck (by omega) _).mono ?_;rintro e w' ⟨rfl,rfl⟩;cases hb:hasb (c q) k
     · have HF:=Lib.hid (HNO.out hb);clear hb;go_wp2;exact⟨⟨q+1,by simp,by omega,HX.out,HZ.out,by rw[<-HF.out]; exact HO.out,B⟩,by simp[intOf]; omega⟩
     ·
      have HF:=Lib.hid (HYES.out hb);have ok:=HOK.out;have hor:=HOR.out;have hsh:=HSH.out;have b6k:¬(6:Int)<=(k:Int):=by omega
      clear hb;go_upto_region 9 with fail;refine with_act fun a0 ha0=>?_;have hsz0:a0.tmps.size=37:=by rw[ha0]; rfl
      refine wp_region_call1 (by kernel_rfl) (by kernel_rfl) [(25,.int .i64 (k:Nat)),(26,.pointer (some ⟨w.heap.size+1+1,1,none⟩)),(27,.pointer (some ⟨w.heap.size+1+1,1+k,none⟩)),(28,.int .u64 (o:Nat)),(29,.int .i64 (q:Nat)),(30,.int .u64 (Q:Nat)),(31,.int .u64 (o+Q:Nat)),(32,.pointer (some ⟨w.heap.size+1+1,1,none⟩)),(33,.pointer (some ⟨w.heap.size+1+1,1+k,none⟩))] 8 33 (.pointer (some ⟨w.heap.size+1+1,1+k,none⟩)) _ rfl rfl rfl (by kernel_rfl) rfl (by show([25,26,27,28,29,30,31,32,33]:List Nat).Nodup; decide) _ hsz0 (by kernel_rfl) (fun wx:World=>wx.cell? ⟨w.heap.size+1+1,1+k,none⟩=some (.int .u64 (o:Nat))/\True) (fun(y:Value) (w':World)=>y=.pointer (some ⟨w.heap.size+1+1,1+k,none⟩)/\w'=wr.drew) ⟨(by first | assumption | exact(show wr.cell? ⟨w.heap.size+1+1,1+k,none⟩=some (.int .u64 (o:Nat)) from by assumption)),trivial⟩ ?z1keep ⟨⟨rfl,?z1v0⟩,⟨rfl,?z1v1⟩,⟨rfl,?z1v2⟩,⟨rfl,?z1v3⟩,⟨rfl,?z1v4⟩,⟨rfl,?z1v5⟩,⟨rfl,?z1v6⟩,⟨rfl,?z1v7⟩,⟨rfl,?z1v8⟩,trivial⟩ ?z1done
      case z1keep=>exact(fun y w' h=>by obtain⟨-,rfl⟩:=h; exact⟨(by first | assumption | exact(show wr.cell? ⟨w.heap.size+1+1,1+k,none⟩=some (.int .u64 (o:Nat)) from by assumption)),trivial⟩)
      case z1v0 =>
       exact mvCi (by decide) rfl rfl rfl (by kernel_rfl) (by rw[ha0]; rfl)
      case z1v1 =>
       rw[if_neg (by decide)];intro a' w' hA hdep hS K hK;obtain⟨r3,q3⟩:=dpi hA 3 (.pointer (some ⟨w.heap.size+1+1,0,none⟩)) (by kernel_rfl) (by rw[ha0]; rfl);clear hdep ha0 hA;refine StepG.value (wanted_none rfl) rfl ?_ hK;simp[go_sem, *]
      case z1v2 =>
       rw[if_neg (by decide)];intro a' w' hA hdep hS K hK;obtain⟨r26,q26⟩:=dpc hdep ⟨1,.data⟩ (by simp) (by decide) rfl rfl;obtain⟨r25,q25⟩:=dpc hdep ⟨0,.data⟩ (by simp) (by decide) rfl rfl;clear hdep ha0 hA;refine StepG.value (wanted_none rfl) rfl ?_ hK;simp[go_sem, *]
      case z1v3 =>
       rw[if_neg (by decide)];intro a' w' hA hdep hS K hK;obtain⟨r27,q27⟩:=dpc hdep ⟨2,.data⟩ (by simp) (by decide) rfl rfl;obtain⟨kc0,_⟩:=hS;clear hdep ha0 hA;refine StepG.value (wanted_none rfl) rfl ?_ hK;simp[go_sem, *]
      case z1v4 =>
       exact mvCi (by decide) rfl rfl rfl (by kernel_rfl) (by rw[ha0]; rfl)
      case z1v5 =>
       rw[if_neg (by decide)];intro a' w' hA hdep hS K hK;obtain⟨r29,q29⟩:=dpc hdep ⟨4,.data⟩ (by simp) (by decide) rfl rfl;clear hdep ha0 hA;refine StepG.value (wanted_none rfl) rfl ?_ hK;simp[go_sem, *]
      case z1v6 =>
       rw[if_neg (by decide)];intro a' w' hA hdep hS K hK;obtain⟨r28,q28⟩:=dpc hdep ⟨3,.data⟩ (by simp) (by decide) rfl rfl;obtain⟨r30,q30⟩:=dpc hdep ⟨5,.data⟩ (by simp) (by decide) rfl rfl;clear hdep ha0 hA;refine StepG.value (wanted_none rfl) rfl ?_ hK;simp[go_sem, *]
      case z1v7 =>
       rw[if_neg (by decide)];intro a' w' hA hdep hS K hK;obtain⟨r3,q3⟩:=dpi hA 3 (.pointer (some ⟨w.heap.size+1+1,0,none⟩)) (by kernel_rfl) (by rw[ha0]; rfl);clear hdep ha0 hA;refine StepG.value (wanted_none rfl) rfl ?_ hK;simp[go_sem, *]
      case z1v8 =>
       rw[if_pos rfl];intro a' hA hdep K hK;obtain⟨r32,q32⟩:=dpc hdep ⟨7,.data⟩ (by simp) (by decide) rfl rfl;obtain⟨r25,q25⟩:=dpc hdep ⟨0,.data⟩ (by simp) (by decide) rfl rfl;clear hdep ha0 hA;refine StepG.value (w':=wr.drew) (wanted_none rfl) rfl ?_ (hK _ _ ⟨rfl,rfl⟩);simp[go_sem, *]
      intro yq0 wq0 hq0;have hq1:yq0=.pointer (some ⟨w.heap.size+1+1,1+k,none⟩)/\wq0=wr.drew:=hq0;clear hq0;have hqe:=hq1.1;have hqf:=hq1.2;clear hq1;subst hqe;subst hqf;rw[ha0]; simp only[List.set_cons_zero,List.set_cons_succ,putL,Act.put,List.setIfInBounds_toArray];clear ha0 hsz0;have BD:Below wr.heap.size wr wr.drew:=(Below.refl _ wr).drew;obtain⟨W1,hw1⟩:∃W1,W1=wr.drew:=⟨_,rfl⟩
      rw[<-hw1]at BD ⊢;have hO1:=(BD.block _ hszr).trans HO.out;have ok1:=(BD.cell (p:=⟨w.heap.size+1+1,1+k,none⟩) hszr).trans ok;have of1:=row_f hO1;have HO1:=Lib.hid hO1;have B1:=B.trans (BD.mono (by omega));have HX1:=Lib.hid ((BD.block _ (by omega)).trans HX.out);have HZ1:=Lib.hid ((BD.block _ (by omega)).trans HZ.out);clear hw1 hO1 ok of HO HX HZ B BD xq x0 hor hsh HOK HOR HSH;go_wp2;exact⟨⟨q+1,by simp,by omega,blk_farI _ _ (by omega) HX1.out,blk_farI _ _ (by omega) HZ1.out,(blk_setI _ _ HO1.out).trans (by rw[<-Int.natCast_add,HSET.out,HF.out]),B1.setCell (p:=⟨w.heap.size+1+1,1+k,none⟩) (by show w.heap.size<=w.heap.size+1+1; omega) _⟩,by simp[intOf]; omega⟩
    ·
     have hqe:q=n:=by omega
     rw[hqe,outF_next]at hO;have HX:=Lib.hid hX;have HZ:=Lib.hid hZ;have HO:=Lib.hid hO;clear hX hZ hO;go_wp2;exact⟨⟨k+1,by simp,by omega,HX.out,HZ.out,HO.out,B⟩,by simp[intOf]; omega⟩
  ·
   have hke:k=n:=by omega
   have hO:=HO.out;rw[hke,outF_end]at hO;have HO2:=Lib.hid hO;clear HO hO;have hRs:(spc n (turnF n c)).size=7:=rfl;have hZs:XZ.size=7:=rfl;have HR1:=Lib.hid (show(spc n (turnF n c)).all (·.oneCell')=true by simp[spc,Value.oneCell']);obtain⟨R,hR⟩:∃R,spc n (turnF n c)=R:=⟨_,rfl⟩
   rw[hR]at HO2 hRs HR1;have HR:=Lib.hid hR;clear hR;go_wp2_with (first
    | (refine wpList_load_row rfl 52 (.tmp 3) rfl (w.heap.size+1+1) rfl 52 R (0,0) _ HO2.out Tryz.underlying52 rfl (by rw[hRs]; exact sizeSpace) ?_)
    | (refine wpList_store_row rfl 52 (.tmp 2) (.tmp 36) rfl (w.heap.size+1) R rfl rfl 52 XZ HZ.out (by rw[hRs]; exact sizeSpace) (by rw[hRs,hZs]) HR1.out ?_)
    | fail)
   exact bodyPost_ret (v:=.agg R) (results_cell_row (p:=2) (ty:=52) (by kernel_rfl) _ _ (w.heap.size+1) 52 R (0,0) _ rfl (setRow_heap _ _ _ _ _ _ HZ.out) Tryz.underlying52 rfl (by rw[hRs]; exact sizeSpace)) rfl ⟨by rw[HR.out],below_setRow B (by omega) _⟩
open Go.RowKit Go.Shelf
attribute [local go_sem ↓] Go.wp_at_zero Go.wp_at_succ
theorem ints_new (W:World) (x T:Nat):IntsAt (W.alloc (.cells #[.int .i64 (x:Nat)] T)) (.slice (some ⟨W.heap.size,0,none⟩) 1 1) [x] :=
 ⟨_,_,rfl,.inr ⟨_,rfl,fun k p hk=>by
  match k,hk with
  | 0,hk =>
   simp at hk;subst hk;exact row1_0 (blk_new _ _)
  | k+1,hk=>simp at hk⟩⟩
theorem ints_newd (W:World) (x T:Nat):IntsAt (W.alloc (.cells #[.int .i64 (x:Nat)] T)).drew (.slice (some ⟨W.heap.size,0,none⟩) 1 1) [x] :=
 (ints_new W x T).below (Below.refl _ _).drew
theorem results_row_tmp2 {P:Program} {fn:Func} {p q r:Tmp} {ty:TypeId} (h:fn.results=#[.cell p ty,.tmp q,.tmp r]) (tmps:Array Value) (w:World) (g:Nat) (t:TypeId) (cs:Array Value) (fr:Nat × Nat) (d:TypeDesc)
  (hp:tmps.getD p undef=.pointer (some ⟨g,0,none⟩)) (hg:w.heap[g]?=some (.cells cs t fr))
  (hu:P.underlying ty=some d) (hd:(match d with | .struct _ | .array _ _=>true | _=>false)=true) (hi:(P.info? ty).map (·.size)=some cs.size) :
  (results fn tmps).run P w=.ok (.tuple #[.agg cs,tmps.getD q undef,tmps.getD r undef]) w:=by
 have hp':tmps[p]?.getD undef=.pointer (some ⟨g,0,none⟩):=by simpa using hp
 simp[results,h,hp',asAddr,run_loadVar_row w g t ty cs fr d hg hu hd hi]
theorem bothN (l:List Nat) (lv:Value) (code:Nat) (hm:1<=l.length/\l.length<=6) (hl:∀k∈l,k < 2 ^ l.length) (hcode:code < 2 ^ l.length) (hsp:IsSp l.length (cof l)) (w:World) (hT:BitTab6 w) (hL:IntsAt w lv l) :
  Calls Tryz.prog 20 #[lv,.int .i64 (code:Nat)] w fun e w'=>e=.returned (.tuple #[.agg (spc l.length (cof l)),.int .u64 (code:Nat),.bool true])/\Below w.heap.size w w':=by
 have hmix:Tryz.prog.follows .mixedOrders=true:=by kernel_rfl
 have hc64:code < 64:=Nat.lt_of_lt_of_le hcode (Nat.le_trans (Nat.pow_le_pow_right (by decide) hm.2) (by decide));have hwc:IntKind.u64.wrap (code:Int)=(code:Nat):=IntWalk.u64_in _ (by omega);have HWC:=Lib.hid hwc;clear hwc;have HAR:=Lib.hid (fun(W:World) (v:Value) (h:IntsAt W v [code])=>areCodesN l.length [code] v hm.2 (by simp) (by simpa using hcode) W h);have HNC:=Lib.hid (newSpaceN l lv hm hl hsp (w.alloc (.cells XZ 52)) (hT.below ((Below.refl _ w).alloc (Nat.le_refl _) _)) (hL.below ((Below.refl _ w).alloc (Nat.le_refl _) _)));obtain⟨n,hn⟩:∃n,l.length=n:=⟨_,rfl⟩
 rw[hn]at hm HNC HAR;rw[hn];have hxl:=spc_eq n (cof l);obtain⟨c0,h0⟩:∃c0,cof l 0=c0:=⟨_,rfl⟩
 obtain⟨c1,h1⟩:∃c1,cof l 1=c1:=⟨_,rfl⟩
 obtain⟨c2,h2⟩:∃c2,cof l 2=c2:=⟨_,rfl⟩
 obtain⟨c3,h3⟩:∃c3,cof l 3=c3:=⟨_,rfl⟩
 obtain⟨c4,h4⟩:∃c4,cof l 4=c4:=⟨_,rfl⟩
 obtain⟨c5,h5⟩:∃c5,cof l 5=c5:=⟨_,rfl⟩
 rw[h0,h1,h2,h3,h4,h5]at hxl;rw[hxl]at HNC;have HXL:=Lib.hid hxl;clear hT hL hsp hl hxl h0 h1 h2 h3 h4 h5 hn hcode;go_enter Tryz.func20,Tryz.ntmps20;go_wp2_with fail;refine HNC.out.mono ?_;rintro e w1 ⟨rfl,hb1⟩;have B1:Below w.heap.size w w1:=bl_call (by repeat (first | exact Below.refl _ _ | exact Nat.le_refl _ | refine Below.alloc ?_ ?_ _ | refine Below.setCell ?_ ?_ _ | refine Below.drew ?_ | refine bl_drewN ?_ _ | (assumption) | refine bl_call ?_ (by assumption) ?_ | omega | (simp <;> omega))) hb1 (by simp);have Z1:w1.heap[w.heap.size]?=some (.cells XZ 52 (0,0)):=(hb1.block _ (by simp)).trans (blk_new _ _);have HZ1:=Lib.hid Z1;clear hb1 Z1 HNC;go_upto_region 2 with fail;obtain⟨W0,h0⟩:∃W0,W0=w1.alloc (.cells (XLn n c0 c1 c2 c3 c4 c5) 52):=⟨_,rfl⟩
 rw[<-h0];have B0:Below w.heap.size w W0:=by rw[h0]; exact B1.alloc B1.size _
 have X0:W0.heap[w1.heap.size]?=some (.cells (XLn n c0 c1 c2 c3 c4 c5) 52 (0,0)):=by rw[h0]; exact blk_new _ _
 have Z0:W0.heap[w.heap.size]?=some (.cells XZ 52 (0,0)):=by rw[h0]; exact blk_old HZ1.out
 have y0:W0.cell? ⟨w1.heap.size,0,none⟩=some (.int .i64 (n:Nat)):=cell_of_row W0 _ 0 _ _ _ X0;have y1:W0.cell? ⟨w1.heap.size,1,none⟩=some (.int .u64 (c0:Nat)):=cell_of_row W0 _ 1 _ _ _ X0;have y2:W0.cell? ⟨w1.heap.size,2,none⟩=some (.int .u64 (c1:Nat)):=cell_of_row W0 _ 2 _ _ _ X0;have y3:W0.cell? ⟨w1.heap.size,3,none⟩=some (.int .u64 (c2:Nat)):=cell_of_row W0 _ 3 _ _ _ X0;have y4:W0.cell? ⟨w1.heap.size,4,none⟩=some (.int .u64 (c3:Nat)):=cell_of_row W0 _ 4 _ _ _ X0;have y5:W0.cell? ⟨w1.heap.size,5,none⟩=some (.int .u64 (c4:Nat)):=cell_of_row W0 _ 5 _ _ _ X0;have y6:W0.cell? ⟨w1.heap.size,6,none⟩=some (.int .u64 (c5:Nat)):=cell_of_row W0 _ 6 _ _ _ X0;have z0:W0.cell? ⟨w.heap.size,0,none⟩=some (.int .i64 0):=cell_of_row W0 _ 0 _ _ _ Z0;have z1:W0.cell? ⟨w.heap.size,1,none⟩=some (.int .u64 0):=cell_of_row W0 _ 1 _ _ _ Z0;have z2:W0.cell? ⟨w.heap.size,2,none⟩=some (.int .u64 0):=cell_of_row W0 _ 2 _ _ _ Z0;have z3:W0.cell? ⟨w.heap.size,3,none⟩=some (.int .u64 0):=cell_of_row W0 _ 3 _ _ _ Z0;have z4:W0.cell? ⟨w.heap.size,4,none⟩=some (.int .u64 0):=cell_of_row W0 _ 4 _ _ _ Z0;have z5:W0.cell? ⟨w.heap.size,5,none⟩=some (.int .u64 0):=cell_of_row W0 _ 5 _ _ _ Z0;have z6:W0.cell? ⟨w.heap.size,6,none⟩=some (.int .u64 0):=cell_of_row W0 _ 6 _ _ _ Z0;have zf:=row_f Z0;have HZ0:=Lib.hid Z0;have hsz0:w1.heap.size < W0.heap.size:=blk_lt X0;have hsz1:w.heap.size < w1.heap.size:=blk_lt HZ1.out;clear h0 X0 Z0 HZ1
 go_region_with_o (go_at_call 44; refine(HAR.out _ _ (ints_newd _ _ _)).mono ?_; rintro e w2 ⟨rfl,hb2⟩; have HBB:Below W0.heap.size W0 w2:=((Below.refl _ W0).alloc (Nat.le_refl _) _).drew.trans (hb2.mono (by simp)); clear hb2; have ny0:=keepc HBB y0; clear y0; have y0:=ny0; clear ny0; have ny1:=keepc HBB y1; clear y1; have y1:=ny1; clear ny1; have ny2:=keepc HBB y2; clear y2; have y2:=ny2; clear ny2; have ny3:=keepc HBB y3; clear y3; have y3:=ny3; clear ny3; have ny4:=keepc HBB y4; clear y4; have y4:=ny4; clear ny4; have ny5:=keepc HBB y5; clear y5; have y5:=ny5; clear ny5; have ny6:=keepc HBB y6; clear y6; have y6:=ny6; clear ny6; have nz0:=keepc HBB z0; clear z0; have z0:=nz0; clear nz0; have nz1:=keepc HBB z1; clear z1; have z1:=nz1; clear nz1; have nz2:=keepc HBB z2; clear z2; have z2:=nz2; clear nz2; have nz3:=keepc HBB z3; clear z3; have z3:=nz3; clear nz3; have nz4:=keepc HBB z4; clear z4; have z4:=nz4; clear nz4; have nz5:=keepc HBB z5; clear z5; have z5:=nz5; clear nz5; have nz6:=keepc HBB z6; clear z6; have z6:=nz6; clear nz6; have nzf:∀o,w2.frozen? ⟨w.heap.size,o,none⟩=false:=fun o=>(HBB.frozen (by show w.heap.size < W0.heap.size; omega)).trans (zf o); clear zf; have zf:=nzf; clear nzf)
 all_goals
  have B2:Below w.heap.size w w2:=B0.trans (HBB.mono (by omega));have Z2:=Lib.hid ((HBB.block _ (blk_lt HZ0.out)).trans HZ0.out);clear HBB y0 y1 y2 y3 y4 y5 y6 z0 z1 z2 z3 z4 z5 z6 zf;go_wp2;exact bodyPost_ret (v:=.tuple #[.agg (XLn n c0 c1 c2 c3 c4 c5),.int .u64 (code:Nat),.bool true]) ((results_row_tmp2 (p:=4) (q:=5) (r:=6) (ty:=52) (by kernel_rfl) _ _ w.heap.size 52 (XLn n c0 c1 c2 c3 c4 c5) (0,0) _ rfl (set7 Z2.out) Tryz.underlying52 rfl sizeSpace).trans (by first | rfl | (simp only[HWC.out]; rfl) | (simp[HWC.out,Act.put]; done))) rfl ⟨by rw[HXL.out],bel7 B2 (Nat.le_refl _)⟩
open Go.RowKit
def all2 (p:Nat->Nat->Bool):Bool:=(List.range 64).all fun x=>(List.range 64).all (p x)
theorem fin2 {p:Nat->Nat->Bool} (h:all2 p=true) {x y:Nat} (hx:x < 64) (hy:y < 64):p x y=true :=
 List.all_eq_true.1 (List.all_eq_true.1 h x (List.mem_range.2 hx)) y (List.mem_range.2 hy)
theorem or64 {x y:Nat} (hx:x < 64) (hy:y < 64):bits BinOp.or IntKind.u64 (x:Int) (y:Int)=((x ||| y:Nat):Int) :=
 of_decide_eq_true (fin2 (p:=fun x y=>decide (bits BinOp.or IntKind.u64 (x:Int) (y:Int)=((x ||| y:Nat):Int))) (by kernel_rfl) hx hy)
theorem and64 {x y:Nat} (hx:x < 64) (hy:y < 64):bits BinOp.and IntKind.u64 (x:Int) (y:Int)=((x &&& y:Nat):Int) :=
 of_decide_eq_true (fin2 (p:=fun x y=>decide (bits BinOp.and IntKind.u64 (x:Int) (y:Int)=((x &&& y:Nat):Int))) (by kernel_rfl) hx hy)
/-- what of a set is not in another -/
def clear2 (x y:Nat):Nat:=x-(x &&& y)
theorem not64 {x y:Nat} (hx:x < 64) (hy:y < 64):bits BinOp.andNot IntKind.u64 (x:Int) (y:Int)=((clear2 x y:Nat):Int) :=
 of_decide_eq_true (fin2 (p:=fun x y=>decide (bits BinOp.andNot IntKind.u64 (x:Int) (y:Int)=((clear2 x y:Nat):Int))) (by kernel_rfl) hx hy)
theorem or_lt64 {x y:Nat} (hx:x < 64) (hy:y < 64):x ||| y < 64:=Nat.or_lt_two_pow (n:=6) hx hy
theorem and_lt64 {x y:Nat} (hy:y < 64):x &&& y < 64:=Nat.lt_of_le_of_lt Nat.and_le_right hy
/-- what a point adds to a set -/
def addN (s:Nat) (c a:Nat->Nat) (m p:Nat):Nat:=m ||| ((c p ||| a p) &&& s)
def moreN (s:Nat) (c a:Nat->Nat) (x:Nat):Nat:=(ptsN x).foldl (addN s c a) x
theorem addN_lt {s:Nat} {c a:Nat->Nat} {m:Nat} (p:Nat) (hs:s < 64) (hm:m < 64):addN s c a m p < 64:=or_lt64 hm (and_lt64 hs)
theorem addN_le {s:Nat} {c a:Nat->Nat} {m:Nat} (p:Nat):m<=addN s c a m p:=Nat.left_le_or
theorem fold_lt {s:Nat} {c a:Nat->Nat} (hs:s < 64):∀(l:List Nat) (m:Nat),m < 64->l.foldl (addN s c a) m < 64/\m<=l.foldl (addN s c a) m
 | [],m,h=>⟨h,Nat.le_refl _⟩
 | p :: l,m,h=>by
  have h2:=fold_lt (c:=c) (a:=a) hs l (addN s c a m p) (addN_lt p hs h);exact⟨h2.1,Nat.le_trans (addN_le p) h2.2⟩
theorem more_lt {s:Nat} {c a:Nat->Nat} (hs:s < 64) {x:Nat} (hx:x < 64):moreN s c a x < 64:=(fold_lt hs _ _ hx).1
theorem more_le {s:Nat} {c a:Nat->Nat} (hs:s < 64) {x:Nat} (hx:x < 64):x<=moreN s c a x:=(fold_lt hs _ _ hx).2
def itN (s:Nat) (c a:Nat->Nat):Nat->Nat->Nat
 | 0,x=>x
 | k+1,x=>itN s c a k (moreN s c a x)
theorem itN_fix {s:Nat} {c a:Nat->Nat} {x:Nat} (h:moreN s c a x=x):∀k,itN s c a k x=x
 | 0=>rfl
 | k+1=>by
  unfold itN;rw[h];exact itN_fix h k
theorem itN_next {s:Nat} {c a:Nat->Nat} {x fx k:Nat} (h:itN s c a k x=fx) (hf:moreN s c a fx=fx) (hx:moreN s c a x≠x):∃j,itN s c a j (moreN s c a x)=fx:=by
 match k,h with
 | 0,h =>
  rw[<-h]at hf;exact absurd hf hx
 | k+1,h=>exact⟨k,h⟩
/-- the number of pieces of what is left -/
def pcN (s:Nat) (c a:Nat->Nat):Nat->Nat->Option Nat
 | 0,left=>if left=0 then some 0 else none
 | f+1,left=>if left=0 then some 0 else
  if moreN s c a (itN s c a 6 (2 ^ lowN left))=itN s c a 6 (2 ^ lowN left) then (pcN s c a f (clear2 left (itN s c a 6 (2 ^ lowN left)))).map (· + 1) else none
theorem pcN_next {s:Nat} {c a:Nat->Nat} {f left m:Nat} (h:pcN s c a f left=some m) (h0:left≠0) :
  ∃f' m',m=m'+1/\f=f'+1/\moreN s c a (itN s c a 6 (2 ^ lowN left))=itN s c a 6 (2 ^ lowN left)/\pcN s c a f' (clear2 left (itN s c a 6 (2 ^ lowN left)))=some m':=by
 match f,h with
 | 0,h=>simp[pcN,h0]at h
 | f+1,h =>
  unfold pcN at h;rw[if_neg h0]at h
  split at h
  · rename_i hm;obtain⟨m',hm',rfl⟩:=Option.map_eq_some_iff.1 h;exact⟨f,m',rfl,rfl,hm,hm'⟩
  · cases h
theorem pcN_zero {s:Nat} {c a:Nat->Nat} {f m:Nat} (h:pcN s c a f 0=some m):m=0:=by
 match f,h with
 | 0,h=>simp[pcN]at h; omega
 | f+1,h=>simp[pcN]at h; omega
theorem clear2_lt {x y:Nat} (hx:x < 64):clear2 x y < 64:=Nat.lt_of_le_of_lt (Nat.sub_le _ _) hx
theorem pcN_le {s:Nat} {c a:Nat->Nat}:∀(f left m:Nat),pcN s c a f left=some m->m<=f
 | 0,left,m,h=>by
  unfold pcN at h
  split at h
  · simp at h; omega
  · cases h
 | f+1,left,m,h=>by
  by_cases h0:left=0
  · subst h0;have:=pcN_zero h;omega
  ·
   obtain⟨f',m',rfl,hf,-,h2⟩:=pcN_next h h0;have hff:f=f':=by omega
   subst hff;have:=pcN_le f _ m' h2;omega
end Go.Proofs.YtaffkceklkdokaaGreatDoor
