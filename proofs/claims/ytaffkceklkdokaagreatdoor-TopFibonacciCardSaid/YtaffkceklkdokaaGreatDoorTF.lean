/- Two equal lists are equal. -/
import Derived.Test.YtaffkceklkdokaaGreatDoorTB
import Derived.Shelf.Strings.Count
set_option maxRecDepth 100000
set_option maxHeartbeats 4000000
namespace Go.Proofs.YtaffkceklkdokaaGreatDoor
open Go.RowKit
attribute [local go_sem ↓] Go.wp_at_zero Go.wp_at_succ
theorem top_ints (xs:List Nat) (ga gb ca cb:Nat) (w:World) (hl:xs.length<=1000) (ha:∀(j:Nat) (x:Nat),xs[j]?=some x->w.cell? ⟨ga,j,none⟩=some (.int .i64 x)) (hb:∀(j:Nat) (x:Nat),xs[j]?=some x->w.cell? ⟨gb,j,none⟩=some (.int .i64 x)) :
  Calls Tryz.prog 28 #[.slice (some ⟨ga,0,none⟩) xs.length ca,.slice (some ⟨gb,0,none⟩) xs.length cb] w fun e w'=>e=.returned (.bool true)/\Below w.heap.size w w':=by
 obtain⟨n,hn⟩:∃n,xs.length=n:=⟨_,rfl⟩
 rw[hn]at hl ⊢;have HN:=Lib.hid hn;have HA:=Lib.hid ha;have HB:=Lib.hid hb;clear hn ha hb;go_enter Tryz.func28,Tryz.ntmps28;go_wp2;go_loopw [5] (fun x wr=>∃j:Nat,x=.int .i64 (j:Int)/\j<=n/\Below w.heap.size w wr) (fun x _=>n-(intOf x).toNat)
 case atStart=>exact⟨0,rfl,by omega,(by repeat (first | exact Below.refl _ _ | exact Nat.le_refl _ | refine Below.alloc ?_ ?_ _ | refine Below.setCell ?_ ?_ _ | refine Below.drew ?_ | refine bl_drewN ?_ _ | (assumption) | refine bl_call ?_ (by assumption) ?_ | omega | (simp <;> omega)))⟩
 case round =>
  obtain⟨j,rfl,hj,B⟩:=hrel
  by_cases hjn:j < n
  ·
   obtain⟨x,hx⟩:∃x,xs[j]?=some x:=⟨xs[j]'(by rw[HN.out]; exact hjn),by simp[HN.out,hjn]⟩
   have c1:wr.cell? ⟨ga,j,none⟩=some (.int .i64 x):=(B.cell (block_lt_of_cell (HA.out j x hx))).trans (HA.out j x hx);have c2:wr.cell? ⟨gb,j,none⟩=some (.int .i64 x):=(B.cell (block_lt_of_cell (HB.out j x hx))).trans (HB.out j x hx);clear hx;go_upto_region 6 with fail;go_quiet (fail)
   go_wp2
   go_roundw
   case rel=>exact⟨j+1,by simp,by omega,(by repeat (first | exact Below.refl _ _ | exact Nat.le_refl _ | refine Below.alloc ?_ ?_ _ | refine Below.setCell ?_ ?_ _ | refine Below.drew ?_ | refine bl_drewN ?_ _ | (assumption) | refine bl_call ?_ (by assumption) ?_ | omega | (simp <;> omega)))⟩
   case measure=>simp[intOf]; omega
  ·
   obtain rfl:j=n:=by omega
   go_wp2
   go_ret
   exact⟨rfl,B⟩
open Go.RowKit
attribute [local go_sem ↓] Go.wp_at_zero Go.wp_at_succ
def lays138_ren:Go.Shelf.Ren:=⟨fun | 138=>56 | 143=>83 | 195=>81 | 217=>116 | 218=>82 | 219=>102 | 224=>118 | 225=>117 | 266=>141 | 267=>119 | 314=>142 | n=>n,fun | 0=>0 | 3=>3 | 4=>4 | 5=>5 | 9=>9 | 46=>48 | 51=>117 | 146=>204 | n=>n,fun | 1=>3 | n=>n⟩
theorem lays138:Go.Proofs.Lays.n138 Tryz.prog lays138_ren:={
 mixed:=by kernel_rfl,
 f138:=Tryz.func56.trans (congrArg some (by kernel_rfl)),
 f143:=Tryz.func83.trans (congrArg some (by kernel_rfl)),
 f195:=Tryz.func81.trans (congrArg some (by kernel_rfl)),
 f217:=Tryz.func116.trans (congrArg some (by kernel_rfl)),
 f218:=Tryz.func82.trans (congrArg some (by kernel_rfl)),
 f219:=Tryz.func102.trans (congrArg some (by kernel_rfl)),
 f224:=Tryz.func118.trans (congrArg some (by kernel_rfl)),
 f225:=Tryz.func117.trans (congrArg some (by kernel_rfl)),
 f266:=Tryz.func141.trans (congrArg some (by kernel_rfl)),
 f267:=Tryz.func119.trans (congrArg some (by kernel_rfl)),
 f314:=Tryz.func142.trans (congrArg some (by kernel_rfl)),
 t0:=Tryz.underlying0,
 a0:=Tryz.isAgg0,
 z0:=Tryz.sizeOf0,
 v0:=Tryz.zeroValue0,
 t3:=Tryz.underlying3,
 a3:=Tryz.isAgg3,
 z3:=Tryz.sizeOf3,
 v3:=Tryz.zeroValue3,
 t4:=Tryz.underlying4,
 a4:=Tryz.isAgg4,
 z4:=Tryz.sizeOf4,
 v4:=Tryz.zeroValue4,
 t5:=Tryz.underlying5,
 a5:=Tryz.isAgg5,
 z5:=Tryz.sizeOf5,
 v5:=Tryz.zeroValue5,
 t9:=Tryz.underlying9,
 a9:=Tryz.isAgg9,
 z9:=Tryz.sizeOf9,
 v9:=Tryz.zeroValue9,
 t46:=Tryz.underlying48,
 a46:=Tryz.isAgg48,
 z46:=Tryz.sizeOf48,
 v46:=Tryz.zeroValue48,
 t51:=Tryz.underlying117,
 a51:=Tryz.isAgg117,
 z51:=Tryz.sizeOf117,
 v51:=Tryz.zeroValue117,
 t146:=Tryz.underlying204,
 a146:=Tryz.isAgg204,
 z146:=Tryz.sizeOf204,
 v146:=Tryz.zeroValue204,
 g1:=by kernel_rfl }
def rs (k:Nat):ByteArray:=⟨(List.replicate k (82:UInt8)).toArray⟩
theorem rs_size (k:Nat):(rs k).size=k:=by simp[rs,ByteArray.size]
theorem cnt_L (k:Nat):Lib.countByte (rs k).data.toList 76=0:=by
 induction k with
 | zero=>rfl
 | succ k ih=>simp[rs,Lib.countByte,List.count_replicate]
theorem cnt_R (k:Nat):Lib.countByte (rs k).data.toList 82=k:=by
 induction k with
 | zero=>rfl
 | succ k ih=>simp[rs,Lib.countByte,List.replicate_succ]
theorem isPath_rs (k:Nat) (hk:k<=10) (w:World):Calls Tryz.prog 30 #[.string (rs k)] w fun e w'=>e=.returned (.bool true)/\w=w':=by
 have c1:=fun wx=>(show Calls Tryz.prog 56 #[.string (rs k),.string ⟨#[76]⟩] wx _ from Any.strings_Count_one lays138 (rs k) 76 wx)
 have c2:=fun wx=>(show Calls Tryz.prog 56 #[.string (rs k),.string ⟨#[82]⟩] wx _ from Any.strings_Count_one lays138 (rs k) 82 wx)
 simp only[cnt_L,cnt_R]at c1 c2;have hs:=rs_size k;obtain⟨S,hS⟩:∃S,rs k=S:=⟨_,rfl⟩
 simp only[hS]at c1 c2 hs ⊢;have C1:=Lib.hid c1;have C2:=Lib.hid c2;clear c1 c2 hS;go_enter Tryz.func30,Tryz.ntmps30;go_wp2_with fail;refine(C1.out _).mono ?_;rintro e w' ⟨rfl,rfl⟩;go_wp2_with fail;refine(C2.out _).mono ?_;rintro e w' ⟨rfl,rfl⟩;go_wp2_with fail
 go_ret
 exact⟨rfl,rfl⟩
mutual
def tx:Nat->Int
 | 0=>2
 | j+1=>tz j
def tz:Nat->Int
 | 0=>5
 | j+1=>3 * tz j-tx j
end
theorem t_bd:∀j,j<=10->1<=tx j/\tx j<=tz j/\tz j<=100000:=by decide
theorem t_step (j:Nat):tz (j+1)=3 * tz j-tx j/\tx (j+1)=tz j:=⟨by rw[tz],by rw[tx]⟩
theorem Follow_rs (k:Nat) (hk:k<=10) (w:World) (hf:First w):Calls Tryz.prog 12 #[.string (rs k)] w fun e w'=>e=.returned (.tuple #[.agg #[.int .i64 1,.int .i64 (tx k),.int .i64 (tz k)],.int .i64 0])/\Below w.heap.size w w':=by
 have hs:=rs_size k;have hP:=fun wx=>isPath_rs k hk wx;have hix0:∀S,rs k=S->∀(j:Nat) (h:j < S.size),S[j]=82:=fun S e j h=>by subst e; show(rs k).data[j]=82; simp[rs]
 obtain⟨S,hS⟩:∃S,rs k=S:=⟨_,rfl⟩
 have hix:=hix0 S hS;simp only[hS]at hP hs ⊢;have HP:=Lib.hid hP;have HI:=Lib.hid hix;clear hP hS hix hix0;have f0:w.cell? ⟨0,0,none⟩=some (.int .i64 1):=hf.cells.1;have f1:w.cell? ⟨0,1,none⟩=some (.int .i64 2):=hf.cells.2.1;have f2:w.cell? ⟨0,2,none⟩=some (.int .i64 5):=hf.cells.2.2.1;have hz:=hf.cells.2.2.2;clear hf;go_enter Tryz.func12,Tryz.ntmps12;go_wp2_with fail;refine(HP.out _).mono ?_;rintro e w' ⟨rfl,rfl⟩;go_wp2_with fail;go_loopw [14] (fun x wr=>∃j:Nat,x=.int .i64 (j:Int)/\j<=k/\wr.heap[w.heap.size]?=some (.cells #[.int .i64 0,.int .i64 0,.int .i64 0] 39 (0,0))/\wr.heap[w.heap.size+1]?=some (.cells #[.int .i64 1,.int .i64 (tx j),.int .i64 (tz j)] 79 (0,0))/\Below w.heap.size w wr) (fun x _=>k-(intOf x).toNat)
 case atStart=>exact⟨0,rfl,by omega,blk_old (blk_new _ _),blk_new' _ _ (by simp),(by repeat (first | exact Below.refl _ _ | exact Nat.le_refl _ | refine Below.alloc ?_ ?_ _ | refine Below.setCell ?_ ?_ _ | refine Below.drew ?_ | refine bl_drewN ?_ _ | (assumption) | refine bl_call ?_ (by assumption) ?_ | omega | (simp <;> omega)))⟩
 case round =>
  obtain⟨j,rfl,hj,hO,hT,B⟩:=hrel;have c0:wr.cell? ⟨w.heap.size+1,0,none⟩=some (.int .i64 1):=cell_of_row wr _ 0 _ _ _ hT;have c1:wr.cell? ⟨w.heap.size+1,1,none⟩=some (.int .i64 (tx j)):=cell_of_row wr _ 1 _ _ _ hT;have c2:wr.cell? ⟨w.heap.size+1,2,none⟩=some (.int .i64 (tz j)):=cell_of_row wr _ 2 _ _ _ hT;have HO:=Lib.hid hO;have HT:=Lib.hid hT;clear f0 f1 f2
  by_cases hjk:j < k
  ·
   have hb:=t_bd j (by omega);have hb2:=t_bd (j+1) (by omega);have hst:=t_step j;have h8:=HI.out j;clear hO hT;go_wp2_with fail;refine(right_any (a:=1) (b:=tx j) (c:=tz j) (s0:=1) (s1:=tz j) (s2:=tz (j+1)) wr (by decide) (by omega) (by omega) (by omega) (by rw[hst.1,Int.mul_one]; exact(List.Perm.swap _ _ _).cons _) (by omega) (by omega)).mono ?_;rintro e w1 ⟨rfl,hb1⟩;rw[decide_eq_true (show tz (j+1)<=1000000000 by omega)];have B1:Below w.heap.size w w1:=bl_call B hb1 B.size;have hT1:=(hb1.block _ (blk_lt HT.out)).trans HT.out;have hO1:=(hb1.block _ (blk_lt HO.out)).trans HO.out;clear c0 c1 c2 h8 hb hb2 hb1;have c0:w1.cell? ⟨w.heap.size+1,0,none⟩=some (.int .i64 1):=cell_of_row w1 _ 0 _ _ _ hT1;have c1:w1.cell? ⟨w.heap.size+1,1,none⟩=some (.int .i64 (tx j)):=cell_of_row w1 _ 1 _ _ _ hT1;have c2:w1.cell? ⟨w.heap.size+1,2,none⟩=some (.int .i64 (tz j)):=cell_of_row w1 _ 2 _ _ _ hT1;have cf:=row_f hT1;have zT:=blk_lt hT1;have HT1:=Lib.hid hT1;have HO1:=Lib.hid hO1;have HST:=Lib.hid hst.2;clear hT1 hO1 hst HT HO;go_wp2
   go_roundw
   case rel=>exact⟨j+1,by simp,by omega,blk_far3 (by omega) HO1.out,by rw[HST.out]; exact blk_set3 HT1.out,(by repeat (first | exact Below.refl _ _ | exact Nat.le_refl _ | refine Below.alloc ?_ ?_ _ | refine Below.setCell ?_ ?_ _ | refine Below.drew ?_ | refine bl_drewN ?_ _ | (assumption) | refine bl_call ?_ (by assumption) ?_ | omega | (simp <;> omega)))⟩
   case measure=>simp[intOf]; omega
  ·
   obtain rfl:j=k:=by omega
   have o0:wr.cell? ⟨w.heap.size,0,none⟩=some (.int .i64 0):=cell_of_row wr _ 0 _ _ _ hO;have o1:wr.cell? ⟨w.heap.size,1,none⟩=some (.int .i64 0):=cell_of_row wr _ 1 _ _ _ hO;have o2:wr.cell? ⟨w.heap.size,2,none⟩=some (.int .i64 0):=cell_of_row wr _ 2 _ _ _ hO;have fo:=row_f hO;have zo:=blk_lt hO;clear hO hT;go_wp2;exact bodyPost_ret (v:=.tuple #[.agg #[.int .i64 1,.int .i64 (tx j),.int .i64 (tz j)],.int .i64 0]) (by simp[results,Tryz.results12,go_sem, *]) rfl ⟨rfl,(by repeat (first | exact Below.refl _ _ | exact Nat.le_refl _ | refine Below.alloc ?_ ?_ _ | refine Below.setCell ?_ ?_ _ | refine Below.drew ?_ | refine bl_drewN ?_ _ | (assumption) | refine bl_call ?_ (by assumption) ?_ | omega | (simp <;> omega)))⟩
end Go.Proofs.YtaffkceklkdokaaGreatDoor
