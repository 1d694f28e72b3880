/- The roots of 7. -/
import Derived.Test.YtaffkceklkdokaaGreatDoorZ2
import Derived.Test.YtaffkceklkdokaaGreatDoorZ1
import Derived.Deep.LoopGhost
import Derived.Laws.OwnMore
import Derived.Deep.AppendLies
import Derived.Shelf.LaysM
import Derived.Laws.Tables
import Derived.Laws.CopyOwn
import Derived.Shelf.Slices.Turned
import Derived.Test.YtaffkceklkdokaaGreatDoorZ5
set_option maxRecDepth 100000
set_option maxHeartbeats 4000000
namespace Go.Proofs.YtaffkceklkdokaaGreatDoor
open Go.RowKit
attribute [local go_sem ↓] Go.wp_at_zero Go.wp_at_succ
theorem stud_within (n lo hi:Int) (w:World) :
  Calls Tryz.prog 107 #[.int .i64 n,.int .i64 lo,.int .i64 hi] w fun e w'=>e=.returned (.bool (decide (lo<=n) && decide (n<=hi)))/\w=w':=by
 by_cases h1:lo<=n
 ·
  by_cases h2:n<=hi
  all_goals
   go_enter Tryz.func107,Tryz.ntmps107;go_wp2
   go_ret
   exact⟨by simp[h1,h2],rfl⟩
 ·
  go_enter Tryz.func107,Tryz.ntmps107;go_wp2
  go_ret
  exact⟨by rw[decide_eq_false (show ¬lo<=n by omega)]; rfl,rfl⟩
theorem stud_isPrime7 (w:World):Calls Tryz.prog 98 #[.int .i64 7] w fun e w'=>e=.returned (.bool true)/\w=w':=by
 go_enter Tryz.func98,Tryz.ntmps98;go_wp2;go_loopw [3] (fun x wr=>∃k:Nat,x=.int .i64 ((k:Int)+2)/\k<=5/\w=wr) (fun x _=>(7-intOf x).toNat)
 case atStart=>exact⟨0,by simp,by omega,rfl⟩
 case round =>
  obtain⟨k,rfl,hk,rfl⟩:=hrel;rcases (by omega:k=0∨k=1∨k=2∨k=3∨k=4∨k=5) with rfl | rfl | rfl | rfl | rfl | rfl;all_goals
   go_wp2_with (first | (go_at_call 107; refine(stud_within _ _ _ _).mono ?_; rintro e w' ⟨rfl,rfl⟩))
  all_goals first | exact⟨⟨1,rfl,by decide,trivial⟩,by decide⟩ | exact⟨⟨2,rfl,by decide,trivial⟩,by decide⟩ | exact⟨⟨3,rfl,by decide,trivial⟩,by decide⟩ | exact⟨⟨4,rfl,by decide,trivial⟩,by decide⟩ | exact⟨⟨5,rfl,by decide,trivial⟩,by decide⟩ | skip
  go_ret
  exact⟨rfl,rfl⟩
theorem blk_setI {w:World} {g t:Nat} {cs:Array Value} {r:Nat × Nat} (i:Nat) (u:Value) (h:w.heap[g]?=some (.cells cs t r)):(w.setCell ⟨g,i,none⟩ u).heap[g]?=some (.cells (cs.setIfInBounds i u) t r):=by
 simp[World.setCell,Array.getElem?_modify,h]
theorem blk_farI {w:World} {g k:Nat} {o:Obj} (i:Nat) (u:Value) (hne:k≠g) (h:w.heap[k]?=some o):(w.setCell ⟨g,i,none⟩ u).heap[k]?=some o:=(heap_setCell_other _ ⟨g,i,none⟩ k u hne).trans h
theorem size17:(Tryz.prog.info? 170).map (·.size)=some 17:=by kernel_rfl
def z17:Array Value:=#[.int .i64 0,.int .i64 0,.int .i64 0,.int .i64 0,.int .i64 0,.int .i64 0,.int .i64 0,.int .i64 0,.int .i64 0,.int .i64 0,.int .i64 0,.int .i64 0,.int .i64 0,.int .i64 0,.int .i64 0,.int .i64 0,.int .i64 0]
def pw1:Nat->Array Value
 | 0=>#[.int .i64 1,.int .i64 0,.int .i64 0,.int .i64 0,.int .i64 0,.int .i64 0,.int .i64 0,.int .i64 0,.int .i64 0,.int .i64 0,.int .i64 0,.int .i64 0,.int .i64 0,.int .i64 0,.int .i64 0,.int .i64 0,.int .i64 0]
 | 1=>#[.int .i64 1,.int .i64 1,.int .i64 0,.int .i64 0,.int .i64 0,.int .i64 0,.int .i64 0,.int .i64 0,.int .i64 0,.int .i64 0,.int .i64 0,.int .i64 0,.int .i64 0,.int .i64 0,.int .i64 0,.int .i64 0,.int .i64 0]
 | 2=>#[.int .i64 1,.int .i64 1,.int .i64 1,.int .i64 0,.int .i64 0,.int .i64 0,.int .i64 0,.int .i64 0,.int .i64 0,.int .i64 0,.int .i64 0,.int .i64 0,.int .i64 0,.int .i64 0,.int .i64 0,.int .i64 0,.int .i64 0]
 | 3=>#[.int .i64 1,.int .i64 1,.int .i64 1,.int .i64 1,.int .i64 0,.int .i64 0,.int .i64 0,.int .i64 0,.int .i64 0,.int .i64 0,.int .i64 0,.int .i64 0,.int .i64 0,.int .i64 0,.int .i64 0,.int .i64 0,.int .i64 0]
 | 4=>#[.int .i64 1,.int .i64 1,.int .i64 1,.int .i64 1,.int .i64 1,.int .i64 0,.int .i64 0,.int .i64 0,.int .i64 0,.int .i64 0,.int .i64 0,.int .i64 0,.int .i64 0,.int .i64 0,.int .i64 0,.int .i64 0,.int .i64 0]
 | 5=>#[.int .i64 1,.int .i64 1,.int .i64 1,.int .i64 1,.int .i64 1,.int .i64 1,.int .i64 0,.int .i64 0,.int .i64 0,.int .i64 0,.int .i64 0,.int .i64 0,.int .i64 0,.int .i64 0,.int .i64 0,.int .i64 0,.int .i64 0]
 | _=>#[.int .i64 1,.int .i64 1,.int .i64 1,.int .i64 1,.int .i64 1,.int .i64 1,.int .i64 1,.int .i64 0,.int .i64 0,.int .i64 0,.int .i64 0,.int .i64 0,.int .i64 0,.int .i64 0,.int .i64 0,.int .i64 0,.int .i64 0]
theorem stud_powers1 (w:World):Calls Tryz.prog 108 #[.int .i64 7,.int .i64 1] w fun e w'=>e=.returned (.agg (pw1 6))/\Below w.heap.size w w':=by
 go_enter Tryz.func108,Tryz.ntmps108;go_wp2;go_loopw [6] (fun x wr=>∃k:Nat,x=.int .i64 ((k:Int)+1)/\k<=6/\wr.heap[w.heap.size]?=some (.cells z17 170 (0,0))/\wr.heap[w.heap.size+1]?=some (.cells (pw1 k) 170 (0,0))/\Below w.heap.size w wr) (fun x _=>(7-intOf x).toNat)
 case atStart=>exact⟨0,rfl,by decide,blk_old (blk_new _ _),blk_new' _ _ (by simp),(by repeat (first | exact Below.refl _ _ | exact Nat.le_refl _ | refine Below.alloc ?_ ?_ _ | refine Below.setCell ?_ ?_ _ | refine Below.drew ?_ | refine bl_drewN ?_ _ | (assumption) | refine bl_call ?_ (by assumption) ?_ | omega | (simp <;> omega)))⟩
 case round =>
  obtain⟨k,rfl,hk,hz,hb,B⟩:=hrel;rcases (by omega:k=0∨k=1∨k=2∨k=3∨k=4∨k=5∨k=6) with rfl | rfl | rfl | rfl | rfl | rfl | rfl
  · have HB:=Lib.hid hb;have HZ:=Lib.hid hz;have c0:wr.cell? ⟨w.heap.size+1,0,none⟩=some (.int .i64 1):=cell_of_row wr (w.heap.size+1) 0 _ _ _ hb;have c1:wr.cell? ⟨w.heap.size+1,1,none⟩=some (.int .i64 0):=cell_of_row wr (w.heap.size+1) 1 _ _ _ hb;have fb:=row_f hb;clear hb hz;go_wp2;exact⟨⟨1,rfl,by decide,blk_farI 1 _ (by omega) HZ.out,(by rw[blk_setI 1 _ HB.out]; simp[pw1]),(by repeat (first | exact Below.refl _ _ | exact Nat.le_refl _ | refine Below.alloc ?_ ?_ _ | refine Below.setCell ?_ ?_ _ | refine Below.drew ?_ | refine bl_drewN ?_ _ | (assumption) | refine bl_call ?_ (by assumption) ?_ | omega | (simp <;> omega)))⟩,by decide⟩
  · have HB:=Lib.hid hb;have HZ:=Lib.hid hz;have c1:wr.cell? ⟨w.heap.size+1,1,none⟩=some (.int .i64 1):=cell_of_row wr (w.heap.size+1) 1 _ _ _ hb;have c2:wr.cell? ⟨w.heap.size+1,2,none⟩=some (.int .i64 0):=cell_of_row wr (w.heap.size+1) 2 _ _ _ hb;have fb:=row_f hb;clear hb hz;go_wp2;exact⟨⟨2,rfl,by decide,blk_farI 2 _ (by omega) HZ.out,(by rw[blk_setI 2 _ HB.out]; simp[pw1]),(by repeat (first | exact Below.refl _ _ | exact Nat.le_refl _ | refine Below.alloc ?_ ?_ _ | refine Below.setCell ?_ ?_ _ | refine Below.drew ?_ | refine bl_drewN ?_ _ | (assumption) | refine bl_call ?_ (by assumption) ?_ | omega | (simp <;> omega)))⟩,by decide⟩
  · have HB:=Lib.hid hb;have HZ:=Lib.hid hz;have c2:wr.cell? ⟨w.heap.size+1,2,none⟩=some (.int .i64 1):=cell_of_row wr (w.heap.size+1) 2 _ _ _ hb;have c3:wr.cell? ⟨w.heap.size+1,3,none⟩=some (.int .i64 0):=cell_of_row wr (w.heap.size+1) 3 _ _ _ hb;have fb:=row_f hb;clear hb hz;go_wp2;exact⟨⟨3,rfl,by decide,blk_farI 3 _ (by omega) HZ.out,(by rw[blk_setI 3 _ HB.out]; simp[pw1]),(by repeat (first | exact Below.refl _ _ | exact Nat.le_refl _ | refine Below.alloc ?_ ?_ _ | refine Below.setCell ?_ ?_ _ | refine Below.drew ?_ | refine bl_drewN ?_ _ | (assumption) | refine bl_call ?_ (by assumption) ?_ | omega | (simp <;> omega)))⟩,by decide⟩
  · have HB:=Lib.hid hb;have HZ:=Lib.hid hz;have c3:wr.cell? ⟨w.heap.size+1,3,none⟩=some (.int .i64 1):=cell_of_row wr (w.heap.size+1) 3 _ _ _ hb;have c4:wr.cell? ⟨w.heap.size+1,4,none⟩=some (.int .i64 0):=cell_of_row wr (w.heap.size+1) 4 _ _ _ hb;have fb:=row_f hb;clear hb hz;go_wp2;exact⟨⟨4,rfl,by decide,blk_farI 4 _ (by omega) HZ.out,(by rw[blk_setI 4 _ HB.out]; simp[pw1]),(by repeat (first | exact Below.refl _ _ | exact Nat.le_refl _ | refine Below.alloc ?_ ?_ _ | refine Below.setCell ?_ ?_ _ | refine Below.drew ?_ | refine bl_drewN ?_ _ | (assumption) | refine bl_call ?_ (by assumption) ?_ | omega | (simp <;> omega)))⟩,by decide⟩
  · have HB:=Lib.hid hb;have HZ:=Lib.hid hz;have c4:wr.cell? ⟨w.heap.size+1,4,none⟩=some (.int .i64 1):=cell_of_row wr (w.heap.size+1) 4 _ _ _ hb;have c5:wr.cell? ⟨w.heap.size+1,5,none⟩=some (.int .i64 0):=cell_of_row wr (w.heap.size+1) 5 _ _ _ hb;have fb:=row_f hb;clear hb hz;go_wp2;exact⟨⟨5,rfl,by decide,blk_farI 5 _ (by omega) HZ.out,(by rw[blk_setI 5 _ HB.out]; simp[pw1]),(by repeat (first | exact Below.refl _ _ | exact Nat.le_refl _ | refine Below.alloc ?_ ?_ _ | refine Below.setCell ?_ ?_ _ | refine Below.drew ?_ | refine bl_drewN ?_ _ | (assumption) | refine bl_call ?_ (by assumption) ?_ | omega | (simp <;> omega)))⟩,by decide⟩
  · have HB:=Lib.hid hb;have HZ:=Lib.hid hz;have c5:wr.cell? ⟨w.heap.size+1,5,none⟩=some (.int .i64 1):=cell_of_row wr (w.heap.size+1) 5 _ _ _ hb;have c6:wr.cell? ⟨w.heap.size+1,6,none⟩=some (.int .i64 0):=cell_of_row wr (w.heap.size+1) 6 _ _ _ hb;have fb:=row_f hb;clear hb hz;go_wp2;exact⟨⟨6,rfl,by decide,blk_farI 6 _ (by omega) HZ.out,(by rw[blk_setI 6 _ HB.out]; simp[pw1]),(by repeat (first | exact Below.refl _ _ | exact Nat.le_refl _ | refine Below.alloc ?_ ?_ _ | refine Below.setCell ?_ ?_ _ | refine Below.drew ?_ | refine bl_drewN ?_ _ | (assumption) | refine bl_call ?_ (by assumption) ?_ | omega | (simp <;> omega)))⟩,by decide⟩
  ·
   have hRs:(pw1 6).size=17:=rfl;have hR1:(pw1 6).all (·.oneCell')=true:=by kernel_rfl
   have hZs:z17.size=17:=rfl;obtain⟨R,hR⟩:∃R,pw1 6=R:=⟨_,rfl⟩
   rw[hR]at hb hRs hR1;have HR:=Lib.hid hR;have HX:=Lib.hid hb;have HH:=Lib.hid hz;have HR1:=Lib.hid hR1;clear hR hb hz hR1;go_wp2_with (first
    | (refine wpList_load_row rfl 170 (.tmp 5) rfl (w.heap.size+1) rfl 170 R (0,0) (.array 17 3) HX.out Tryz.underlying170 rfl (by rw[hRs]; exact size17) ?_)
    | (refine wpList_store_row rfl 170 (.tmp 4) (.tmp 23) rfl w.heap.size R rfl rfl 170 z17 HH.out (by rw[hRs]; exact size17) (by rw[hRs,hZs]) HR1.out ?_))
   exact bodyPost_ret (v:=.agg R) (results_cell_row (p:=4) (ty:=170) (by kernel_rfl) _ _ w.heap.size 170 R (0,0) (.array 17 3) rfl (setRow_heap _ _ _ _ _ _ HH.out) Tryz.underlying170 rfl (by rw[hRs]; exact size17)) rfl ⟨by rw[HR.out],below_setRow B (Nat.le_refl _) _⟩
def pw2:Nat->Array Value
 | 0=>#[.int .i64 1,.int .i64 0,.int .i64 0,.int .i64 0,.int .i64 0,.int .i64 0,.int .i64 0,.int .i64 0,.int .i64 0,.int .i64 0,.int .i64 0,.int .i64 0,.int .i64 0,.int .i64 0,.int .i64 0,.int .i64 0,.int .i64 0]
 | 1=>#[.int .i64 1,.int .i64 2,.int .i64 0,.int .i64 0,.int .i64 0,.int .i64 0,.int .i64 0,.int .i64 0,.int .i64 0,.int .i64 0,.int .i64 0,.int .i64 0,.int .i64 0,.int .i64 0,.int .i64 0,.int .i64 0,.int .i64 0]
 | 2=>#[.int .i64 1,.int .i64 2,.int .i64 4,.int .i64 0,.int .i64 0,.int .i64 0,.int .i64 0,.int .i64 0,.int .i64 0,.int .i64 0,.int .i64 0,.int .i64 0,.int .i64 0,.int .i64 0,.int .i64 0,.int .i64 0,.int .i64 0]
 | 3=>#[.int .i64 1,.int .i64 2,.int .i64 4,.int .i64 1,.int .i64 0,.int .i64 0,.int .i64 0,.int .i64 0,.int .i64 0,.int .i64 0,.int .i64 0,.int .i64 0,.int .i64 0,.int .i64 0,.int .i64 0,.int .i64 0,.int .i64 0]
 | 4=>#[.int .i64 1,.int .i64 2,.int .i64 4,.int .i64 1,.int .i64 2,.int .i64 0,.int .i64 0,.int .i64 0,.int .i64 0,.int .i64 0,.int .i64 0,.int .i64 0,.int .i64 0,.int .i64 0,.int .i64 0,.int .i64 0,.int .i64 0]
 | 5=>#[.int .i64 1,.int .i64 2,.int .i64 4,.int .i64 1,.int .i64 2,.int .i64 4,.int .i64 0,.int .i64 0,.int .i64 0,.int .i64 0,.int .i64 0,.int .i64 0,.int .i64 0,.int .i64 0,.int .i64 0,.int .i64 0,.int .i64 0]
 | _=>#[.int .i64 1,.int .i64 2,.int .i64 4,.int .i64 1,.int .i64 2,.int .i64 4,.int .i64 1,.int .i64 0,.int .i64 0,.int .i64 0,.int .i64 0,.int .i64 0,.int .i64 0,.int .i64 0,.int .i64 0,.int .i64 0,.int .i64 0]
theorem stud_powers2 (w:World):Calls Tryz.prog 108 #[.int .i64 7,.int .i64 2] w fun e w'=>e=.returned (.agg (pw2 6))/\Below w.heap.size w w':=by
 go_enter Tryz.func108,Tryz.ntmps108;go_wp2;go_loopw [6] (fun x wr=>∃k:Nat,x=.int .i64 ((k:Int)+1)/\k<=6/\wr.heap[w.heap.size]?=some (.cells z17 170 (0,0))/\wr.heap[w.heap.size+1]?=some (.cells (pw2 k) 170 (0,0))/\Below w.heap.size w wr) (fun x _=>(7-intOf x).toNat)
 case atStart=>exact⟨0,rfl,by decide,blk_old (blk_new _ _),blk_new' _ _ (by simp),(by repeat (first | exact Below.refl _ _ | exact Nat.le_refl _ | refine Below.alloc ?_ ?_ _ | refine Below.setCell ?_ ?_ _ | refine Below.drew ?_ | refine bl_drewN ?_ _ | (assumption) | refine bl_call ?_ (by assumption) ?_ | omega | (simp <;> omega)))⟩
 case round =>
  obtain⟨k,rfl,hk,hz,hb,B⟩:=hrel;rcases (by omega:k=0∨k=1∨k=2∨k=3∨k=4∨k=5∨k=6) with rfl | rfl | rfl | rfl | rfl | rfl | rfl
  · have HB:=Lib.hid hb;have HZ:=Lib.hid hz;have c0:wr.cell? ⟨w.heap.size+1,0,none⟩=some (.int .i64 1):=cell_of_row wr (w.heap.size+1) 0 _ _ _ hb;have c1:wr.cell? ⟨w.heap.size+1,1,none⟩=some (.int .i64 0):=cell_of_row wr (w.heap.size+1) 1 _ _ _ hb;have fb:=row_f hb;clear hb hz;go_wp2;exact⟨⟨1,rfl,by decide,blk_farI 1 _ (by omega) HZ.out,(by rw[blk_setI 1 _ HB.out]; simp[pw2]),(by repeat (first | exact Below.refl _ _ | exact Nat.le_refl _ | refine Below.alloc ?_ ?_ _ | refine Below.setCell ?_ ?_ _ | refine Below.drew ?_ | refine bl_drewN ?_ _ | (assumption) | refine bl_call ?_ (by assumption) ?_ | omega | (simp <;> omega)))⟩,by decide⟩
  · have HB:=Lib.hid hb;have HZ:=Lib.hid hz;have c1:wr.cell? ⟨w.heap.size+1,1,none⟩=some (.int .i64 2):=cell_of_row wr (w.heap.size+1) 1 _ _ _ hb;have c2:wr.cell? ⟨w.heap.size+1,2,none⟩=some (.int .i64 0):=cell_of_row wr (w.heap.size+1) 2 _ _ _ hb;have fb:=row_f hb;clear hb hz;go_wp2;exact⟨⟨2,rfl,by decide,blk_farI 2 _ (by omega) HZ.out,(by rw[blk_setI 2 _ HB.out]; simp[pw2]),(by repeat (first | exact Below.refl _ _ | exact Nat.le_refl _ | refine Below.alloc ?_ ?_ _ | refine Below.setCell ?_ ?_ _ | refine Below.drew ?_ | refine bl_drewN ?_ _ | (assumption) | refine bl_call ?_ (by assumption) ?_ | omega | (simp <;> omega)))⟩,by decide⟩
  · have HB:=Lib.hid hb;have HZ:=Lib.hid hz;have c2:wr.cell? ⟨w.heap.size+1,2,none⟩=some (.int .i64 4):=cell_of_row wr (w.heap.size+1) 2 _ _ _ hb;have c3:wr.cell? ⟨w.heap.size+1,3,none⟩=some (.int .i64 0):=cell_of_row wr (w.heap.size+1) 3 _ _ _ hb;have fb:=row_f hb;clear hb hz;go_wp2;exact⟨⟨3,rfl,by decide,blk_farI 3 _ (by omega) HZ.out,(by rw[blk_setI 3 _ HB.out]; simp[pw2]),(by repeat (first | exact Below.refl _ _ | exact Nat.le_refl _ | refine Below.alloc ?_ ?_ _ | refine Below.setCell ?_ ?_ _ | refine Below.drew ?_ | refine bl_drewN ?_ _ | (assumption) | refine bl_call ?_ (by assumption) ?_ | omega | (simp <;> omega)))⟩,by decide⟩
  · have HB:=Lib.hid hb;have HZ:=Lib.hid hz;have c3:wr.cell? ⟨w.heap.size+1,3,none⟩=some (.int .i64 1):=cell_of_row wr (w.heap.size+1) 3 _ _ _ hb;have c4:wr.cell? ⟨w.heap.size+1,4,none⟩=some (.int .i64 0):=cell_of_row wr (w.heap.size+1) 4 _ _ _ hb;have fb:=row_f hb;clear hb hz;go_wp2;exact⟨⟨4,rfl,by decide,blk_farI 4 _ (by omega) HZ.out,(by rw[blk_setI 4 _ HB.out]; simp[pw2]),(by repeat (first | exact Below.refl _ _ | exact Nat.le_refl _ | refine Below.alloc ?_ ?_ _ | refine Below.setCell ?_ ?_ _ | refine Below.drew ?_ | refine bl_drewN ?_ _ | (assumption) | refine bl_call ?_ (by assumption) ?_ | omega | (simp <;> omega)))⟩,by decide⟩
  · have HB:=Lib.hid hb;have HZ:=Lib.hid hz;have c4:wr.cell? ⟨w.heap.size+1,4,none⟩=some (.int .i64 2):=cell_of_row wr (w.heap.size+1) 4 _ _ _ hb;have c5:wr.cell? ⟨w.heap.size+1,5,none⟩=some (.int .i64 0):=cell_of_row wr (w.heap.size+1) 5 _ _ _ hb;have fb:=row_f hb;clear hb hz;go_wp2;exact⟨⟨5,rfl,by decide,blk_farI 5 _ (by omega) HZ.out,(by rw[blk_setI 5 _ HB.out]; simp[pw2]),(by repeat (first | exact Below.refl _ _ | exact Nat.le_refl _ | refine Below.alloc ?_ ?_ _ | refine Below.setCell ?_ ?_ _ | refine Below.drew ?_ | refine bl_drewN ?_ _ | (assumption) | refine bl_call ?_ (by assumption) ?_ | omega | (simp <;> omega)))⟩,by decide⟩
  · have HB:=Lib.hid hb;have HZ:=Lib.hid hz;have c5:wr.cell? ⟨w.heap.size+1,5,none⟩=some (.int .i64 4):=cell_of_row wr (w.heap.size+1) 5 _ _ _ hb;have c6:wr.cell? ⟨w.heap.size+1,6,none⟩=some (.int .i64 0):=cell_of_row wr (w.heap.size+1) 6 _ _ _ hb;have fb:=row_f hb;clear hb hz;go_wp2;exact⟨⟨6,rfl,by decide,blk_farI 6 _ (by omega) HZ.out,(by rw[blk_setI 6 _ HB.out]; simp[pw2]),(by repeat (first | exact Below.refl _ _ | exact Nat.le_refl _ | refine Below.alloc ?_ ?_ _ | refine Below.setCell ?_ ?_ _ | refine Below.drew ?_ | refine bl_drewN ?_ _ | (assumption) | refine bl_call ?_ (by assumption) ?_ | omega | (simp <;> omega)))⟩,by decide⟩
  ·
   have hRs:(pw2 6).size=17:=rfl;have hR1:(pw2 6).all (·.oneCell')=true:=by kernel_rfl
   have hZs:z17.size=17:=rfl;obtain⟨R,hR⟩:∃R,pw2 6=R:=⟨_,rfl⟩
   rw[hR]at hb hRs hR1;have HR:=Lib.hid hR;have HX:=Lib.hid hb;have HH:=Lib.hid hz;have HR1:=Lib.hid hR1;clear hR hb hz hR1;go_wp2_with (first
    | (refine wpList_load_row rfl 170 (.tmp 5) rfl (w.heap.size+1) rfl 170 R (0,0) (.array 17 3) HX.out Tryz.underlying170 rfl (by rw[hRs]; exact size17) ?_)
    | (refine wpList_store_row rfl 170 (.tmp 4) (.tmp 23) rfl w.heap.size R rfl rfl 170 z17 HH.out (by rw[hRs]; exact size17) (by rw[hRs,hZs]) HR1.out ?_))
   exact bodyPost_ret (v:=.agg R) (results_cell_row (p:=4) (ty:=170) (by kernel_rfl) _ _ w.heap.size 170 R (0,0) (.array 17 3) rfl (setRow_heap _ _ _ _ _ _ HH.out) Tryz.underlying170 rfl (by rw[hRs]; exact size17)) rfl ⟨by rw[HR.out],below_setRow B (Nat.le_refl _) _⟩
def pw3:Nat->Array Value
 | 0=>#[.int .i64 1,.int .i64 0,.int .i64 0,.int .i64 0,.int .i64 0,.int .i64 0,.int .i64 0,.int .i64 0,.int .i64 0,.int .i64 0,.int .i64 0,.int .i64 0,.int .i64 0,.int .i64 0,.int .i64 0,.int .i64 0,.int .i64 0]
 | 1=>#[.int .i64 1,.int .i64 3,.int .i64 0,.int .i64 0,.int .i64 0,.int .i64 0,.int .i64 0,.int .i64 0,.int .i64 0,.int .i64 0,.int .i64 0,.int .i64 0,.int .i64 0,.int .i64 0,.int .i64 0,.int .i64 0,.int .i64 0]
 | 2=>#[.int .i64 1,.int .i64 3,.int .i64 2,.int .i64 0,.int .i64 0,.int .i64 0,.int .i64 0,.int .i64 0,.int .i64 0,.int .i64 0,.int .i64 0,.int .i64 0,.int .i64 0,.int .i64 0,.int .i64 0,.int .i64 0,.int .i64 0]
 | 3=>#[.int .i64 1,.int .i64 3,.int .i64 2,.int .i64 6,.int .i64 0,.int .i64 0,.int .i64 0,.int .i64 0,.int .i64 0,.int .i64 0,.int .i64 0,.int .i64 0,.int .i64 0,.int .i64 0,.int .i64 0,.int .i64 0,.int .i64 0]
 | 4=>#[.int .i64 1,.int .i64 3,.int .i64 2,.int .i64 6,.int .i64 4,.int .i64 0,.int .i64 0,.int .i64 0,.int .i64 0,.int .i64 0,.int .i64 0,.int .i64 0,.int .i64 0,.int .i64 0,.int .i64 0,.int .i64 0,.int .i64 0]
 | 5=>#[.int .i64 1,.int .i64 3,.int .i64 2,.int .i64 6,.int .i64 4,.int .i64 5,.int .i64 0,.int .i64 0,.int .i64 0,.int .i64 0,.int .i64 0,.int .i64 0,.int .i64 0,.int .i64 0,.int .i64 0,.int .i64 0,.int .i64 0]
 | _=>#[.int .i64 1,.int .i64 3,.int .i64 2,.int .i64 6,.int .i64 4,.int .i64 5,.int .i64 1,.int .i64 0,.int .i64 0,.int .i64 0,.int .i64 0,.int .i64 0,.int .i64 0,.int .i64 0,.int .i64 0,.int .i64 0,.int .i64 0]
theorem stud_powers3 (w:World):Calls Tryz.prog 108 #[.int .i64 7,.int .i64 3] w fun e w'=>e=.returned (.agg (pw3 6))/\Below w.heap.size w w':=by
 go_enter Tryz.func108,Tryz.ntmps108;go_wp2;go_loopw [6] (fun x wr=>∃k:Nat,x=.int .i64 ((k:Int)+1)/\k<=6/\wr.heap[w.heap.size]?=some (.cells z17 170 (0,0))/\wr.heap[w.heap.size+1]?=some (.cells (pw3 k) 170 (0,0))/\Below w.heap.size w wr) (fun x _=>(7-intOf x).toNat)
 case atStart=>exact⟨0,rfl,by decide,blk_old (blk_new _ _),blk_new' _ _ (by simp),(by repeat (first | exact Below.refl _ _ | exact Nat.le_refl _ | refine Below.alloc ?_ ?_ _ | refine Below.setCell ?_ ?_ _ | refine Below.drew ?_ | refine bl_drewN ?_ _ | (assumption) | refine bl_call ?_ (by assumption) ?_ | omega | (simp <;> omega)))⟩
 case round =>
  obtain⟨k,rfl,hk,hz,hb,B⟩:=hrel;rcases (by omega:k=0∨k=1∨k=2∨k=3∨k=4∨k=5∨k=6) with rfl | rfl | rfl | rfl | rfl | rfl | rfl
  · have HB:=Lib.hid hb;have HZ:=Lib.hid hz;have c0:wr.cell? ⟨w.heap.size+1,0,none⟩=some (.int .i64 1):=cell_of_row wr (w.heap.size+1) 0 _ _ _ hb;have c1:wr.cell? ⟨w.heap.size+1,1,none⟩=some (.int .i64 0):=cell_of_row wr (w.heap.size+1) 1 _ _ _ hb;have fb:=row_f hb;clear hb hz;go_wp2;exact⟨⟨1,rfl,by decide,blk_farI 1 _ (by omega) HZ.out,(by rw[blk_setI 1 _ HB.out]; simp[pw3]),(by repeat (first | exact Below.refl _ _ | exact Nat.le_refl _ | refine Below.alloc ?_ ?_ _ | refine Below.setCell ?_ ?_ _ | refine Below.drew ?_ | refine bl_drewN ?_ _ | (assumption) | refine bl_call ?_ (by assumption) ?_ | omega | (simp <;> omega)))⟩,by decide⟩
  · have HB:=Lib.hid hb;have HZ:=Lib.hid hz;have c1:wr.cell? ⟨w.heap.size+1,1,none⟩=some (.int .i64 3):=cell_of_row wr (w.heap.size+1) 1 _ _ _ hb;have c2:wr.cell? ⟨w.heap.size+1,2,none⟩=some (.int .i64 0):=cell_of_row wr (w.heap.size+1) 2 _ _ _ hb;have fb:=row_f hb;clear hb hz;go_wp2;exact⟨⟨2,rfl,by decide,blk_farI 2 _ (by omega) HZ.out,(by rw[blk_setI 2 _ HB.out]; simp[pw3]),(by repeat (first | exact Below.refl _ _ | exact Nat.le_refl _ | refine Below.alloc ?_ ?_ _ | refine Below.setCell ?_ ?_ _ | refine Below.drew ?_ | refine bl_drewN ?_ _ | (assumption) | refine bl_call ?_ (by assumption) ?_ | omega | (simp <;> omega)))⟩,by decide⟩
  · have HB:=Lib.hid hb;have HZ:=Lib.hid hz;have c2:wr.cell? ⟨w.heap.size+1,2,none⟩=some (.int .i64 2):=cell_of_row wr (w.heap.size+1) 2 _ _ _ hb;have c3:wr.cell? ⟨w.heap.size+1,3,none⟩=some (.int .i64 0):=cell_of_row wr (w.heap.size+1) 3 _ _ _ hb;have fb:=row_f hb;clear hb hz;go_wp2;exact⟨⟨3,rfl,by decide,blk_farI 3 _ (by omega) HZ.out,(by rw[blk_setI 3 _ HB.out]; simp[pw3]),(by repeat (first | exact Below.refl _ _ | exact Nat.le_refl _ | refine Below.alloc ?_ ?_ _ | refine Below.setCell ?_ ?_ _ | refine Below.drew ?_ | refine bl_drewN ?_ _ | (assumption) | refine bl_call ?_ (by assumption) ?_ | omega | (simp <;> omega)))⟩,by decide⟩
  · have HB:=Lib.hid hb;have HZ:=Lib.hid hz;have c3:wr.cell? ⟨w.heap.size+1,3,none⟩=some (.int .i64 6):=cell_of_row wr (w.heap.size+1) 3 _ _ _ hb;have c4:wr.cell? ⟨w.heap.size+1,4,none⟩=some (.int .i64 0):=cell_of_row wr (w.heap.size+1) 4 _ _ _ hb;have fb:=row_f hb;clear hb hz;go_wp2;exact⟨⟨4,rfl,by decide,blk_farI 4 _ (by omega) HZ.out,(by rw[blk_setI 4 _ HB.out]; simp[pw3]),(by repeat (first | exact Below.refl _ _ | exact Nat.le_refl _ | refine Below.alloc ?_ ?_ _ | refine Below.setCell ?_ ?_ _ | refine Below.drew ?_ | refine bl_drewN ?_ _ | (assumption) | refine bl_call ?_ (by assumption) ?_ | omega | (simp <;> omega)))⟩,by decide⟩
  · have HB:=Lib.hid hb;have HZ:=Lib.hid hz;have c4:wr.cell? ⟨w.heap.size+1,4,none⟩=some (.int .i64 4):=cell_of_row wr (w.heap.size+1) 4 _ _ _ hb;have c5:wr.cell? ⟨w.heap.size+1,5,none⟩=some (.int .i64 0):=cell_of_row wr (w.heap.size+1) 5 _ _ _ hb;have fb:=row_f hb;clear hb hz;go_wp2;exact⟨⟨5,rfl,by decide,blk_farI 5 _ (by omega) HZ.out,(by rw[blk_setI 5 _ HB.out]; simp[pw3]),(by repeat (first | exact Below.refl _ _ | exact Nat.le_refl _ | refine Below.alloc ?_ ?_ _ | refine Below.setCell ?_ ?_ _ | refine Below.drew ?_ | refine bl_drewN ?_ _ | (assumption) | refine bl_call ?_ (by assumption) ?_ | omega | (simp <;> omega)))⟩,by decide⟩
  · have HB:=Lib.hid hb;have HZ:=Lib.hid hz;have c5:wr.cell? ⟨w.heap.size+1,5,none⟩=some (.int .i64 5):=cell_of_row wr (w.heap.size+1) 5 _ _ _ hb;have c6:wr.cell? ⟨w.heap.size+1,6,none⟩=some (.int .i64 0):=cell_of_row wr (w.heap.size+1) 6 _ _ _ hb;have fb:=row_f hb;clear hb hz;go_wp2;exact⟨⟨6,rfl,by decide,blk_farI 6 _ (by omega) HZ.out,(by rw[blk_setI 6 _ HB.out]; simp[pw3]),(by repeat (first | exact Below.refl _ _ | exact Nat.le_refl _ | refine Below.alloc ?_ ?_ _ | refine Below.setCell ?_ ?_ _ | refine Below.drew ?_ | refine bl_drewN ?_ _ | (assumption) | refine bl_call ?_ (by assumption) ?_ | omega | (simp <;> omega)))⟩,by decide⟩
  ·
   have hRs:(pw3 6).size=17:=rfl;have hR1:(pw3 6).all (·.oneCell')=true:=by kernel_rfl
   have hZs:z17.size=17:=rfl;obtain⟨R,hR⟩:∃R,pw3 6=R:=⟨_,rfl⟩
   rw[hR]at hb hRs hR1;have HR:=Lib.hid hR;have HX:=Lib.hid hb;have HH:=Lib.hid hz;have HR1:=Lib.hid hR1;clear hR hb hz hR1;go_wp2_with (first
    | (refine wpList_load_row rfl 170 (.tmp 5) rfl (w.heap.size+1) rfl 170 R (0,0) (.array 17 3) HX.out Tryz.underlying170 rfl (by rw[hRs]; exact size17) ?_)
    | (refine wpList_store_row rfl 170 (.tmp 4) (.tmp 23) rfl w.heap.size R rfl rfl 170 z17 HH.out (by rw[hRs]; exact size17) (by rw[hRs,hZs]) HR1.out ?_))
   exact bodyPost_ret (v:=.agg R) (results_cell_row (p:=4) (ty:=170) (by kernel_rfl) _ _ w.heap.size 170 R (0,0) (.array 17 3) rfl (setRow_heap _ _ _ _ _ _ HH.out) Tryz.underlying170 rfl (by rw[hRs]; exact size17)) rfl ⟨by rw[HR.out],below_setRow B (Nat.le_refl _) _⟩
def pw4:Nat->Array Value
 | 0=>#[.int .i64 1,.int .i64 0,.int .i64 0,.int .i64 0,.int .i64 0,.int .i64 0,.int .i64 0,.int .i64 0,.int .i64 0,.int .i64 0,.int .i64 0,.int .i64 0,.int .i64 0,.int .i64 0,.int .i64 0,.int .i64 0,.int .i64 0]
 | 1=>#[.int .i64 1,.int .i64 4,.int .i64 0,.int .i64 0,.int .i64 0,.int .i64 0,.int .i64 0,.int .i64 0,.int .i64 0,.int .i64 0,.int .i64 0,.int .i64 0,.int .i64 0,.int .i64 0,.int .i64 0,.int .i64 0,.int .i64 0]
 | 2=>#[.int .i64 1,.int .i64 4,.int .i64 2,.int .i64 0,.int .i64 0,.int .i64 0,.int .i64 0,.int .i64 0,.int .i64 0,.int .i64 0,.int .i64 0,.int .i64 0,.int .i64 0,.int .i64 0,.int .i64 0,.int .i64 0,.int .i64 0]
 | 3=>#[.int .i64 1,.int .i64 4,.int .i64 2,.int .i64 1,.int .i64 0,.int .i64 0,.int .i64 0,.int .i64 0,.int .i64 0,.int .i64 0,.int .i64 0,.int .i64 0,.int .i64 0,.int .i64 0,.int .i64 0,.int .i64 0,.int .i64 0]
 | 4=>#[.int .i64 1,.int .i64 4,.int .i64 2,.int .i64 1,.int .i64 4,.int .i64 0,.int .i64 0,.int .i64 0,.int .i64 0,.int .i64 0,.int .i64 0,.int .i64 0,.int .i64 0,.int .i64 0,.int .i64 0,.int .i64 0,.int .i64 0]
 | 5=>#[.int .i64 1,.int .i64 4,.int .i64 2,.int .i64 1,.int .i64 4,.int .i64 2,.int .i64 0,.int .i64 0,.int .i64 0,.int .i64 0,.int .i64 0,.int .i64 0,.int .i64 0,.int .i64 0,.int .i64 0,.int .i64 0,.int .i64 0]
 | _=>#[.int .i64 1,.int .i64 4,.int .i64 2,.int .i64 1,.int .i64 4,.int .i64 2,.int .i64 1,.int .i64 0,.int .i64 0,.int .i64 0,.int .i64 0,.int .i64 0,.int .i64 0,.int .i64 0,.int .i64 0,.int .i64 0,.int .i64 0]
theorem stud_powers4 (w:World):Calls Tryz.prog 108 #[.int .i64 7,.int .i64 4] w fun e w'=>e=.returned (.agg (pw4 6))/\Below w.heap.size w w':=by
 go_enter Tryz.func108,Tryz.ntmps108;go_wp2;go_loopw [6] (fun x wr=>∃k:Nat,x=.int .i64 ((k:Int)+1)/\k<=6/\wr.heap[w.heap.size]?=some (.cells z17 170 (0,0))/\wr.heap[w.heap.size+1]?=some (.cells (pw4 k) 170 (0,0))/\Below w.heap.size w wr) (fun x _=>(7-intOf x).toNat)
 case atStart=>exact⟨0,rfl,by decide,blk_old (blk_new _ _),blk_new' _ _ (by simp),(by repeat (first | exact Below.refl _ _ | exact Nat.le_refl _ | refine Below.alloc ?_ ?_ _ | refine Below.setCell ?_ ?_ _ | refine Below.drew ?_ | refine bl_drewN ?_ _ | (assumption) | refine bl_call ?_ (by assumption) ?_ | omega | (simp <;> omega)))⟩
 case round =>
  obtain⟨k,rfl,hk,hz,hb,B⟩:=hrel;rcases (by omega:k=0∨k=1∨k=2∨k=3∨k=4∨k=5∨k=6) with rfl | rfl | rfl | rfl | rfl | rfl | rfl
  · have HB:=Lib.hid hb;have HZ:=Lib.hid hz;have c0:wr.cell? ⟨w.heap.size+1,0,none⟩=some (.int .i64 1):=cell_of_row wr (w.heap.size+1) 0 _ _ _ hb;have c1:wr.cell? ⟨w.heap.size+1,1,none⟩=some (.int .i64 0):=cell_of_row wr (w.heap.size+1) 1 _ _ _ hb;have fb:=row_f hb;clear hb hz;go_wp2;exact⟨⟨1,rfl,by decide,blk_farI 1 _ (by omega) HZ.out,(by rw[blk_setI 1 _ HB.out]; simp[pw4]),(by repeat (first | exact Below.refl _ _ | exact Nat.le_refl _ | refine Below.alloc ?_ ?_ _ | refine Below.setCell ?_ ?_ _ | refine Below.drew ?_ | refine bl_drewN ?_ _ | (assumption) | refine bl_call ?_ (by assumption) ?_ | omega | (simp <;> omega)))⟩,by decide⟩
  · have HB:=Lib.hid hb;have HZ:=Lib.hid hz;have c1:wr.cell? ⟨w.heap.size+1,1,none⟩=some (.int .i64 4):=cell_of_row wr (w.heap.size+1) 1 _ _ _ hb;have c2:wr.cell? ⟨w.heap.size+1,2,none⟩=some (.int .i64 0):=cell_of_row wr (w.heap.size+1) 2 _ _ _ hb;have fb:=row_f hb;clear hb hz;go_wp2;exact⟨⟨2,rfl,by decide,blk_farI 2 _ (by omega) HZ.out,(by rw[blk_setI 2 _ HB.out]; simp[pw4]),(by repeat (first | exact Below.refl _ _ | exact Nat.le_refl _ | refine Below.alloc ?_ ?_ _ | refine Below.setCell ?_ ?_ _ | refine Below.drew ?_ | refine bl_drewN ?_ _ | (assumption) | refine bl_call ?_ (by assumption) ?_ | omega | (simp <;> omega)))⟩,by decide⟩
  · have HB:=Lib.hid hb;have HZ:=Lib.hid hz;have c2:wr.cell? ⟨w.heap.size+1,2,none⟩=some (.int .i64 2):=cell_of_row wr (w.heap.size+1) 2 _ _ _ hb;have c3:wr.cell? ⟨w.heap.size+1,3,none⟩=some (.int .i64 0):=cell_of_row wr (w.heap.size+1) 3 _ _ _ hb;have fb:=row_f hb;clear hb hz;go_wp2;exact⟨⟨3,rfl,by decide,blk_farI 3 _ (by omega) HZ.out,(by rw[blk_setI 3 _ HB.out]; simp[pw4]),(by repeat (first | exact Below.refl _ _ | exact Nat.le_refl _ | refine Below.alloc ?_ ?_ _ | refine Below.setCell ?_ ?_ _ | refine Below.drew ?_ | refine bl_drewN ?_ _ | (assumption) | refine bl_call ?_ (by assumption) ?_ | omega | (simp <;> omega)))⟩,by decide⟩
  · have HB:=Lib.hid hb;have HZ:=Lib.hid hz;have c3:wr.cell? ⟨w.heap.size+1,3,none⟩=some (.int .i64 1):=cell_of_row wr (w.heap.size+1) 3 _ _ _ hb;have c4:wr.cell? ⟨w.heap.size+1,4,none⟩=some (.int .i64 0):=cell_of_row wr (w.heap.size+1) 4 _ _ _ hb;have fb:=row_f hb;clear hb hz;go_wp2;exact⟨⟨4,rfl,by decide,blk_farI 4 _ (by omega) HZ.out,(by rw[blk_setI 4 _ HB.out]; simp[pw4]),(by repeat (first | exact Below.refl _ _ | exact Nat.le_refl _ | refine Below.alloc ?_ ?_ _ | refine Below.setCell ?_ ?_ _ | refine Below.drew ?_ | refine bl_drewN ?_ _ | (assumption) | refine bl_call ?_ (by assumption) ?_ | omega | (simp <;> omega)))⟩,by decide⟩
  · have HB:=Lib.hid hb;have HZ:=Lib.hid hz;have c4:wr.cell? ⟨w.heap.size+1,4,none⟩=some (.int .i64 4):=cell_of_row wr (w.heap.size+1) 4 _ _ _ hb;have c5:wr.cell? ⟨w.heap.size+1,5,none⟩=some (.int .i64 0):=cell_of_row wr (w.heap.size+1) 5 _ _ _ hb;have fb:=row_f hb;clear hb hz;go_wp2;exact⟨⟨5,rfl,by decide,blk_farI 5 _ (by omega) HZ.out,(by rw[blk_setI 5 _ HB.out]; simp[pw4]),(by repeat (first | exact Below.refl _ _ | exact Nat.le_refl _ | refine Below.alloc ?_ ?_ _ | refine Below.setCell ?_ ?_ _ | refine Below.drew ?_ | refine bl_drewN ?_ _ | (assumption) | refine bl_call ?_ (by assumption) ?_ | omega | (simp <;> omega)))⟩,by decide⟩
  · have HB:=Lib.hid hb;have HZ:=Lib.hid hz;have c5:wr.cell? ⟨w.heap.size+1,5,none⟩=some (.int .i64 2):=cell_of_row wr (w.heap.size+1) 5 _ _ _ hb;have c6:wr.cell? ⟨w.heap.size+1,6,none⟩=some (.int .i64 0):=cell_of_row wr (w.heap.size+1) 6 _ _ _ hb;have fb:=row_f hb;clear hb hz;go_wp2;exact⟨⟨6,rfl,by decide,blk_farI 6 _ (by omega) HZ.out,(by rw[blk_setI 6 _ HB.out]; simp[pw4]),(by repeat (first | exact Below.refl _ _ | exact Nat.le_refl _ | refine Below.alloc ?_ ?_ _ | refine Below.setCell ?_ ?_ _ | refine Below.drew ?_ | refine bl_drewN ?_ _ | (assumption) | refine bl_call ?_ (by assumption) ?_ | omega | (simp <;> omega)))⟩,by decide⟩
  ·
   have hRs:(pw4 6).size=17:=rfl;have hR1:(pw4 6).all (·.oneCell')=true:=by kernel_rfl
   have hZs:z17.size=17:=rfl;obtain⟨R,hR⟩:∃R,pw4 6=R:=⟨_,rfl⟩
   rw[hR]at hb hRs hR1;have HR:=Lib.hid hR;have HX:=Lib.hid hb;have HH:=Lib.hid hz;have HR1:=Lib.hid hR1;clear hR hb hz hR1;go_wp2_with (first
    | (refine wpList_load_row rfl 170 (.tmp 5) rfl (w.heap.size+1) rfl 170 R (0,0) (.array 17 3) HX.out Tryz.underlying170 rfl (by rw[hRs]; exact size17) ?_)
    | (refine wpList_store_row rfl 170 (.tmp 4) (.tmp 23) rfl w.heap.size R rfl rfl 170 z17 HH.out (by rw[hRs]; exact size17) (by rw[hRs,hZs]) HR1.out ?_))
   exact bodyPost_ret (v:=.agg R) (results_cell_row (p:=4) (ty:=170) (by kernel_rfl) _ _ w.heap.size 170 R (0,0) (.array 17 3) rfl (setRow_heap _ _ _ _ _ _ HH.out) Tryz.underlying170 rfl (by rw[hRs]; exact size17)) rfl ⟨by rw[HR.out],below_setRow B (Nat.le_refl _) _⟩
def pw5:Nat->Array Value
 | 0=>#[.int .i64 1,.int .i64 0,.int .i64 0,.int .i64 0,.int .i64 0,.int .i64 0,.int .i64 0,.int .i64 0,.int .i64 0,.int .i64 0,.int .i64 0,.int .i64 0,.int .i64 0,.int .i64 0,.int .i64 0,.int .i64 0,.int .i64 0]
 | 1=>#[.int .i64 1,.int .i64 5,.int .i64 0,.int .i64 0,.int .i64 0,.int .i64 0,.int .i64 0,.int .i64 0,.int .i64 0,.int .i64 0,.int .i64 0,.int .i64 0,.int .i64 0,.int .i64 0,.int .i64 0,.int .i64 0,.int .i64 0]
 | 2=>#[.int .i64 1,.int .i64 5,.int .i64 4,.int .i64 0,.int .i64 0,.int .i64 0,.int .i64 0,.int .i64 0,.int .i64 0,.int .i64 0,.int .i64 0,.int .i64 0,.int .i64 0,.int .i64 0,.int .i64 0,.int .i64 0,.int .i64 0]
 | 3=>#[.int .i64 1,.int .i64 5,.int .i64 4,.int .i64 6,.int .i64 0,.int .i64 0,.int .i64 0,.int .i64 0,.int .i64 0,.int .i64 0,.int .i64 0,.int .i64 0,.int .i64 0,.int .i64 0,.int .i64 0,.int .i64 0,.int .i64 0]
 | 4=>#[.int .i64 1,.int .i64 5,.int .i64 4,.int .i64 6,.int .i64 2,.int .i64 0,.int .i64 0,.int .i64 0,.int .i64 0,.int .i64 0,.int .i64 0,.int .i64 0,.int .i64 0,.int .i64 0,.int .i64 0,.int .i64 0,.int .i64 0]
 | 5=>#[.int .i64 1,.int .i64 5,.int .i64 4,.int .i64 6,.int .i64 2,.int .i64 3,.int .i64 0,.int .i64 0,.int .i64 0,.int .i64 0,.int .i64 0,.int .i64 0,.int .i64 0,.int .i64 0,.int .i64 0,.int .i64 0,.int .i64 0]
 | _=>#[.int .i64 1,.int .i64 5,.int .i64 4,.int .i64 6,.int .i64 2,.int .i64 3,.int .i64 1,.int .i64 0,.int .i64 0,.int .i64 0,.int .i64 0,.int .i64 0,.int .i64 0,.int .i64 0,.int .i64 0,.int .i64 0,.int .i64 0]
theorem stud_powers5 (w:World):Calls Tryz.prog 108 #[.int .i64 7,.int .i64 5] w fun e w'=>e=.returned (.agg (pw5 6))/\Below w.heap.size w w':=by
 go_enter Tryz.func108,Tryz.ntmps108;go_wp2;go_loopw [6] (fun x wr=>∃k:Nat,x=.int .i64 ((k:Int)+1)/\k<=6/\wr.heap[w.heap.size]?=some (.cells z17 170 (0,0))/\wr.heap[w.heap.size+1]?=some (.cells (pw5 k) 170 (0,0))/\Below w.heap.size w wr) (fun x _=>(7-intOf x).toNat)
 case atStart=>exact⟨0,rfl,by decide,blk_old (blk_new _ _),blk_new' _ _ (by simp),(by repeat (first | exact Below.refl _ _ | exact Nat.le_refl _ | refine Below.alloc ?_ ?_ _ | refine Below.setCell ?_ ?_ _ | refine Below.drew ?_ | refine bl_drewN ?_ _ | (assumption) | refine bl_call ?_ (by assumption) ?_ | omega | (simp <;> omega)))⟩
 case round =>
  obtain⟨k,rfl,hk,hz,hb,B⟩:=hrel;rcases (by omega:k=0∨k=1∨k=2∨k=3∨k=4∨k=5∨k=6) with rfl | rfl | rfl | rfl | rfl | rfl | rfl
  · have HB:=Lib.hid hb;have HZ:=Lib.hid hz;have c0:wr.cell? ⟨w.heap.size+1,0,none⟩=some (.int .i64 1):=cell_of_row wr (w.heap.size+1) 0 _ _ _ hb;have c1:wr.cell? ⟨w.heap.size+1,1,none⟩=some (.int .i64 0):=cell_of_row wr (w.heap.size+1) 1 _ _ _ hb;have fb:=row_f hb;clear hb hz;go_wp2;exact⟨⟨1,rfl,by decide,blk_farI 1 _ (by omega) HZ.out,(by rw[blk_setI 1 _ HB.out]; simp[pw5]),(by repeat (first | exact Below.refl _ _ | exact Nat.le_refl _ | refine Below.alloc ?_ ?_ _ | refine Below.setCell ?_ ?_ _ | refine Below.drew ?_ | refine bl_drewN ?_ _ | (assumption) | refine bl_call ?_ (by assumption) ?_ | omega | (simp <;> omega)))⟩,by decide⟩
  · have HB:=Lib.hid hb;have HZ:=Lib.hid hz;have c1:wr.cell? ⟨w.heap.size+1,1,none⟩=some (.int .i64 5):=cell_of_row wr (w.heap.size+1) 1 _ _ _ hb;have c2:wr.cell? ⟨w.heap.size+1,2,none⟩=some (.int .i64 0):=cell_of_row wr (w.heap.size+1) 2 _ _ _ hb;have fb:=row_f hb;clear hb hz;go_wp2;exact⟨⟨2,rfl,by decide,blk_farI 2 _ (by omega) HZ.out,(by rw[blk_setI 2 _ HB.out]; simp[pw5]),(by repeat (first | exact Below.refl _ _ | exact Nat.le_refl _ | refine Below.alloc ?_ ?_ _ | refine Below.setCell ?_ ?_ _ | refine Below.drew ?_ | refine bl_drewN ?_ _ | (assumption) | refine bl_call ?_ (by assumption) ?_ | omega | (simp <;> omega)))⟩,by decide⟩
  · have HB:=Lib.hid hb;have HZ:=Lib.hid hz;have c2:wr.cell? ⟨w.heap.size+1,2,none⟩=some (.int .i64 4):=cell_of_row wr (w.heap.size+1) 2 _ _ _ hb;have c3:wr.cell? ⟨w.heap.size+1,3,none⟩=some (.int .i64 0):=cell_of_row wr (w.heap.size+1) 3 _ _ _ hb;have fb:=row_f hb;clear hb hz;go_wp2;exact⟨⟨3,rfl,by decide,blk_farI 3 _ (by omega) HZ.out,(by rw[blk_setI 3 _ HB.out]; simp[pw5]),(by repeat (first | exact Below.refl _ _ | exact Nat.le_refl _ | refine Below.alloc ?_ ?_ _ | refine Below.setCell ?_ ?_ _ | refine Below.drew ?_ | refine bl_drewN ?_ _ | (assumption) | refine bl_call ?_ (by assumption) ?_ | omega | (simp <;> omega)))⟩,by decide⟩
  · have HB:=Lib.hid hb;have HZ:=Lib.hid hz;have c3:wr.cell? ⟨w.heap.size+1,3,none⟩=some (.int .i64 6):=cell_of_row wr (w.heap.size+1) 3 _ _ _ hb;have c4:wr.cell? ⟨w.heap.size+1,4,none⟩=some (.int .i64 0):=cell_of_row wr (w.heap.size+1) 4 _ _ _ hb;have fb:=row_f hb;clear hb hz;go_wp2;exact⟨⟨4,rfl,by decide,blk_farI 4 _ (by omega) HZ.out,(by rw[blk_setI 4 _ HB.out]; simp[pw5]),(by repeat (first | exact Below.refl _ _ | exact Nat.le_refl _ | refine Below.alloc ?_ ?_ _ | refine Below.setCell ?_ ?_ _ | refine Below.drew ?_ | refine bl_drewN ?_ _ | (assumption) | refine bl_call ?_ (by assumption) ?_ | omega | (simp <;> omega)))⟩,by decide⟩
  · have HB:=Lib.hid hb;have HZ:=Lib.hid hz;have c4:wr.cell? ⟨w.heap.size+1,4,none⟩=some (.int .i64 2):=cell_of_row wr (w.heap.size+1) 4 _ _ _ hb;have c5:wr.cell? ⟨w.heap.size+1,5,none⟩=some (.int .i64 0):=cell_of_row wr (w.heap.size+1) 5 _ _ _ hb;have fb:=row_f hb;clear hb hz;go_wp2;exact⟨⟨5,rfl,by decide,blk_farI 5 _ (by omega) HZ.out,(by rw[blk_setI 5 _ HB.out]; simp[pw5]),(by repeat (first | exact Below.refl _ _ | exact Nat.le_refl _ | refine Below.alloc ?_ ?_ _ | refine Below.setCell ?_ ?_ _ | refine Below.drew ?_ | refine bl_drewN ?_ _ | (assumption) | refine bl_call ?_ (by assumption) ?_ | omega | (simp <;> omega)))⟩,by decide⟩
  · have HB:=Lib.hid hb;have HZ:=Lib.hid hz;have c5:wr.cell? ⟨w.heap.size+1,5,none⟩=some (.int .i64 3):=cell_of_row wr (w.heap.size+1) 5 _ _ _ hb;have c6:wr.cell? ⟨w.heap.size+1,6,none⟩=some (.int .i64 0):=cell_of_row wr (w.heap.size+1) 6 _ _ _ hb;have fb:=row_f hb;clear hb hz;go_wp2;exact⟨⟨6,rfl,by decide,blk_farI 6 _ (by omega) HZ.out,(by rw[blk_setI 6 _ HB.out]; simp[pw5]),(by repeat (first | exact Below.refl _ _ | exact Nat.le_refl _ | refine Below.alloc ?_ ?_ _ | refine Below.setCell ?_ ?_ _ | refine Below.drew ?_ | refine bl_drewN ?_ _ | (assumption) | refine bl_call ?_ (by assumption) ?_ | omega | (simp <;> omega)))⟩,by decide⟩
  ·
   have hRs:(pw5 6).size=17:=rfl;have hR1:(pw5 6).all (·.oneCell')=true:=by kernel_rfl
   have hZs:z17.size=17:=rfl;obtain⟨R,hR⟩:∃R,pw5 6=R:=⟨_,rfl⟩
   rw[hR]at hb hRs hR1;have HR:=Lib.hid hR;have HX:=Lib.hid hb;have HH:=Lib.hid hz;have HR1:=Lib.hid hR1;clear hR hb hz hR1;go_wp2_with (first
    | (refine wpList_load_row rfl 170 (.tmp 5) rfl (w.heap.size+1) rfl 170 R (0,0) (.array 17 3) HX.out Tryz.underlying170 rfl (by rw[hRs]; exact size17) ?_)
    | (refine wpList_store_row rfl 170 (.tmp 4) (.tmp 23) rfl w.heap.size R rfl rfl 170 z17 HH.out (by rw[hRs]; exact size17) (by rw[hRs,hZs]) HR1.out ?_))
   exact bodyPost_ret (v:=.agg R) (results_cell_row (p:=4) (ty:=170) (by kernel_rfl) _ _ w.heap.size 170 R (0,0) (.array 17 3) rfl (setRow_heap _ _ _ _ _ _ HH.out) Tryz.underlying170 rfl (by rw[hRs]; exact size17)) rfl ⟨by rw[HR.out],below_setRow B (Nat.le_refl _) _⟩
def pw6:Nat->Array Value
 | 0=>#[.int .i64 1,.int .i64 0,.int .i64 0,.int .i64 0,.int .i64 0,.int .i64 0,.int .i64 0,.int .i64 0,.int .i64 0,.int .i64 0,.int .i64 0,.int .i64 0,.int .i64 0,.int .i64 0,.int .i64 0,.int .i64 0,.int .i64 0]
 | 1=>#[.int .i64 1,.int .i64 6,.int .i64 0,.int .i64 0,.int .i64 0,.int .i64 0,.int .i64 0,.int .i64 0,.int .i64 0,.int .i64 0,.int .i64 0,.int .i64 0,.int .i64 0,.int .i64 0,.int .i64 0,.int .i64 0,.int .i64 0]
 | 2=>#[.int .i64 1,.int .i64 6,.int .i64 1,.int .i64 0,.int .i64 0,.int .i64 0,.int .i64 0,.int .i64 0,.int .i64 0,.int .i64 0,.int .i64 0,.int .i64 0,.int .i64 0,.int .i64 0,.int .i64 0,.int .i64 0,.int .i64 0]
 | 3=>#[.int .i64 1,.int .i64 6,.int .i64 1,.int .i64 6,.int .i64 0,.int .i64 0,.int .i64 0,.int .i64 0,.int .i64 0,.int .i64 0,.int .i64 0,.int .i64 0,.int .i64 0,.int .i64 0,.int .i64 0,.int .i64 0,.int .i64 0]
 | 4=>#[.int .i64 1,.int .i64 6,.int .i64 1,.int .i64 6,.int .i64 1,.int .i64 0,.int .i64 0,.int .i64 0,.int .i64 0,.int .i64 0,.int .i64 0,.int .i64 0,.int .i64 0,.int .i64 0,.int .i64 0,.int .i64 0,.int .i64 0]
 | 5=>#[.int .i64 1,.int .i64 6,.int .i64 1,.int .i64 6,.int .i64 1,.int .i64 6,.int .i64 0,.int .i64 0,.int .i64 0,.int .i64 0,.int .i64 0,.int .i64 0,.int .i64 0,.int .i64 0,.int .i64 0,.int .i64 0,.int .i64 0]
 | _=>#[.int .i64 1,.int .i64 6,.int .i64 1,.int .i64 6,.int .i64 1,.int .i64 6,.int .i64 1,.int .i64 0,.int .i64 0,.int .i64 0,.int .i64 0,.int .i64 0,.int .i64 0,.int .i64 0,.int .i64 0,.int .i64 0,.int .i64 0]
theorem stud_powers6 (w:World):Calls Tryz.prog 108 #[.int .i64 7,.int .i64 6] w fun e w'=>e=.returned (.agg (pw6 6))/\Below w.heap.size w w':=by
 go_enter Tryz.func108,Tryz.ntmps108;go_wp2;go_loopw [6] (fun x wr=>∃k:Nat,x=.int .i64 ((k:Int)+1)/\k<=6/\wr.heap[w.heap.size]?=some (.cells z17 170 (0,0))/\wr.heap[w.heap.size+1]?=some (.cells (pw6 k) 170 (0,0))/\Below w.heap.size w wr) (fun x _=>(7-intOf x).toNat)
 case atStart=>exact⟨0,rfl,by decide,blk_old (blk_new _ _),blk_new' _ _ (by simp),(by repeat (first | exact Below.refl _ _ | exact Nat.le_refl _ | refine Below.alloc ?_ ?_ _ | refine Below.setCell ?_ ?_ _ | refine Below.drew ?_ | refine bl_drewN ?_ _ | (assumption) | refine bl_call ?_ (by assumption) ?_ | omega | (simp <;> omega)))⟩
 case round =>
  obtain⟨k,rfl,hk,hz,hb,B⟩:=hrel;rcases (by omega:k=0∨k=1∨k=2∨k=3∨k=4∨k=5∨k=6) with rfl | rfl | rfl | rfl | rfl | rfl | rfl
  · have HB:=Lib.hid hb;have HZ:=Lib.hid hz;have c0:wr.cell? ⟨w.heap.size+1,0,none⟩=some (.int .i64 1):=cell_of_row wr (w.heap.size+1) 0 _ _ _ hb;have c1:wr.cell? ⟨w.heap.size+1,1,none⟩=some (.int .i64 0):=cell_of_row wr (w.heap.size+1) 1 _ _ _ hb;have fb:=row_f hb;clear hb hz;go_wp2;exact⟨⟨1,rfl,by decide,blk_farI 1 _ (by omega) HZ.out,(by rw[blk_setI 1 _ HB.out]; simp[pw6]),(by repeat (first | exact Below.refl _ _ | exact Nat.le_refl _ | refine Below.alloc ?_ ?_ _ | refine Below.setCell ?_ ?_ _ | refine Below.drew ?_ | refine bl_drewN ?_ _ | (assumption) | refine bl_call ?_ (by assumption) ?_ | omega | (simp <;> omega)))⟩,by decide⟩
  · have HB:=Lib.hid hb;have HZ:=Lib.hid hz;have c1:wr.cell? ⟨w.heap.size+1,1,none⟩=some (.int .i64 6):=cell_of_row wr (w.heap.size+1) 1 _ _ _ hb;have c2:wr.cell? ⟨w.heap.size+1,2,none⟩=some (.int .i64 0):=cell_of_row wr (w.heap.size+1) 2 _ _ _ hb;have fb:=row_f hb;clear hb hz;go_wp2;exact⟨⟨2,rfl,by decide,blk_farI 2 _ (by omega) HZ.out,(by rw[blk_setI 2 _ HB.out]; simp[pw6]),(by repeat (first | exact Below.refl _ _ | exact Nat.le_refl _ | refine Below.alloc ?_ ?_ _ | refine Below.setCell ?_ ?_ _ | refine Below.drew ?_ | refine bl_drewN ?_ _ | (assumption) | refine bl_call ?_ (by assumption) ?_ | omega | (simp <;> omega)))⟩,by decide⟩
  · have HB:=Lib.hid hb;have HZ:=Lib.hid hz;have c2:wr.cell? ⟨w.heap.size+1,2,none⟩=some (.int .i64 1):=cell_of_row wr (w.heap.size+1) 2 _ _ _ hb;have c3:wr.cell? ⟨w.heap.size+1,3,none⟩=some (.int .i64 0):=cell_of_row wr (w.heap.size+1) 3 _ _ _ hb;have fb:=row_f hb;clear hb hz;go_wp2;exact⟨⟨3,rfl,by decide,blk_farI 3 _ (by omega) HZ.out,(by rw[blk_setI 3 _ HB.out]; simp[pw6]),(by repeat (first | exact Below.refl _ _ | exact Nat.le_refl _ | refine Below.alloc ?_ ?_ _ | refine Below.setCell ?_ ?_ _ | refine Below.drew ?_ | refine bl_drewN ?_ _ | (assumption) | refine bl_call ?_ (by assumption) ?_ | omega | (simp <;> omega)))⟩,by decide⟩
  · have HB:=Lib.hid hb;have HZ:=Lib.hid hz;have c3:wr.cell? ⟨w.heap.size+1,3,none⟩=some (.int .i64 6):=cell_of_row wr (w.heap.size+1) 3 _ _ _ hb;have c4:wr.cell? ⟨w.heap.size+1,4,none⟩=some (.int .i64 0):=cell_of_row wr (w.heap.size+1) 4 _ _ _ hb;have fb:=row_f hb;clear hb hz;go_wp2;exact⟨⟨4,rfl,by decide,blk_farI 4 _ (by omega) HZ.out,(by rw[blk_setI 4 _ HB.out]; simp[pw6]),(by repeat (first | exact Below.refl _ _ | exact Nat.le_refl _ | refine Below.alloc ?_ ?_ _ | refine Below.setCell ?_ ?_ _ | refine Below.drew ?_ | refine bl_drewN ?_ _ | (assumption) | refine bl_call ?_ (by assumption) ?_ | omega | (simp <;> omega)))⟩,by decide⟩
  · have HB:=Lib.hid hb;have HZ:=Lib.hid hz;have c4:wr.cell? ⟨w.heap.size+1,4,none⟩=some (.int .i64 1):=cell_of_row wr (w.heap.size+1) 4 _ _ _ hb;have c5:wr.cell? ⟨w.heap.size+1,5,none⟩=some (.int .i64 0):=cell_of_row wr (w.heap.size+1) 5 _ _ _ hb;have fb:=row_f hb;clear hb hz;go_wp2;exact⟨⟨5,rfl,by decide,blk_farI 5 _ (by omega) HZ.out,(by rw[blk_setI 5 _ HB.out]; simp[pw6]),(by repeat (first | exact Below.refl _ _ | exact Nat.le_refl _ | refine Below.alloc ?_ ?_ _ | refine Below.setCell ?_ ?_ _ | refine Below.drew ?_ | refine bl_drewN ?_ _ | (assumption) | refine bl_call ?_ (by assumption) ?_ | omega | (simp <;> omega)))⟩,by decide⟩
  · have HB:=Lib.hid hb;have HZ:=Lib.hid hz;have c5:wr.cell? ⟨w.heap.size+1,5,none⟩=some (.int .i64 6):=cell_of_row wr (w.heap.size+1) 5 _ _ _ hb;have c6:wr.cell? ⟨w.heap.size+1,6,none⟩=some (.int .i64 0):=cell_of_row wr (w.heap.size+1) 6 _ _ _ hb;have fb:=row_f hb;clear hb hz;go_wp2;exact⟨⟨6,rfl,by decide,blk_farI 6 _ (by omega) HZ.out,(by rw[blk_setI 6 _ HB.out]; simp[pw6]),(by repeat (first | exact Below.refl _ _ | exact Nat.le_refl _ | refine Below.alloc ?_ ?_ _ | refine Below.setCell ?_ ?_ _ | refine Below.drew ?_ | refine bl_drewN ?_ _ | (assumption) | refine bl_call ?_ (by assumption) ?_ | omega | (simp <;> omega)))⟩,by decide⟩
  ·
   have hRs:(pw6 6).size=17:=rfl;have hR1:(pw6 6).all (·.oneCell')=true:=by kernel_rfl
   have hZs:z17.size=17:=rfl;obtain⟨R,hR⟩:∃R,pw6 6=R:=⟨_,rfl⟩
   rw[hR]at hb hRs hR1;have HR:=Lib.hid hR;have HX:=Lib.hid hb;have HH:=Lib.hid hz;have HR1:=Lib.hid hR1;clear hR hb hz hR1;go_wp2_with (first
    | (refine wpList_load_row rfl 170 (.tmp 5) rfl (w.heap.size+1) rfl 170 R (0,0) (.array 17 3) HX.out Tryz.underlying170 rfl (by rw[hRs]; exact size17) ?_)
    | (refine wpList_store_row rfl 170 (.tmp 4) (.tmp 23) rfl w.heap.size R rfl rfl 170 z17 HH.out (by rw[hRs]; exact size17) (by rw[hRs,hZs]) HR1.out ?_))
   exact bodyPost_ret (v:=.agg R) (results_cell_row (p:=4) (ty:=170) (by kernel_rfl) _ _ w.heap.size 170 R (0,0) (.array 17 3) rfl (setRow_heap _ _ _ _ _ _ HH.out) Tryz.underlying170 rfl (by rw[hRs]; exact size17)) rfl ⟨by rw[HR.out],below_setRow B (Nat.le_refl _) _⟩
open Go.RowKit
attribute [local go_sem ↓] Go.wp_at_zero Go.wp_at_succ
def lays108_ren:Go.Shelf.Ren:=⟨fun | 108=>109 | n=>n,fun | 0=>0 | 3=>3 | 4=>4 | 28=>22 | n=>n,fun | n=>n⟩
theorem lays108:Go.Proofs.Lays.n108 Tryz.prog lays108_ren:={
 mixed:=by kernel_rfl,
 f108:=Tryz.func109.trans (congrArg some (by kernel_rfl)),
 t0:=Tryz.underlying0,
 a0:=Tryz.isAgg0,
 z0:=Tryz.sizeOf0,
 v0:=Tryz.zeroValue0,
 t3:=Tryz.underlying3,
 a3:=Tryz.isAgg3,
 z3:=Tryz.sizeOf3,
 v3:=Tryz.zeroValue3,
 t4:=Tryz.underlying4,
 a4:=Tryz.isAgg4,
 z4:=Tryz.sizeOf4,
 v4:=Tryz.zeroValue4,
 t28:=Tryz.underlying22,
 a28:=Tryz.isAgg22,
 z28:=Tryz.sizeOf22,
 v28:=Tryz.zeroValue22 }
theorem stud_isRoot1 (w:World):Calls Tryz.prog 99 #[.int .i64 7,.int .i64 1] w fun e w'=>e=.returned (.bool false)/\Below w.heap.size w w':=by
 have hRs:(pw1 6).size=17:=rfl;have hR1:(pw1 6).all (·.oneCell')=true:=by kernel_rfl
 have hq:∀(w2:World) (b:Nat),w2.heap[b]?=some (.cells (pw1 6) 170 (0,0))->∀j,j < 6->w2.cell? ⟨b,1+j,none⟩=some (.int .i64 (([1,1,1,1,1,1]:List Int).getD j 0)):=by
  intro w2 b h j hj;rw[cell_of_row w2 b (1+j) _ _ _ h];rcases (by omega:j=0∨j=1∨j=2∨j=3∨j=4∨j=5) with rfl | rfl | rfl | rfl | rfl | rfl <;> rfl
 have HQ:=Lib.hid hq;have HR1:=Lib.hid hR1;clear hq hR1;obtain⟨R,hR⟩:∃R,pw1 6=R:=⟨_,rfl⟩
 rw[hR]at HQ hRs HR1;have HR:=Lib.hid hR;clear hR;go_enter Tryz.func99,Tryz.ntmps99;go_wp2_with (first
  | (go_at_call 98; refine(stud_isPrime7 _).mono ?_; rintro e w' ⟨rfl,rfl⟩)
  | (go_at_call 107; refine(stud_within _ _ _ _).mono ?_; rintro e w' ⟨rfl,rfl⟩)
  | (go_at_call 108; refine(stud_powers1 _).mono ?_; rintro e w1 ⟨rfl,hb1⟩; rw[HR.out])
  | (refine wpList_store_row rfl 170 (.tmp 5) (.tmp 18) rfl w1.heap.size R rfl rfl 170 z17 (blk_new _ _) (by rw[hRs]; exact size17) (by rw[hRs]; rfl) HR1.out ?_)
  | (go_at_call 109; refine(Any.slices_Index_int lays108 w1.heap.size 1 6 16 [1,1,1,1,1,1] 1 _ (by decide) (by decide) (fun j hj=>HQ.out _ _ (setRow_heap _ _ _ _ _ _ (blk_new _ _)) j hj)).mono ?_; rintro e w' ⟨rfl,rfl⟩)
  | fail)
 go_ret
 exact⟨by rw[show Lib.idxOf [1,1,1,1,1,1] 1=0 from rfl]; rfl,below_setRow (hb1.alloc hb1.size _) hb1.size _⟩
theorem stud_isRoot2 (w:World):Calls Tryz.prog 99 #[.int .i64 7,.int .i64 2] w fun e w'=>e=.returned (.bool false)/\Below w.heap.size w w':=by
 have hRs:(pw2 6).size=17:=rfl;have hR1:(pw2 6).all (·.oneCell')=true:=by kernel_rfl
 have hq:∀(w2:World) (b:Nat),w2.heap[b]?=some (.cells (pw2 6) 170 (0,0))->∀j,j < 6->w2.cell? ⟨b,1+j,none⟩=some (.int .i64 (([2,4,1,2,4,1]:List Int).getD j 0)):=by
  intro w2 b h j hj;rw[cell_of_row w2 b (1+j) _ _ _ h];rcases (by omega:j=0∨j=1∨j=2∨j=3∨j=4∨j=5) with rfl | rfl | rfl | rfl | rfl | rfl <;> rfl
 have HQ:=Lib.hid hq;have HR1:=Lib.hid hR1;clear hq hR1;obtain⟨R,hR⟩:∃R,pw2 6=R:=⟨_,rfl⟩
 rw[hR]at HQ hRs HR1;have HR:=Lib.hid hR;clear hR;go_enter Tryz.func99,Tryz.ntmps99;go_wp2_with (first
  | (go_at_call 98; refine(stud_isPrime7 _).mono ?_; rintro e w' ⟨rfl,rfl⟩)
  | (go_at_call 107; refine(stud_within _ _ _ _).mono ?_; rintro e w' ⟨rfl,rfl⟩)
  | (go_at_call 108; refine(stud_powers2 _).mono ?_; rintro e w1 ⟨rfl,hb1⟩; rw[HR.out])
  | (refine wpList_store_row rfl 170 (.tmp 5) (.tmp 18) rfl w1.heap.size R rfl rfl 170 z17 (blk_new _ _) (by rw[hRs]; exact size17) (by rw[hRs]; rfl) HR1.out ?_)
  | (go_at_call 109; refine(Any.slices_Index_int lays108 w1.heap.size 1 6 16 [2,4,1,2,4,1] 1 _ (by decide) (by decide) (fun j hj=>HQ.out _ _ (setRow_heap _ _ _ _ _ _ (blk_new _ _)) j hj)).mono ?_; rintro e w' ⟨rfl,rfl⟩)
  | fail)
 go_ret
 exact⟨by rw[show Lib.idxOf [2,4,1,2,4,1] 1=2 from rfl]; rfl,below_setRow (hb1.alloc hb1.size _) hb1.size _⟩
theorem stud_isRoot3 (w:World):Calls Tryz.prog 99 #[.int .i64 7,.int .i64 3] w fun e w'=>e=.returned (.bool true)/\Below w.heap.size w w':=by
 have hRs:(pw3 6).size=17:=rfl;have hR1:(pw3 6).all (·.oneCell')=true:=by kernel_rfl
 have hq:∀(w2:World) (b:Nat),w2.heap[b]?=some (.cells (pw3 6) 170 (0,0))->∀j,j < 6->w2.cell? ⟨b,1+j,none⟩=some (.int .i64 (([3,2,6,4,5,1]:List Int).getD j 0)):=by
  intro w2 b h j hj;rw[cell_of_row w2 b (1+j) _ _ _ h];rcases (by omega:j=0∨j=1∨j=2∨j=3∨j=4∨j=5) with rfl | rfl | rfl | rfl | rfl | rfl <;> rfl
 have HQ:=Lib.hid hq;have HR1:=Lib.hid hR1;clear hq hR1;obtain⟨R,hR⟩:∃R,pw3 6=R:=⟨_,rfl⟩
 rw[hR]at HQ hRs HR1;have HR:=Lib.hid hR;clear hR;go_enter Tryz.func99,Tryz.ntmps99;go_wp2_with (first
  | (go_at_call 98; refine(stud_isPrime7 _).mono ?_; rintro e w' ⟨rfl,rfl⟩)
  | (go_at_call 107; refine(stud_within _ _ _ _).mono ?_; rintro e w' ⟨rfl,rfl⟩)
  | (go_at_call 108; refine(stud_powers3 _).mono ?_; rintro e w1 ⟨rfl,hb1⟩; rw[HR.out])
  | (refine wpList_store_row rfl 170 (.tmp 5) (.tmp 18) rfl w1.heap.size R rfl rfl 170 z17 (blk_new _ _) (by rw[hRs]; exact size17) (by rw[hRs]; rfl) HR1.out ?_)
  | (go_at_call 109; refine(Any.slices_Index_int lays108 w1.heap.size 1 6 16 [3,2,6,4,5,1] 1 _ (by decide) (by decide) (fun j hj=>HQ.out _ _ (setRow_heap _ _ _ _ _ _ (blk_new _ _)) j hj)).mono ?_; rintro e w' ⟨rfl,rfl⟩)
  | fail)
 go_ret
 exact⟨by rw[show Lib.idxOf [3,2,6,4,5,1] 1=5 from rfl]; rfl,below_setRow (hb1.alloc hb1.size _) hb1.size _⟩
theorem stud_isRoot4 (w:World):Calls Tryz.prog 99 #[.int .i64 7,.int .i64 4] w fun e w'=>e=.returned (.bool false)/\Below w.heap.size w w':=by
 have hRs:(pw4 6).size=17:=rfl;have hR1:(pw4 6).all (·.oneCell')=true:=by kernel_rfl
 have hq:∀(w2:World) (b:Nat),w2.heap[b]?=some (.cells (pw4 6) 170 (0,0))->∀j,j < 6->w2.cell? ⟨b,1+j,none⟩=some (.int .i64 (([4,2,1,4,2,1]:List Int).getD j 0)):=by
  intro w2 b h j hj;rw[cell_of_row w2 b (1+j) _ _ _ h];rcases (by omega:j=0∨j=1∨j=2∨j=3∨j=4∨j=5) with rfl | rfl | rfl | rfl | rfl | rfl <;> rfl
 have HQ:=Lib.hid hq;have HR1:=Lib.hid hR1;clear hq hR1;obtain⟨R,hR⟩:∃R,pw4 6=R:=⟨_,rfl⟩
 rw[hR]at HQ hRs HR1;have HR:=Lib.hid hR;clear hR;go_enter Tryz.func99,Tryz.ntmps99;go_wp2_with (first
  | (go_at_call 98; refine(stud_isPrime7 _).mono ?_; rintro e w' ⟨rfl,rfl⟩)
  | (go_at_call 107; refine(stud_within _ _ _ _).mono ?_; rintro e w' ⟨rfl,rfl⟩)
  | (go_at_call 108; refine(stud_powers4 _).mono ?_; rintro e w1 ⟨rfl,hb1⟩; rw[HR.out])
  | (refine wpList_store_row rfl 170 (.tmp 5) (.tmp 18) rfl w1.heap.size R rfl rfl 170 z17 (blk_new _ _) (by rw[hRs]; exact size17) (by rw[hRs]; rfl) HR1.out ?_)
  | (go_at_call 109; refine(Any.slices_Index_int lays108 w1.heap.size 1 6 16 [4,2,1,4,2,1] 1 _ (by decide) (by decide) (fun j hj=>HQ.out _ _ (setRow_heap _ _ _ _ _ _ (blk_new _ _)) j hj)).mono ?_; rintro e w' ⟨rfl,rfl⟩)
  | fail)
 go_ret
 exact⟨by rw[show Lib.idxOf [4,2,1,4,2,1] 1=2 from rfl]; rfl,below_setRow (hb1.alloc hb1.size _) hb1.size _⟩
theorem stud_isRoot5 (w:World):Calls Tryz.prog 99 #[.int .i64 7,.int .i64 5] w fun e w'=>e=.returned (.bool true)/\Below w.heap.size w w':=by
 have hRs:(pw5 6).size=17:=rfl;have hR1:(pw5 6).all (·.oneCell')=true:=by kernel_rfl
 have hq:∀(w2:World) (b:Nat),w2.heap[b]?=some (.cells (pw5 6) 170 (0,0))->∀j,j < 6->w2.cell? ⟨b,1+j,none⟩=some (.int .i64 (([5,4,6,2,3,1]:List Int).getD j 0)):=by
  intro w2 b h j hj;rw[cell_of_row w2 b (1+j) _ _ _ h];rcases (by omega:j=0∨j=1∨j=2∨j=3∨j=4∨j=5) with rfl | rfl | rfl | rfl | rfl | rfl <;> rfl
 have HQ:=Lib.hid hq;have HR1:=Lib.hid hR1;clear hq hR1;obtain⟨R,hR⟩:∃R,pw5 6=R:=⟨_,rfl⟩
 rw[hR]at HQ hRs HR1;have HR:=Lib.hid hR;clear hR;go_enter Tryz.func99,Tryz.ntmps99;go_wp2_with (first
  | (go_at_call 98; refine(stud_isPrime7 _).mono ?_; rintro e w' ⟨rfl,rfl⟩)
  | (go_at_call 107; refine(stud_within _ _ _ _).mono ?_; rintro e w' ⟨rfl,rfl⟩)
  | (go_at_call 108; refine(stud_powers5 _).mono ?_; rintro e w1 ⟨rfl,hb1⟩; rw[HR.out])
  | (refine wpList_store_row rfl 170 (.tmp 5) (.tmp 18) rfl w1.heap.size R rfl rfl 170 z17 (blk_new _ _) (by rw[hRs]; exact size17) (by rw[hRs]; rfl) HR1.out ?_)
  | (go_at_call 109; refine(Any.slices_Index_int lays108 w1.heap.size 1 6 16 [5,4,6,2,3,1] 1 _ (by decide) (by decide) (fun j hj=>HQ.out _ _ (setRow_heap _ _ _ _ _ _ (blk_new _ _)) j hj)).mono ?_; rintro e w' ⟨rfl,rfl⟩)
  | fail)
 go_ret
 exact⟨by rw[show Lib.idxOf [5,4,6,2,3,1] 1=5 from rfl]; rfl,below_setRow (hb1.alloc hb1.size _) hb1.size _⟩
theorem stud_isRoot6 (w:World):Calls Tryz.prog 99 #[.int .i64 7,.int .i64 6] w fun e w'=>e=.returned (.bool false)/\Below w.heap.size w w':=by
 have hRs:(pw6 6).size=17:=rfl;have hR1:(pw6 6).all (·.oneCell')=true:=by kernel_rfl
 have hq:∀(w2:World) (b:Nat),w2.heap[b]?=some (.cells (pw6 6) 170 (0,0))->∀j,j < 6->w2.cell? ⟨b,1+j,none⟩=some (.int .i64 (([6,1,6,1,6,1]:List Int).getD j 0)):=by
  intro w2 b h j hj;rw[cell_of_row w2 b (1+j) _ _ _ h];rcases (by omega:j=0∨j=1∨j=2∨j=3∨j=4∨j=5) with rfl | rfl | rfl | rfl | rfl | rfl <;> rfl
 have HQ:=Lib.hid hq;have HR1:=Lib.hid hR1;clear hq hR1;obtain⟨R,hR⟩:∃R,pw6 6=R:=⟨_,rfl⟩
 rw[hR]at HQ hRs HR1;have HR:=Lib.hid hR;clear hR;go_enter Tryz.func99,Tryz.ntmps99;go_wp2_with (first
  | (go_at_call 98; refine(stud_isPrime7 _).mono ?_; rintro e w' ⟨rfl,rfl⟩)
  | (go_at_call 107; refine(stud_within _ _ _ _).mono ?_; rintro e w' ⟨rfl,rfl⟩)
  | (go_at_call 108; refine(stud_powers6 _).mono ?_; rintro e w1 ⟨rfl,hb1⟩; rw[HR.out])
  | (refine wpList_store_row rfl 170 (.tmp 5) (.tmp 18) rfl w1.heap.size R rfl rfl 170 z17 (blk_new _ _) (by rw[hRs]; exact size17) (by rw[hRs]; rfl) HR1.out ?_)
  | (go_at_call 109; refine(Any.slices_Index_int lays108 w1.heap.size 1 6 16 [6,1,6,1,6,1] 1 _ (by decide) (by decide) (fun j hj=>HQ.out _ _ (setRow_heap _ _ _ _ _ _ (blk_new _ _)) j hj)).mono ?_; rintro e w' ⟨rfl,rfl⟩)
  | fail)
 go_ret
 exact⟨by rw[show Lib.idxOf [6,1,6,1,6,1] 1=1 from rfl]; rfl,below_setRow (hb1.alloc hb1.size _) hb1.size _⟩
theorem stud_isRoot0 (w:World):Calls Tryz.prog 99 #[.int .i64 7,.int .i64 0] w fun e w'=>e=.returned (.bool false)/\Below w.heap.size w w':=by
 go_enter Tryz.func99,Tryz.ntmps99;go_wp2_with (first
  | (go_at_call 98; refine(stud_isPrime7 _).mono ?_; rintro e w' ⟨rfl,rfl⟩)
  | (go_at_call 107; refine(stud_within _ _ _ _).mono ?_; rintro e w' ⟨rfl,rfl⟩)
  | fail)
 go_ret
 exact⟨rfl,Below.refl _ _⟩
open Go.RowKit
attribute [local go_sem ↓] Go.wp_at_zero Go.wp_at_succ
def rts:Nat->List Nat
 | 0 | 1 | 2 | 3=>[]
 | 4 | 5=>[3]
 | _=>[3,5]
theorem stud_Roots7 (w:World):Calls Tryz.prog 79 #[.int .i64 7] w fun e w'=>∃sv,e=.returned (.tuple #[sv,.int .i64 0])/\w'.ownsRow w.heap.size 3 1 sv 2 (ints [3,5])/\Below w.heap.size w w':=by
 obtain⟨i0,hi,hz0,hz1,hz2⟩:=info_parts infoInt;go_enter Tryz.func79,Tryz.ntmps79;go_wp2_with (first
  | (go_at_call 98; refine(stud_isPrime7 _).mono ?_; rintro e w' ⟨rfl,rfl⟩)
  | fail)
 go_loopw [10,4] (fun x v wr=>∃j:Nat,x=.int .i64 j/\j<=7/\wr.ownsRow w.heap.size 3 1 v (rts j).length (ints (rts j))/\Below w.heap.size w wr) (fun x _ _=>7-(intOf x).toNat)
 case atStart=>exact⟨0,rfl,by decide,World.ownsRow_nil _ _ _ _,(by repeat (first | exact Below.refl _ _ | exact Nat.le_refl _ | refine Below.alloc ?_ ?_ _ | refine Below.setCell ?_ ?_ _ | refine Below.drew ?_ | refine bl_drewN ?_ _ | (assumption) | refine bl_call ?_ (by assumption) ?_ | omega | (simp <;> omega)))⟩
 case round =>
  obtain⟨j,rfl,hj,hw,B⟩:=hrel;rcases (by omega:j=0∨j=1∨j=2∨j=3∨j=4∨j=5∨j=6∨j=7) with rfl | rfl | rfl | rfl | rfl | rfl | rfl | rfl
  ·
   have HW:=Lib.hid hw;clear hw;go_wp2_with (first
    | (go_at_call 99; refine(stud_isRoot0 _).mono ?_; rintro e w2 ⟨rfl,hb2⟩)
    | fail)
   exact⟨⟨0+1,rfl,by decide,own_below HW.out hb2,bl_call B hb2 B.size⟩,by decide⟩
  ·
   have HW:=Lib.hid hw;clear hw;go_wp2_with (first
    | (go_at_call 99; refine(stud_isRoot1 _).mono ?_; rintro e w2 ⟨rfl,hb2⟩)
    | fail)
   exact⟨⟨1+1,rfl,by decide,own_below HW.out hb2,bl_call B hb2 B.size⟩,by decide⟩
  ·
   have HW:=Lib.hid hw;clear hw;go_wp2_with (first
    | (go_at_call 99; refine(stud_isRoot2 _).mono ?_; rintro e w2 ⟨rfl,hb2⟩)
    | fail)
   exact⟨⟨2+1,rfl,by decide,own_below HW.out hb2,bl_call B hb2 B.size⟩,by decide⟩
  ·
   have HW:=Lib.hid hw;clear hw;go_wp2_with (first
    | (go_at_call 99; refine(stud_isRoot3 _).mono ?_; rintro e w2 ⟨rfl,hb2⟩; have B2:Below w.heap.size w w2:=bl_call B hb2 B.size; have hw2:=own_below HW.out hb2; clear HW)
    | (at_builtin; refine wpList_append_own _ rfl _ _ 22 rfl w.heap.size 3 i0 (.int .i64 0) 1 8 Tryz.underlying22 hi hz0 hz1 hz2 rfl (by decide) _ _ _ rfl (hw2.alloc _) ⟨w2.heap.size,0,none⟩ 1 1 [.int .i64 ((3:Nat):Int)] rfl rfl (cell_one_new _ _ _) (one_cell _) (by decide) (by decide) (by have:=B2.size; simp; omega) ?_; intro v' w3 hown' hgrow3 hnil3; have hbw3:Below w.heap.size w w3:=Below.grown (B2.alloc (by have:=B2.size; omega) _) hgrow3 (by have:=B2.size; simp; omega) (fun q hq=>by have:=(hw2.lt _ hq).1; omega); have HO:=Lib.hid hown'; clear hown' hgrow3 hnil3)
    | fail)
   exact⟨⟨4,rfl,by decide,HO.out,hbw3⟩,by decide⟩
  ·
   have HW:=Lib.hid hw;clear hw;go_wp2_with (first
    | (go_at_call 99; refine(stud_isRoot4 _).mono ?_; rintro e w2 ⟨rfl,hb2⟩)
    | fail)
   exact⟨⟨4+1,rfl,by decide,own_below HW.out hb2,bl_call B hb2 B.size⟩,by decide⟩
  ·
   have HW:=Lib.hid hw;clear hw;go_wp2_with (first
    | (go_at_call 99; refine(stud_isRoot5 _).mono ?_; rintro e w2 ⟨rfl,hb2⟩; have B2:Below w.heap.size w w2:=bl_call B hb2 B.size; have hw2:=own_below HW.out hb2; clear HW)
    | (at_builtin; refine wpList_append_own _ rfl _ _ 22 rfl w.heap.size 3 i0 (.int .i64 0) 1 8 Tryz.underlying22 hi hz0 hz1 hz2 rfl (by decide) _ _ _ rfl (hw2.alloc _) ⟨w2.heap.size,0,none⟩ 1 1 [.int .i64 ((5:Nat):Int)] rfl rfl (cell_one_new _ _ _) (one_cell _) (by decide) (by decide) (by have:=B2.size; simp; omega) ?_; intro v' w3 hown' hgrow3 hnil3; have hbw3:Below w.heap.size w w3:=Below.grown (B2.alloc (by have:=B2.size; omega) _) hgrow3 (by have:=B2.size; simp; omega) (fun q hq=>by have:=(hw2.lt _ hq).1; omega); have HO:=Lib.hid hown'; clear hown' hgrow3 hnil3)
    | fail)
   exact⟨⟨6,rfl,by decide,HO.out,hbw3⟩,by decide⟩
  ·
   have HW:=Lib.hid hw;clear hw;go_wp2_with (first
    | (go_at_call 99; refine(stud_isRoot6 _).mono ?_; rintro e w2 ⟨rfl,hb2⟩)
    | fail)
   exact⟨⟨6+1,rfl,by decide,own_below HW.out hb2,bl_call B hb2 B.size⟩,by decide⟩
  · have HW:=Lib.hid hw;clear hw;go_wp2;exact bodyPost_ret (v:=.tuple #[u4,.int .i64 0]) (by simp[results,Tryz.results79,go_sem]) rfl ⟨u4,rfl,HW.out,B⟩
end Go.Proofs.YtaffkceklkdokaaGreatDoor
