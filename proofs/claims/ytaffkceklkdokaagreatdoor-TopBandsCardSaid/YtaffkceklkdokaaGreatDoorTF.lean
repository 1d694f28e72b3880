/- Two equal lists are equal. -/
import Derived.Test.YtaffkceklkdokaaGreatDoorTB
import Derived.Shelf.Strings.Count
set_option maxRecDepth 100000
set_option maxHeartbeats 4000000
namespace Go.Proofs.YtaffkceklkdokaaGreatDoor
open Go.RowKit
attribute [local go_sem ↓] Go.wp_at_zero Go.wp_at_succ
theorem top_ints (xs:List Nat) (ga gb ca cb:Nat) (w:World) (hl:xs.length<=1000) (ha:∀(j:Nat) (x:Nat),xs[j]?=some x->w.cell? ⟨ga,j,none⟩=some (.int .i64 x)) (hb:∀(j:Nat) (x:Nat),xs[j]?=some x->w.cell? ⟨gb,j,none⟩=some (.int .i64 x)) :
  Calls Tryz.prog 28 #[.slice (some ⟨ga,0,none⟩) xs.length ca,.slice (some ⟨gb,0,none⟩) xs.length cb] w fun e w'=>e=.returned (.bool true)/\Below w.heap.size w w':=by
 obtain⟨n,hn⟩:∃n,xs.length=n:=⟨_,rfl⟩
 rw[hn]at hl ⊢;have HN:=Lib.hid hn;have HA:=Lib.hid ha;have HB:=Lib.hid hb;clear hn ha hb;go_enter Tryz.func28,Tryz.ntmps28;go_wp2;go_loopw [5] (fun x wr=>∃j:Nat,x=.int .i64 (j:Int)/\j<=n/\Below w.heap.size w wr) (fun x _=>n-(intOf x).toNat)
 case atStart=>exact⟨0,rfl,by omega,(by repeat (first | exact Below.refl _ _ | exact Nat.le_refl _ | refine Below.alloc ?_ ?_ _ | refine Below.setCell ?_ ?_ _ | refine Below.drew ?_ | refine bl_drewN ?_ _ | (assumption) | refine bl_call ?_ (by assumption) ?_ | omega | (simp <;> omega)))⟩
 case round =>
  obtain⟨j,rfl,hj,B⟩:=hrel
  by_cases hjn:j < n
  ·
   obtain⟨x,hx⟩:∃x,xs[j]?=some x:=⟨xs[j]'(by rw[HN.out]; exact hjn),by simp[HN.out,hjn]⟩
   have c1:wr.cell? ⟨ga,j,none⟩=some (.int .i64 x):=(B.cell (block_lt_of_cell (HA.out j x hx))).trans (HA.out j x hx);have c2:wr.cell? ⟨gb,j,none⟩=some (.int .i64 x):=(B.cell (block_lt_of_cell (HB.out j x hx))).trans (HB.out j x hx);clear hx;go_upto_region 6 with fail;go_quiet (fail)
   go_wp2
   go_roundw
   case rel=>exact⟨j+1,by simp,by omega,(by repeat (first | exact Below.refl _ _ | exact Nat.le_refl _ | refine Below.alloc ?_ ?_ _ | refine Below.setCell ?_ ?_ _ | refine Below.drew ?_ | refine bl_drewN ?_ _ | (assumption) | refine bl_call ?_ (by assumption) ?_ | omega | (simp <;> omega)))⟩
   case measure=>simp[intOf]; omega
  ·
   obtain rfl:j=n:=by omega
   go_wp2
   go_ret
   exact⟨rfl,B⟩
open Go.RowKit
attribute [local go_sem ↓] Go.wp_at_zero Go.wp_at_succ
end Go.Proofs.YtaffkceklkdokaaGreatDoor
