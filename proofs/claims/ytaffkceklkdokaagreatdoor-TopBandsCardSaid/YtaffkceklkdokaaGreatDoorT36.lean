/- The best proper side of two vertices with one edge of weight 3 is 01, with the value 3. -/
import Derived.Test.YtaffkceklkdokaaGreatDoorTK
set_option maxRecDepth 100000
set_option maxHeartbeats 4000000
namespace Go.Proofs.YtaffkceklkdokaaGreatDoor
open Go.RowKit
attribute [local go_sem ↓] Go.wp_at_zero Go.wp_at_succ
theorem Best_ok (eb cap:Nat) (w:World) (e0:w.cell? ⟨eb,0,none⟩=some (.int .i64 0)) (e1:w.cell? ⟨eb,1,none⟩=some (.int .i64 1)) (e2:w.cell? ⟨eb,2,none⟩=some (.int .i64 3)) :
  Calls Tryz.prog 9 #[.int .i64 2,SlE eb cap] w fun e w'=>e=.returned (.tuple #[.string ⟨#[48,49]⟩,.int .i64 3,.int .i64 0])/\Below w.heap.size w w':=by
 have hmf:∀(fn:Fn) (first cap:Array Value) (w:World),(Instr.makeFunc fn first cap).run Tryz.prog w=.ok (.func fn first cap) w:=fun _ _ _ _=>rfl;go_enter Tryz.func9,Tryz.ntmps9;go_wp2_with fail;refine(newGraph_ok eb cap _ e0 e1 e2).mono ?_;rintro e w1 ⟨rfl,hb1⟩;have B1:Below w.heap.size w w1:=bl_call (by repeat (first | exact Below.refl _ _ | exact Nat.le_refl _ | refine Below.alloc ?_ ?_ _ | refine Below.setCell ?_ ?_ _ | refine Below.drew ?_ | refine bl_drewN ?_ _ | (assumption) | refine bl_call ?_ (by assumption) ?_ | omega | (simp <;> omega))) hb1 (by simp);have d0:=keepc B1 e0;have d1:=keepc B1 e1;have d2:=keepc B1 e2;clear hb1 e0 e1 e2;go_upto_region 4 with fail;obtain⟨mv,hmv⟩:∃mv,mv=Value.map (some (w.heap.size+1)):=⟨_,rfl⟩
 obtain⟨W0,h0⟩:∃W0,W0=w1.alloc (.cells #[.int .i64 2,SlE eb cap,mv] 66):=⟨_,rfl⟩
 rw[<-hmv,<-h0];have B0:Below w.heap.size w W0:=by rw[h0]; exact B1.alloc B1.size _
 have G0:W0.heap[w1.heap.size]?=some (.cells #[.int .i64 2,SlE eb cap,mv] 66 (0,0)):=by rw[h0]; exact blk_new _ _
 have c0:W0.cell? ⟨eb,0,none⟩=some (.int .i64 0):=by rw[h0]; exact(World.cell?_alloc_lt _ _ _ (block_lt_of_cell d0)).trans d0
 have c1:W0.cell? ⟨eb,1,none⟩=some (.int .i64 1):=by rw[h0]; exact(World.cell?_alloc_lt _ _ _ (block_lt_of_cell d1)).trans d1
 have c2:W0.cell? ⟨eb,2,none⟩=some (.int .i64 3):=by rw[h0]; exact(World.cell?_alloc_lt _ _ _ (block_lt_of_cell d2)).trans d2
 have g0:W0.cell? ⟨w1.heap.size,0,none⟩=some (.int .i64 2):=cell_of_row W0 _ 0 _ _ _ G0;have g1:W0.cell? ⟨w1.heap.size,1,none⟩=some (SlE eb cap):=cell_of_row W0 _ 1 _ _ _ G0;have g2:W0.cell? ⟨w1.heap.size,2,none⟩=some mv:=cell_of_row W0 _ 2 _ _ _ G0;have HG0:=Lib.hid G0;clear h0 hmv G0 d0 d1 d2;go_wp2_with fail;refine(best_ok eb cap mv _ c0 c1 c2).mono ?_;rintro e w2 ⟨rfl,hb2⟩;have B2:Below w.heap.size w w2:=bl_call B0 hb2 B0.size;have t0:=keepc hb2 g0;have t1:=keepc hb2 g1;have t2:=keepc hb2 g2;clear hb2 g0 g1 g2 c0 c1 c2 HG0;go_wp2_with fail;refine(gr_text (SlE eb cap) mv _).mono ?_;rintro e w3 ⟨rfl,hb3⟩;have B3:Below w.heap.size w w3:=bl_call B2 hb3 B2.size;clear hb3 t0 t1 t2;go_wp2;exact bodyPost_ret (v:=.tuple #[.string ⟨#[48,49]⟩,.int .i64 3,.int .i64 0]) (by simp[results,Tryz.results9,go_sem]) rfl ⟨rfl,B3⟩
end Go.Proofs.YtaffkceklkdokaaGreatDoor
