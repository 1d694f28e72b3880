/- Sides of a graph with two vertices: has, proper. -/
import Derived.Test.YtaffkceklkdokaaGreatDoorTB
set_option maxRecDepth 100000
namespace Go.Proofs.YtaffkceklkdokaaGreatDoor
open Go.RowKit
attribute [local go_sem ↓] Go.wp_at_zero Go.wp_at_succ
theorem belt_within (n lo hi:Int) (w:World) :
  Calls Tryz.prog 46 #[.int .i64 n,.int .i64 lo,.int .i64 hi] w fun e w'=>e=.returned (.bool (decide (lo<=n) && decide (n<=hi)))/\w=w':=by
 by_cases h1:lo<=n
 ·
  by_cases h2:n<=hi
  all_goals
   go_enter Tryz.func46,Tryz.ntmps46;go_wp2
   go_ret
   exact⟨by simp[h1,h2],rfl⟩
 ·
  go_enter Tryz.func46,Tryz.ntmps46;go_wp2
  go_ret
  exact⟨by rw[decide_eq_false (show ¬lo<=n by omega)]; rfl,rfl⟩
/-- a graph's value: two vertices, its edges' slice, its map -/
abbrev GrV (ev mv:Value):Value:=.agg #[.int .i64 2,ev,mv]
/-- whether a side of two vertices has one -/
def hs2 (s v:Nat):Bool:=s / 2 ^ (1-v) % 2 == 1
theorem gr_has (ev mv:Value) (s v:Nat) (hs:s<=3) (hv:v<=1) (w:World):Calls Tryz.prog 50 #[GrV ev mv,.int .u64 (s:Nat),.int .i64 (v:Nat)] w fun e w'=>e=.returned (.bool (hs2 s v))/\Below w.heap.size w w':=by
 have e0:bits BinOp.and IntKind.u64 0 1=0:=by kernel_rfl
 have e1:bits BinOp.and IntKind.u64 1 1=1:=by kernel_rfl
 have e2:bits BinOp.and IntKind.u64 2 1=0:=by kernel_rfl
 have e3:bits BinOp.and IntKind.u64 3 1=1:=by kernel_rfl
 rcases (by omega:s=0∨s=1∨s=2∨s=3) with rfl | rfl | rfl | rfl <;> rcases (by omega:v=0∨v=1) with rfl | rfl;all_goals
  go_enter Tryz.func50,Tryz.ntmps50;go_wp2
  go_ret
  exact⟨rfl,(by repeat (first | exact Below.refl _ _ | exact Nat.le_refl _ | refine Below.alloc ?_ ?_ _ | refine Below.setCell ?_ ?_ _ | refine Below.drew ?_ | refine bl_drewN ?_ _ | (assumption) | refine bl_call ?_ (by assumption) ?_ | omega | (simp <;> omega)))⟩
theorem gr_proper (ev mv:Value) (s:Nat) (hs:s<=3) (w:World):Calls Tryz.prog 26 #[GrV ev mv,.int .u64 (s:Nat)] w fun e w'=>e=.returned (.bool (!hs2 s 0))/\Below w.heap.size w w':=by
 go_enter Tryz.func26,Tryz.ntmps26;go_wp2_with fail;refine(gr_has ev mv s 0 hs (by decide) _).mono ?_;rintro e w1 ⟨rfl,hb1⟩;have B1:Below w.heap.size w w1:=bl_call (by repeat (first | exact Below.refl _ _ | exact Nat.le_refl _ | refine Below.alloc ?_ ?_ _ | refine Below.setCell ?_ ?_ _ | refine Below.drew ?_ | refine bl_drewN ?_ _ | (assumption) | refine bl_call ?_ (by assumption) ?_ | omega | (simp <;> omega))) hb1 (by simp);clear hb1;go_wp2
 go_ret
 exact⟨rfl,B1⟩
end Go.Proofs.YtaffkceklkdokaaGreatDoor
