/- Compare, floor, product, mate, norm and their like return what they compute. -/
import Derived.Test.YtaffkceklkdokaaGreatDoorYA
import Derived.Deep.RegionHeld3
import Derived.Deep.DrawnRows
import Derived.Deep.DeepCutAuto
import Derived.Test.YtaffkceklkdokaaGreatDoorZ1
namespace Go.Proofs.YtaffkceklkdokaaGreatDoor.GG
open Go.RowKit
attribute [local go_sem ↓] Go.wp_at_zero Go.wp_at_succ
theorem keep_cell {W W1:World} {p:Addr} {v:Value} (hb:Below W.heap.size W W1) (h:W.cell? p=some v):W1.cell? p=some v:=(hb.cell (block_lt_of_cell h)).trans h
/-- is this a number? -/
def isN (a b:Int):Bool:=(decide (-1000000<=a) && decide (a<=1000000)) && (decide (-1000000<=b) && decide (b<=1000000))
theorem isN_iff (a b:Int):isN a b=true↔GM.Num (a,b):=by unfold isN GM.Num; simp; omega
theorem isNum (a b:Int) (w:World):Calls Tryz.prog 36 #[.agg #[.int .i64 a,.int .i64 b]] w fun e w'=>e=.returned (.bool (isN a b))/\Below w.heap.size w w':=isNumber_any a b w
end Go.Proofs.YtaffkceklkdokaaGreatDoor.GG
/- Product, Mate, Norm, floor and Floor return what they compute, or the error. -/
namespace Go.Proofs.YtaffkceklkdokaaGreatDoor.GG
open Go.RowKit
attribute [local go_sem ↓] Go.wp_at_zero Go.wp_at_succ
theorem Norm_yes (a b:Int) (w:World) (h1:isN a b=true) :
  Calls Tryz.prog 14 #[.agg #[.int .i64 a,.int .i64 b]] w fun e w'=>e=.returned (.tuple #[.int .i64 (a * a+a * b-b * b),.int .i64 0])/\Below w.heap.size w w':=by
 obtain⟨x1,x2,x3,x4⟩:=(isN_iff a b).1 h1;simp only[]at x1 x2 x3 x4;have H1:=Lib.hid h1; clear h1;go_enter Tryz.func14,Tryz.ntmps14;go_wp2_with fail;refine(isNum _ _ _).mono ?_;rintro e w1 ⟨rfl,hb1⟩;have z1_0:w.heap.size < w1.heap.size:=by have:=hb1.size; (try simp at this); omega
 have c1_0_0:w1.cell? ⟨w.heap.size,0,none⟩=some (.int .i64 a):=keep_cell hb1 (by first | assumption | (go_simp; done) | (simp; done) | simp[*]);have c1_0_1:w1.cell? ⟨w.heap.size,1,none⟩=some (.int .i64 b):=keep_cell hb1 (by first | assumption | (go_simp; done) | (simp; done) | simp[*]);have B1:Below w.heap.size w w1:=bl_call (by repeat (first | exact Below.refl _ _ | exact Nat.le_refl _ | refine Below.alloc ?_ ?_ _ | refine Below.setCell ?_ ?_ _ | refine Below.drew ?_ | refine bl_drewN ?_ _ | (assumption) | refine bl_call ?_ (by assumption) ?_ | omega | (simp <;> omega))) hb1 (by first | assumption | (simp; done) | (simp; omega) | omega);clear hb1;have hsz_1:=B1.size;rw[H1.out];go_wp2_with fail;refine(norm_any _ _ _ (by omega) (by omega) (by omega) (by omega)).mono ?_;rintro e w2 ⟨rfl,hb2⟩;have z2_0:w.heap.size < w2.heap.size:=by have:=hb2.size; (try simp at this); omega
 have B2:Below w.heap.size w w2:=bl_call (by repeat (first | exact Below.refl _ _ | exact Nat.le_refl _ | refine Below.alloc ?_ ?_ _ | refine Below.setCell ?_ ?_ _ | refine Below.drew ?_ | refine bl_drewN ?_ _ | (assumption) | refine bl_call ?_ (by assumption) ?_ | omega | (simp <;> omega))) hb2 (by first | assumption | (simp; done) | (simp; omega) | omega);clear hb2;have hsz_2:=B2.size;go_wp2_with fail
 go_ret2
 exact⟨rfl,(by repeat (first | exact Below.refl _ _ | exact Nat.le_refl _ | refine Below.alloc ?_ ?_ _ | refine Below.setCell ?_ ?_ _ | refine Below.drew ?_ | refine bl_drewN ?_ _ | (assumption) | refine bl_call ?_ (by assumption) ?_ | omega | (simp <;> omega)))⟩
end Go.Proofs.YtaffkceklkdokaaGreatDoor.GG
/- nearest and Divide return what they compute, or the error. -/
namespace Go.Proofs.YtaffkceklkdokaaGreatDoor.GG
open Go.RowKit
attribute [local go_sem ↓] Go.wp_at_zero Go.wp_at_succ
end Go.Proofs.YtaffkceklkdokaaGreatDoor.GG
/- Divide returns the quotient and the rest, or the error. -/
namespace Go.Proofs.YtaffkceklkdokaaGreatDoor.GG
open Go.RowKit
attribute [local go_sem ↓] Go.wp_at_zero Go.wp_at_succ
end Go.Proofs.YtaffkceklkdokaaGreatDoor.GG
