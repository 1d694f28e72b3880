/- The layers are awake. -/
import Derived.Test.YtaffkceklkdokaaGreatDoorTH
import Derived.Test.YtaffkceklkdokaaGreatDoorT22
import Derived.Test.YtaffkceklkdokaaGreatDoorTF
import Derived.Test.YtaffkceklkdokaaGreatDoorTE
import Derived.Test.YtaffkceklkdokaaGreatDoorT36
import Derived.Test.YtaffkceklkdokaaGreatDoorT48
set_option maxRecDepth 100000
set_option maxHeartbeats 4000000
namespace Go.Proofs.YtaffkceklkdokaaGreatDoor
open Go.RowKit
attribute [local go_sem ↓] Go.wp_at_zero Go.wp_at_succ
/-- what the layers ask of the start -/
def TopW (w:World):Prop:=First w/\BitTab w/\Tab w/\MaxM w
/-- what the layers up to the eighth ask of the start -/
def TopV (w:World):Prop:=BitTab w/\Tab w/\MaxM w
theorem TopV.below {w w':World} (h:TopV w) (hb:Below w.heap.size w w'):TopV w':=⟨h.1.below hb,h.2.1.below hb,h.2.2.below hb⟩
theorem TopW.below {w w':World} (h:TopW w) (hb:Below w.heap.size w w'):TopW w':=⟨h.1.below hb,h.2.1.below hb,h.2.2.1.below hb,h.2.2.2.below hb⟩
theorem four_ok (w:World) (hM:MaxM w):Calls Tryz.prog 80 #[] w fun e w'=>e=.returned (.bool true)/\Below w.heap.size w w':=by
 have HM:=Lib.hid hM;clear hM;go_enter Tryz.func80,Tryz.ntmps80;go_wp2_with fail;refine(gaps5 _).mono ?_;rintro e w1 ⟨rfl,B1⟩;go_wp2_with fail;refine(Longest_ok w1.heap.size 3 _ ((HM.out.below B1).below ((Below.refl _ w1).alloc (Nat.le_refl _) _)) (by simp) (by simp) (by simp)).mono ?_;rintro e w2 ⟨rfl,hb2⟩;have B2:Below w.heap.size w w2:=bl_call (B1.alloc B1.size _) hb2 (by have:=B1.size; simp; omega);clear hb2;go_wp2
 go_ret
 exact⟨rfl,B2⟩
theorem five_ok (w:World) (hM:MaxM w):Calls Tryz.prog 55 #[] w fun e w'=>e=.returned (.bool true)/\Below w.heap.size w w':=by
 have HM:=Lib.hid hM;clear hM;go_enter Tryz.func55,Tryz.ntmps55;go_wp2_with fail;refine(stud_Roots7 _).mono ?_;rintro e w1 ⟨sv,rfl,hown,B1⟩;obtain⟨g,gc,rfl⟩:=ownsRow_succ hown;have r0:w1.cell? ⟨g,0,none⟩=some (.int .i64 ((3:Nat):Int)):=own_cell hown rfl;have r1:w1.cell? ⟨g,1,none⟩=some (.int .i64 ((5:Nat):Int)):=own_cell hown rfl;clear hown;go_wp2_with fail;refine(Best_ok w1.heap.size 1 _ (by simp) (by simp) (by simp)).mono ?_;rintro e w2 ⟨rfl,hb2⟩;have B2:Below w.heap.size w w2:=bl_call (B1.alloc B1.size _) hb2 (by have:=B1.size; simp; omega);have q0:=keepc hb2 ((World.cell?_alloc_lt _ _ _ (block_lt_of_cell r0)).trans r0);have q1:=keepc hb2 ((World.cell?_alloc_lt _ _ _ (block_lt_of_cell r1)).trans r1);clear hb2 r0 r1;go_wp2_with fail;have hB3:Below w2.heap.size w2 (w2.alloc (.cells #[.int .i64 3,.int .i64 5] 3)):=(Below.refl _ w2).alloc (Nat.le_refl _) _;refine(top_ints [3,5] g w2.heap.size gc 2 _ (by decide) (fun j x hj=>?_) (fun j x hj=>?_)).mono ?_
 ·
  match j,hj with
  | 0,hj=>obtain rfl:=Option.some.inj hj; exact keepc hB3 q0
  | 1,hj=>obtain rfl:=Option.some.inj hj; exact keepc hB3 q1
 ·
  match j,hj with
  | 0,hj=>obtain rfl:=Option.some.inj hj; exact cell_of_row _ _ 0 _ _ _ (blk_new w2 _)
  | 1,hj=>obtain rfl:=Option.some.inj hj; exact cell_of_row _ _ 1 _ _ _ (blk_new w2 _)
 rintro e w3 ⟨rfl,hb3⟩;have B3:Below w.heap.size w w3:=bl_call (B2.alloc B2.size _) hb3 (by have:=B2.size; simp; omega);clear hb3 hB3 q0 q1;go_wp2_with fail;refine(four_ok _ (HM.out.below B3)).mono ?_;rintro e w4 ⟨rfl,hb4⟩;have B4:Below w.heap.size w w4:=bl_call B3 hb4 B3.size;clear hb4;go_wp2
 go_ret
 exact⟨rfl,B4⟩
theorem seven_ok (w:World) (hM:MaxM w) (hT:Tab w):Calls Tryz.prog 29 #[] w fun e w'=>e=.returned (.bool true)/\Below w.heap.size w w':=by
 have HM:=Lib.hid hM;have HT:=Lib.hid hT;clear hM hT;go_enter Tryz.func29,Tryz.ntmps29;go_wp2_with fail;obtain⟨W0,h0⟩:∃W0,W0=(((w.alloc (.cells #[.int .i64 1,.int .i64 3] 3)).alloc (.cells #[.int .i64 0,.int .i64 1] 3)).alloc (.cells #[.int .i64 2,.slice (some ⟨w.heap.size,0,none⟩) 2 2,.slice (some ⟨w.heap.size+1,0,none⟩) 2 2] 106)).alloc (.cells #[.int .i64 1,.int .i64 1,.int .i64 0] 3):=⟨_,rfl⟩
 refine Eq.mp (congrArg (fun W=>Calls Tryz.prog 53 _ W _) h0) ?_;have R0:W0.heap[w.heap.size]?=some (.cells #[.int .i64 1,.int .i64 3] 3 (0,0)):=by rw[h0]; exact(by repeat (first | assumption | (with_reducible apply blk_set2) | (with_reducible apply blk_set1) | (with_reducible refine blk_far2 ?_ ?_; (first | omega | (simp; done) | (simp; omega))) | (with_reducible refine blk_far1 ?_ ?_; (first | omega | (simp; done) | (simp; omega))) | (with_reducible refine blk_new' _ _ ?_; (first | omega | (simp; done) | (simp; omega))) | (with_reducible refine blk_old ?_) | (with_reducible refine blk_drew ?_)))
 have R1:W0.heap[w.heap.size+1]?=some (.cells #[.int .i64 0,.int .i64 1] 3 (0,0)):=by rw[h0]; exact(by repeat (first | assumption | (with_reducible apply blk_set2) | (with_reducible apply blk_set1) | (with_reducible refine blk_far2 ?_ ?_; (first | omega | (simp; done) | (simp; omega))) | (with_reducible refine blk_far1 ?_ ?_; (first | omega | (simp; done) | (simp; omega))) | (with_reducible refine blk_new' _ _ ?_; (first | omega | (simp; done) | (simp; omega))) | (with_reducible refine blk_old ?_) | (with_reducible refine blk_drew ?_)))
 have R2:W0.heap[w.heap.size+1+1+1]?=some (.cells #[.int .i64 1,.int .i64 1,.int .i64 0] 3 (0,0)):=by rw[h0]; exact(by repeat (first | assumption | (with_reducible apply blk_set2) | (with_reducible apply blk_set1) | (with_reducible refine blk_far2 ?_ ?_; (first | omega | (simp; done) | (simp; omega))) | (with_reducible refine blk_far1 ?_ ?_; (first | omega | (simp; done) | (simp; omega))) | (with_reducible refine blk_new' _ _ ?_; (first | omega | (simp; done) | (simp; omega))) | (with_reducible refine blk_old ?_) | (with_reducible refine blk_drew ?_)))
 have B0:Below w.heap.size w W0:=by rw[h0]; exact(by repeat (first | exact Below.refl _ _ | exact Nat.le_refl _ | refine Below.alloc ?_ ?_ _ | refine Below.setCell ?_ ?_ _ | refine Below.drew ?_ | refine bl_drewN ?_ _ | (assumption) | refine bl_call ?_ (by assumption) ?_ | omega | (simp <;> omega)))
 clear h0;refine(Start_3 w.heap.size (w.heap.size+1) (w.heap.size+1+1+1) 3 W0 (cell_of_row W0 _ 0 _ _ _ R0) (cell_of_row W0 _ 1 _ _ _ R0) (cell_of_row W0 _ 0 _ _ _ R1) (cell_of_row W0 _ 1 _ _ _ R1) (cell_of_row W0 _ 0 _ _ _ R2) (cell_of_row W0 _ 1 _ _ _ R2) (cell_of_row W0 _ 2 _ _ _ R2)).mono ?_;rintro e w1 ⟨rfl,hb1⟩;have B1:Below w.heap.size w w1:=bl_call B0 hb1 B0.size;clear R0 R1 R2 B0;clear hb1;go_wp2_with fail;refine(RackRead3 _ (HT.out.below B1)).mono ?_;rintro e w2 ⟨sv,rfl,hown,hb2⟩;have B2:Below w.heap.size w w2:=bl_call B1 hb2 B1.size;obtain⟨g,gc,rfl⟩:=ownsRow_succ hown;have q0:w2.cell? ⟨g,0,none⟩=some (.int .i64 ((3:Nat):Int)):=own_cell hown rfl;clear hown hb2;go_wp2_with fail;have hB3:Below w2.heap.size w2 (w2.alloc (.cells #[.int .i64 3] 3)):=(Below.refl _ w2).alloc (Nat.le_refl _) _;refine(top_ints [3] g w2.heap.size gc 1 _ (by decide) (fun j x hj=>?_) (fun j x hj=>?_)).mono ?_
 ·
  match j,hj with
  | 0,hj=>obtain rfl:=Option.some.inj hj; exact keepc hB3 q0
 ·
  match j,hj with
  | 0,hj=>obtain rfl:=Option.some.inj hj; exact cell_of_row _ _ 0 _ _ _ (blk_new w2 _)
 rintro e w3 ⟨rfl,hb3⟩;have B3:Below w.heap.size w w3:=bl_call (B2.alloc B2.size _) hb3 (by have:=B2.size; simp; omega);clear hb3 hB3 q0;go_wp2_with fail;refine(five_ok _ (HM.out.below B3)).mono ?_;rintro e w4 ⟨rfl,hb4⟩;have B4:Below w.heap.size w w4:=bl_call B3 hb4 B3.size;clear hb4;go_wp2
 go_ret
 exact⟨rfl,B4⟩
theorem eight_v (w:World) (hW:TopV w):Calls Tryz.prog 11 #[] w fun e w'=>e=.returned (.bool true)/\Below w.heap.size w w':=by
 have HW:=Lib.hid hW;clear hW;go_enter Tryz.func11,Tryz.ntmps11;go_wp2_with fail;have hA:Below w.heap.size w (w.alloc (.cells #[.int .i64 1,.int .i64 3] 3)):=(Below.refl _ w).alloc (Nat.le_refl _) _;refine(Opens_ok w.heap.size 2 _ (HW.out.1.below hA) (by simp) (by simp)).mono ?_;rintro e w1 ⟨sv,rfl,hown,hb1⟩;have B1:Below w.heap.size w w1:=bl_call hA hb1 (by simp);obtain⟨g,gc,rfl⟩:=ownsRow_succ hown;have r0:w1.cell? ⟨g,0,none⟩=some (.int .i64 ((0:Nat):Int)):=own_cell hown rfl;have r1:w1.cell? ⟨g,1,none⟩=some (.int .i64 ((1:Nat):Int)):=own_cell hown rfl;have r2:w1.cell? ⟨g,2,none⟩=some (.int .i64 ((3:Nat):Int)):=own_cell hown rfl;clear hown hb1 hA;go_wp2_with fail;have hB3:Below w1.heap.size w1 (w1.alloc (.cells #[.int .i64 0,.int .i64 1,.int .i64 3] 3)):=(Below.refl _ w1).alloc (Nat.le_refl _) _;refine(top_ints [0,1,3] g w1.heap.size gc 3 _ (by decide) (fun j x hj=>?_) (fun j x hj=>?_)).mono ?_
 ·
  match j,hj with
  | 0,hj=>obtain rfl:=Option.some.inj hj; exact keepc hB3 r0
  | 1,hj=>obtain rfl:=Option.some.inj hj; exact keepc hB3 r1
  | 2,hj=>obtain rfl:=Option.some.inj hj; exact keepc hB3 r2
 ·
  match j,hj with
  | 0,hj=>obtain rfl:=Option.some.inj hj; exact cell_of_row _ _ 0 _ _ _ (blk_new w1 _)
  | 1,hj=>obtain rfl:=Option.some.inj hj; exact cell_of_row _ _ 1 _ _ _ (blk_new w1 _)
  | 2,hj=>obtain rfl:=Option.some.inj hj; exact cell_of_row _ _ 2 _ _ _ (blk_new w1 _)
 rintro e w3 ⟨rfl,hb3⟩;have B3:Below w.heap.size w w3:=bl_call (B1.alloc B1.size _) hb3 (by have:=B1.size; simp; omega);clear hb3 hB3 r0 r1 r2;go_wp2_with fail;refine(seven_ok _ (HW.out.below B3).2.2 (HW.out.below B3).2.1).mono ?_;rintro e w4 ⟨rfl,hb4⟩;have B4:Below w.heap.size w w4:=bl_call B3 hb4 B3.size;clear hb4;go_wp2
 go_ret
 exact⟨rfl,B4⟩
end Go.Proofs.YtaffkceklkdokaaGreatDoor
