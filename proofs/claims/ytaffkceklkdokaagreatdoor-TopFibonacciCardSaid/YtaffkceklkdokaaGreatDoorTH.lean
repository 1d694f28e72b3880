/- The gauge's powers and norms that TopFibonacci asks for, and the word of five gaps. -/
import Derived.Test.YtaffkceklkdokaaGreatDoorYG
import Derived.Test.YtaffkceklkdokaaGreatDoorYE
import Derived.Test.YtaffkceklkdokaaGreatDoorYB
import Derived.Test.YtaffkceklkdokaaGreatDoorTF
set_option maxRecDepth 100000
set_option maxHeartbeats 4000000
namespace Go.Proofs.YtaffkceklkdokaaGreatDoor
open Go.RowKit
theorem gaps5 (w:World):Calls Tryz.prog 100 #[.int .i64 5] w fun e w'=>e=.returned (.tuple #[.string ⟨#[76,83,76,76,83]⟩,.int .i64 0])/\Below w.heap.size w w':=by
 have h:=GG.Gaps_yes 5 w (by decide);rw[show GM.gaps 5 = [76,83,76,76,83] by kernel_rfl]at h;exact h
theorem pw_b:∀k,k<=10->(GM.pt (43+2 * k)).2=tx k/\(GM.pt (45+2 * k)).2=tz k:=by decide +kernel
theorem pw_n:∀k,k<=10->(GM.pt (43+2 * k)).1 * (GM.pt (43+2 * k)).1+(GM.pt (43+2 * k)).1 * (GM.pt (43+2 * k)).2-(GM.pt (43+2 * k)).2 * (GM.pt (43+2 * k)).2 = -1/\(GM.pt (45+2 * k)).1 * (GM.pt (45+2 * k)).1+(GM.pt (45+2 * k)).1 * (GM.pt (45+2 * k)).2-(GM.pt (45+2 * k)).2 * (GM.pt (45+2 * k)).2 = -1:=by decide +kernel
theorem pw_i:∀k,k<=10->GG.isN (GM.pt (43+2 * k)).1 (GM.pt (43+2 * k)).2=true/\GG.isN (GM.pt (45+2 * k)).1 (GM.pt (45+2 * k)).2=true:=by decide +kernel
/-- the first number of a power -/
def pa (j k:Nat):Int:=(GM.pt (j+2 * k)).1
theorem power3 (k:Nat) (hk:k<=10) (w:World):Calls Tryz.prog 13 #[.int .i64 (2 * (k:Int)+3)] w fun e w'=>e=.returned (.tuple #[.agg #[.int .i64 (pa 43 k),.int .i64 (tx k)],.int .i64 0])/\Below w.heap.size w w':=by
 have h:=GG.Power_yes (2 * (k:Int)+3) (43+2 * k) w (by omega) (by omega) (by omega);rw[(pw_b k hk).1]at h;exact h
theorem power5 (k:Nat) (hk:k<=10) (w:World):Calls Tryz.prog 13 #[.int .i64 (2 * (k:Int)+5)] w fun e w'=>e=.returned (.tuple #[.agg #[.int .i64 (pa 45 k),.int .i64 (tz k)],.int .i64 0])/\Below w.heap.size w w':=by
 have h:=GG.Power_yes (2 * (k:Int)+5) (45+2 * k) w (by omega) (by omega) (by omega);rw[(pw_b k hk).2]at h;exact h
theorem norm3 (k:Nat) (hk:k<=10) (w:World):Calls Tryz.prog 14 #[.agg #[.int .i64 (pa 43 k),.int .i64 (tx k)]] w fun e w'=>e=.returned (.tuple #[.int .i64 (-1),.int .i64 0])/\Below w.heap.size w w':=by
 have h:=GG.Norm_yes _ _ w (pw_i k hk).1;rw[(pw_n k hk).1,(pw_b k hk).1]at h;exact h
theorem norm5 (k:Nat) (hk:k<=10) (w:World):Calls Tryz.prog 14 #[.agg #[.int .i64 (pa 45 k),.int .i64 (tz k)]] w fun e w'=>e=.returned (.tuple #[.int .i64 (-1),.int .i64 0])/\Below w.heap.size w w':=by
 have h:=GG.Norm_yes _ _ w (pw_i k hk).2;rw[(pw_n k hk).2,(pw_b k hk).2]at h;exact h
open Go.RowKit
attribute [local go_sem ↓] Go.wp_at_zero Go.wp_at_succ
def topZ (x n:Int):Int:=(x % 18446744073709551616) % n
theorem topZ_bd (x n:Int) (h:0 < n):0<=topZ x n/\topZ x n < n:=⟨Int.emod_nonneg _ (by omega),Int.emod_lt_of_pos _ h⟩
theorem top_mod (x n:Int) (w:World) (h1:0 < n) (h2:n<=4000000) :
  Calls Tryz.prog 5 #[.int .i64 x,.int .i64 n] w fun e w'=>e=.returned (.int .i64 (topZ x n))/\Below w.heap.size w w':=by
 have hb:=topZ_bd x n h1;have hne:¬n=0:=by omega
 go_enter Tryz.func5,Tryz.ntmps5;have e:wrap64 ((IntKind.u64.wrap x).tmod n)=topZ x n:=by
  have e1:IntKind.u64.wrap x=x % 18446744073709551616:=by simp[IntKind.wrap,IntKind.signed,IntKind.bits]
  rw[e1,Int.tmod_eq_emod_of_nonneg (Int.emod_nonneg _ (by decide))];change wrap64 (topZ x n)=topZ x n;unfold wrap64;omega
 have E:=Lib.hid e;clear e;go_wp2_with fail;rw[E.out]
 go_ret
 exact⟨rfl,(by repeat (first | exact Below.refl _ _ | exact Nat.le_refl _ | refine Below.alloc ?_ ?_ _ | refine Below.setCell ?_ ?_ _ | refine Below.drew ?_ | refine bl_drewN ?_ _ | (assumption) | refine bl_call ?_ (by assumption) ?_ | omega | (simp <;> omega)))⟩
theorem rs_succ (j:Nat):rs j ++ ⟨#[82]⟩=rs (j+1):=by
 have h:(rs j ++ (⟨#[82]⟩:ByteArray)).data=(rs (j+1)).data:=by
  apply Array.ext';simp[rs,ByteArray.data_append,List.replicate_succ']
 exact congrArg ByteArray.mk h
theorem eq39 (k:Nat) (hk:k<=10) (w:World):(Op.equalIn 10000 39 (.agg #[.int .i64 1,.int .i64 (tx k),.int .i64 (tz k)]) (.agg #[.int .i64 1,.int .i64 (tx k),.int .i64 (tz k)])).run Tryz.prog w=.ok true w:=by
 rcases (by omega:k=0∨k=1∨k=2∨k=3∨k=4∨k=5∨k=6∨k=7∨k=8∨k=9∨k=10) with rfl | rfl | rfl | rfl | rfl | rfl | rfl | rfl | rfl | rfl | rfl <;> kernel_rfl
theorem Fibonacci_walk (n:Int) (w:World) (hf:First w) (hnine:∀wx,Below w.heap.size w wx->Calls Tryz.prog 15 #[] wx fun e w'=>e=.returned (.bool true)/\Below wx.heap.size wx w') :
  Calls Tryz.prog 4 #[.int .i64 n] w fun e w'=>e=.returned (.bool true)/\Below w.heap.size w w':=by
 have hb:=topZ_bd n 11 (by decide);have hM:=fun wx=>top_mod n 11 wx (by decide) (by decide);obtain⟨k,hk⟩:∃k:Nat,topZ n 11=(k:Int):=⟨(topZ n 11).toNat,by omega⟩
 simp only[hk]at hM hb;have hk10:k<=10:=by omega
 have HN:=Lib.hid hnine;have HM:=Lib.hid hM;have HF:=Lib.hid (fun wx hb=>Follow_rs k hk10 wx (hf.below hb));have HP:=Lib.hid (fun wx=>(⟨power3 k hk10 wx,power5 k hk10 wx,norm3 k hk10 wx,norm5 k hk10 wx⟩:_/\_/\_/\_));clear hnine hM hf hk hb;go_enter Tryz.func4,Tryz.ntmps4;go_wp2_with fail;refine(HM.out _).mono ?_;rintro e w1 ⟨rfl,hb1⟩;have B1:Below w.heap.size w w1:=bl_call (by repeat (first | exact Below.refl _ _ | exact Nat.le_refl _ | refine Below.alloc ?_ ?_ _ | refine Below.setCell ?_ ?_ _ | refine Below.drew ?_ | refine bl_drewN ?_ _ | (assumption) | refine bl_call ?_ (by assumption) ?_ | omega | (simp <;> omega))) hb1 (Nat.le_refl _);clear hb1;go_wp2_with fail;go_loopw [4,3] (fun x s wr=>∃j:Nat,x=.int .i64 (j:Int)/\j<=k/\s=.string (rs j)/\Below w.heap.size w wr) (fun x _ _=>k-(intOf x).toNat)
 case atStart=>exact⟨0,rfl,by omega,rfl,B1⟩
 case round =>
  obtain⟨j,rfl,hj,rfl,B⟩:=hrel;have hz:=rs_size j
  by_cases hjk:j < k
  ·
   have hS:=rs_succ j;go_wp2_with fail
   go_roundw
   case rel=>exact⟨j+1,by simp,by omega,rfl,B⟩
   case measure=>simp[intOf]; omega
  ·
   obtain rfl:j=k:=by omega
   go_wp2_with fail;refine(HF.out _ B).mono ?_;rintro e w2 ⟨rfl,hb2⟩;have B2:Below w.heap.size w w2:=bl_call B hb2 B.size;clear hb2;go_wp2_with fail;refine(HP.out _).1.mono ?_;rintro e w3 ⟨rfl,hb3⟩;have B3:Below w.heap.size w w3:=bl_call (B2.alloc B2.size _) hb3 (by have:=B2.size; simp; omega);have l0:w3.cell? ⟨w2.heap.size,0,none⟩=some (.int .i64 1):=keepc hb3 (by simp);have l1:w3.cell? ⟨w2.heap.size,1,none⟩=some (.int .i64 (tx j)):=keepc hb3 (by simp);have l2:w3.cell? ⟨w2.heap.size,2,none⟩=some (.int .i64 (tz j)):=keepc hb3 (by simp);clear hb3;go_wp2_with fail;refine(HP.out _).2.1.mono ?_;rintro e w4 ⟨rfl,hb4⟩;have B4:Below w.heap.size w w4:=bl_call (B3.alloc B3.size _) hb4 (by have:=B3.size; simp; omega);have m0:w4.cell? ⟨w3.heap.size,0,none⟩=some (.int .i64 (pa 43 j)):=keepc hb4 (by simp);have m1:w4.cell? ⟨w3.heap.size,1,none⟩=some (.int .i64 (tx j)):=keepc hb4 (by simp)
   replace l0:=keepc hb4 ((World.cell?_alloc_lt _ _ _ (block_lt_of_cell l0)).trans l0)
   replace l1:=keepc hb4 ((World.cell?_alloc_lt _ _ _ (block_lt_of_cell l1)).trans l1)
   replace l2:=keepc hb4 ((World.cell?_alloc_lt _ _ _ (block_lt_of_cell l2)).trans l2)
   clear hb4;have z3:w3.heap.size < w4.heap.size:=block_lt_of_cell m0;go_wp2_with fail;refine(HP.out _).2.2.1.mono ?_;rintro e w5 ⟨rfl,hb5⟩;have B5:Below w.heap.size w w5:=bl_call (B4.alloc B4.size _) hb5 (by have:=B4.size; simp; omega);have p0:w5.cell? ⟨w4.heap.size,0,none⟩=some (.int .i64 (pa 45 j)):=keepc hb5 (by simp);have p1:w5.cell? ⟨w4.heap.size,1,none⟩=some (.int .i64 (tz j)):=keepc hb5 (by simp)
   replace l0:=keepc hb5 ((World.cell?_alloc_lt _ _ _ (block_lt_of_cell l0)).trans l0)
   replace l1:=keepc hb5 ((World.cell?_alloc_lt _ _ _ (block_lt_of_cell l1)).trans l1)
   replace l2:=keepc hb5 ((World.cell?_alloc_lt _ _ _ (block_lt_of_cell l2)).trans l2)
   replace m0:=keepc hb5 ((World.cell?_alloc_lt _ _ _ (block_lt_of_cell m0)).trans m0)
   replace m1:=keepc hb5 ((World.cell?_alloc_lt _ _ _ (block_lt_of_cell m1)).trans m1)
   clear hb5;go_wp2_with fail;refine(HP.out _).2.2.2.mono ?_;rintro e w6 ⟨rfl,hb6⟩;have B6:Below w.heap.size w w6:=bl_call B5 hb6 B5.size
   replace l0:=keepc hb6 l0
   replace l1:=keepc hb6 l1
   replace l2:=keepc hb6 l2
   replace m1:=keepc hb6 m1
   replace p1:=keepc hb6 p1
   have heq:=eq39 j hk10;clear hb6 m0 p0;go_wp2_with fail;refine(HN.out _ B6).mono ?_;rintro e w7 ⟨rfl,hb7⟩;have B7:Below w.heap.size w w7:=bl_call B6 hb7 B6.size;go_wp2_with fail
   go_ret
   exact⟨rfl,B7⟩
end Go.Proofs.YtaffkceklkdokaaGreatDoor
