/- Sides of a graph with two vertices: has, proper. -/
import Derived.Test.YtaffkceklkdokaaGreatDoorTB
import Derived.Maps.Keyed
import Derived.Carry
set_option maxRecDepth 100000
set_option maxHeartbeats 4000000
namespace Go.Proofs.YtaffkceklkdokaaGreatDoor
open Go.RowKit
attribute [local go_sem ↓] Go.wp_at_zero Go.wp_at_succ
theorem belt_within (n lo hi:Int) (w:World) :
  Calls Tryz.prog 46 #[.int .i64 n,.int .i64 lo,.int .i64 hi] w fun e w'=>e=.returned (.bool (decide (lo<=n) && decide (n<=hi)))/\w=w':=by
 by_cases h1:lo<=n
 ·
  by_cases h2:n<=hi
  all_goals
   go_enter Tryz.func46,Tryz.ntmps46;go_wp2
   go_ret
   exact⟨by simp[h1,h2],rfl⟩
 ·
  go_enter Tryz.func46,Tryz.ntmps46;go_wp2
  go_ret
  exact⟨by rw[decide_eq_false (show ¬lo<=n by omega)]; rfl,rfl⟩
/-- a graph's value: two vertices, its edges' slice, its map -/
abbrev GrV (ev mv:Value):Value:=.agg #[.int .i64 2,ev,mv]
/-- whether a side of two vertices has one -/
def hs2 (s v:Nat):Bool:=s / 2 ^ (1-v) % 2 == 1
theorem gr_has (ev mv:Value) (s v:Nat) (hs:s<=3) (hv:v<=1) (w:World):Calls Tryz.prog 50 #[GrV ev mv,.int .u64 (s:Nat),.int .i64 (v:Nat)] w fun e w'=>e=.returned (.bool (hs2 s v))/\Below w.heap.size w w':=by
 have e0:bits BinOp.and IntKind.u64 0 1=0:=by kernel_rfl
 have e1:bits BinOp.and IntKind.u64 1 1=1:=by kernel_rfl
 have e2:bits BinOp.and IntKind.u64 2 1=0:=by kernel_rfl
 have e3:bits BinOp.and IntKind.u64 3 1=1:=by kernel_rfl
 rcases (by omega:s=0∨s=1∨s=2∨s=3) with rfl | rfl | rfl | rfl <;> rcases (by omega:v=0∨v=1) with rfl | rfl;all_goals
  go_enter Tryz.func50,Tryz.ntmps50;go_wp2
  go_ret
  exact⟨rfl,(by repeat (first | exact Below.refl _ _ | exact Nat.le_refl _ | refine Below.alloc ?_ ?_ _ | refine Below.setCell ?_ ?_ _ | refine Below.drew ?_ | refine bl_drewN ?_ _ | (assumption) | refine bl_call ?_ (by assumption) ?_ | omega | (simp <;> omega)))⟩
theorem gr_proper (ev mv:Value) (s:Nat) (hs:s<=3) (w:World):Calls Tryz.prog 26 #[GrV ev mv,.int .u64 (s:Nat)] w fun e w'=>e=.returned (.bool (!hs2 s 0))/\Below w.heap.size w w':=by
 go_enter Tryz.func26,Tryz.ntmps26;go_wp2_with fail;refine(gr_has ev mv s 0 hs (by decide) _).mono ?_;rintro e w1 ⟨rfl,hb1⟩;have B1:Below w.heap.size w w1:=bl_call (by repeat (first | exact Below.refl _ _ | exact Nat.le_refl _ | refine Below.alloc ?_ ?_ _ | refine Below.setCell ?_ ?_ _ | refine Below.drew ?_ | refine bl_drewN ?_ _ | (assumption) | refine bl_call ?_ (by assumption) ?_ | omega | (simp <;> omega))) hb1 (by simp);clear hb1;go_wp2
 go_ret
 exact⟨rfl,B1⟩
open Go.RowKit Go.ChangeMaps
section
variable {P : Program} {k t e : TypeId}
theorem look_none {w:World} {b:Nat} {es:Array MapEntry} {clock:Nat} {key z:Value} (hb:w.heap[b]?=some (.map es clock)) (ht:P.underlying t=some (.map k e)) (hc:(Instr.checkKey es.isEmpty 10000 k key).run P w=.ok () w) (hf:(Instr.findKey k key es.toList).run P w=.ok none w) (hz:(zeroValue e).run P w=.ok z w) (c:Bool) :
  (Instr.lookup t (.map (some b)) key c).run P w=.ok (if c then .tuple #[z,.bool false] else z) w:=by
 cases c <;> simp[Instr.lookup,run_underlying ht,MapKept.run_getObj_map hb,hc,hf,hz,Result.andThen]
theorem put_new {w:World} {b:Nat} {es:Array MapEntry} {clock:Nat} {key v:Value} (hb:w.heap[b]?=some (.map es clock)) (ht:P.underlying t=some (.map k e)) (hc:(Instr.checkKey false 10000 k key).run P w=.ok () w) (hf:(Instr.findKey k key es.toList).run P w=.ok none w) :
  (Instr.mapUpdate t (.map (some b)) key v).run P w=.ok () (setBlock w b (.map (es.push ⟨key,v,clock⟩) (clock+1))):=by
 simp[Instr.mapUpdate,run_underlying ht,MapKept.run_getObj_map hb,hc,hf,MapKept.run_setObj_map _ hb,Result.andThen,setBlock]
end
theorem sb_new {w:World} {r:Nat} {o o':Obj} (h:w.heap[r]?=some o):(setBlock w r o').heap[r]?=some o':=by
 have:=blk_lt h;simp[setBlock,this]
theorem sb_other {w:World} {r b:Nat} {o':Obj} (h:b≠r):(setBlock w r o').heap[b]?=w.heap[b]?:=by
 simp only[setBlock];rw[Array.getElem?_setIfInBounds,if_neg (Ne.symm h)]
theorem sb_below {B:Nat} {w w':World} {r:Nat} (o:Obj) (h:Below B w w') (hr:B<=r):Below B w (setBlock w' r o) :=
 ⟨h.os,h.tape,h.output,by have:=h.size; simpa[setBlock]using this,fun k hk=>(sb_other (by omega)).trans (h.block k hk)⟩
def PK:Value:=.agg #[.int .i64 0,.int .i64 1]
theorem pk_c1 (w:World):(Instr.checkKey true 10000 95 PK).run Tryz.prog w=.ok () w:=by kernel_rfl
theorem pk_c0 (w:World):(Instr.checkKey false 10000 95 PK).run Tryz.prog w=.ok () w:=by kernel_rfl
theorem pk_f (w:World):(Instr.findKey 95 PK (#[]:Array MapEntry).toList).run Tryz.prog w=.ok none w:=by kernel_rfl
theorem pk_z (w:World):(zeroValue 3).run Tryz.prog w=.ok (.int .i64 0) w:=by kernel_rfl
attribute [local go_sem ↓] Go.wp_at_zero Go.wp_at_succ
theorem newGraph_ok (eb cap:Nat) (w:World) (e0:w.cell? ⟨eb,0,none⟩=some (.int .i64 0)) (e1:w.cell? ⟨eb,1,none⟩=some (.int .i64 1)) (e2:w.cell? ⟨eb,2,none⟩=some (.int .i64 3)) :
  Calls Tryz.prog 22 #[.int .i64 2,.slice (some ⟨eb,0,none⟩) 1 cap] w fun e w'=>e=.returned (.tuple #[GrV (.slice (some ⟨eb,0,none⟩) 1 cap) (.map (some (w.heap.size+1))),.bool true])/\Below w.heap.size w w':=by
 have hmm:=@run_makeMap Tryz.prog;go_enter Tryz.func22,Tryz.ntmps22;go_wp2_with (first
  | (go_at_call 46; refine(belt_within _ _ _ _).mono ?_; rintro e w' ⟨rfl,rfl⟩)
  | fail)
 go_loopw [26] (fun x wr=>∃k:Nat,x=.int .i64 k/\k<=1/\wr.heap[w.heap.size]?=some (.cells #[.int .i64 0,.slice none 0 0,.map none] 66 (0,0))/\wr.heap[w.heap.size+1+1]?=some (.cells #[.int .i64 2,.slice (some ⟨eb,0,none⟩) 1 cap,.map (some (w.heap.size+1))] 66 (0,0))/\(k=0->wr.heap[w.heap.size+1]?=some (.map #[] 0))/\Below w.heap.size w wr) (fun x _=>1-(intOf x).toNat)
 case atStart=>exact⟨0,rfl,by decide,(by repeat (first | assumption | (with_reducible apply blk_set2) | (with_reducible apply blk_set1) | (with_reducible refine blk_far2 ?_ ?_; (first | omega | (simp; done) | (simp; omega))) | (with_reducible refine blk_far1 ?_ ?_; (first | omega | (simp; done) | (simp; omega))) | (with_reducible refine blk_new' _ _ ?_; (first | omega | (simp; done) | (simp; omega))) | (with_reducible refine blk_old ?_) | (with_reducible refine blk_drew ?_))),(by repeat (first | assumption | (with_reducible apply blk_set2) | (with_reducible apply blk_set1) | (with_reducible refine blk_far2 ?_ ?_; (first | omega | (simp; done) | (simp; omega))) | (with_reducible refine blk_far1 ?_ ?_; (first | omega | (simp; done) | (simp; omega))) | (with_reducible refine blk_new' _ _ ?_; (first | omega | (simp; done) | (simp; omega))) | (with_reducible refine blk_old ?_) | (with_reducible refine blk_drew ?_))),fun _=>(by repeat (first | assumption | (with_reducible apply blk_set2) | (with_reducible apply blk_set1) | (with_reducible refine blk_far2 ?_ ?_; (first | omega | (simp; done) | (simp; omega))) | (with_reducible refine blk_far1 ?_ ?_; (first | omega | (simp; done) | (simp; omega))) | (with_reducible refine blk_new' _ _ ?_; (first | omega | (simp; done) | (simp; omega))) | (with_reducible refine blk_old ?_) | (with_reducible refine blk_drew ?_))),(by repeat (first | exact Below.refl _ _ | exact Nat.le_refl _ | refine Below.alloc ?_ ?_ _ | refine Below.setCell ?_ ?_ _ | refine Below.drew ?_ | refine bl_drewN ?_ _ | (assumption) | refine bl_call ?_ (by assumption) ?_ | omega | (simp <;> omega)))⟩
 case round =>
  obtain⟨k,rfl,hk,hO,hR,hM,B⟩:=hrel;rcases (by omega:k=0∨k=1) with rfl | rfl
  ·
   have f0:wr.cell? ⟨eb,0,none⟩=some (.int .i64 0):=(B.cell (block_lt_of_cell e0)).trans e0;have f1:wr.cell? ⟨eb,1,none⟩=some (.int .i64 1):=(B.cell (block_lt_of_cell e1)).trans e1;have f2:wr.cell? ⟨eb,2,none⟩=some (.int .i64 3):=(B.cell (block_lt_of_cell e2)).trans e2;have hM0:=hM rfl;have hsz:=blk_lt hR;have HO:=Lib.hid hO;have HR:=Lib.hid hR;have HM:=Lib.hid hM0;clear hO hR hM hM0 e0 e1 e2;go_upto_region 9 with (first
    | (go_at_call 46; refine(belt_within _ _ _ _).mono ?_; rintro e w' ⟨rfl,rfl⟩)
    | fail)
   obtain⟨W0,h0⟩:∃W0,W0=wr.alloc (.cells #[.int .i64 0,.int .i64 1,.int .i64 3] 26):=⟨_,rfl⟩
   rw[<-h0];have B0:Below w.heap.size w W0:=by rw[h0]; exact(by repeat (first | exact Below.refl _ _ | exact Nat.le_refl _ | refine Below.alloc ?_ ?_ _ | refine Below.setCell ?_ ?_ _ | refine Below.drew ?_ | refine bl_drewN ?_ _ | (assumption) | refine bl_call ?_ (by assumption) ?_ | omega | (simp <;> omega)))
   have M0:W0.heap[w.heap.size+1]?=some (.map #[] 0):=by rw[h0]; exact blk_old HM.out
   have R0:W0.heap[w.heap.size+1+1]?=some (.cells #[.int .i64 2,.slice (some ⟨eb,0,none⟩) 1 cap,.map (some (w.heap.size+1))] 66 (0,0)):=by rw[h0]; exact blk_old HR.out
   have O0:W0.heap[w.heap.size]?=some (.cells #[.int .i64 0,.slice none 0 0,.map none] 66 (0,0)):=by rw[h0]; exact blk_old HO.out
   have E0:W0.heap[wr.heap.size]?=some (.cells #[.int .i64 0,.int .i64 1,.int .i64 3] 26 (0,0)):=by rw[h0]; exact blk_new _ _
   clear h0;have g2:W0.cell? ⟨w.heap.size+1+1,2,none⟩=some (.map (some (w.heap.size+1))):=cell_of_row W0 _ 2 _ _ _ R0;have d0:W0.cell? ⟨wr.heap.size,0,none⟩=some (.int .i64 0):=cell_of_row W0 _ 0 _ _ _ E0;have d1:W0.cell? ⟨wr.heap.size,1,none⟩=some (.int .i64 1):=cell_of_row W0 _ 1 _ _ _ E0;have d2:W0.cell? ⟨wr.heap.size,2,none⟩=some (.int .i64 3):=cell_of_row W0 _ 2 _ _ _ E0;have hlk:(Instr.lookup 64 (.map (some (w.heap.size+1))) (.agg #[.int .i64 0,.int .i64 1]) true).run Tryz.prog W0=.ok (.tuple #[.int .i64 0,.bool false]) W0:=look_none M0 Tryz.underlying64 (pk_c1 W0) (pk_f W0) (pk_z W0) true;have hpt:(Instr.mapUpdate 64 (.map (some (w.heap.size+1))) (.agg #[.int .i64 0,.int .i64 1]) (.int .i64 3)).run Tryz.prog W0=.ok () (setBlock W0 (w.heap.size+1) (.map ((#[]:Array MapEntry).push ⟨.agg #[.int .i64 0,.int .i64 1],.int .i64 3,0⟩) (0+1))):=put_new M0 Tryz.underlying64 (pk_c0 W0) (pk_f W0);have HM0:=Lib.hid M0;have HR0:=Lib.hid R0;have HO0:=Lib.hid O0;clear M0 R0 O0 E0 HM HR HO f0 f1 f2;go_wp2;exact⟨⟨1,rfl,by decide,(sb_other (by omega)).trans HO0.out,(sb_other (by omega)).trans HR0.out,(fun h=>absurd h (by decide)),sb_below _ B0 (by omega)⟩,by decide⟩
  · have g0:wr.cell? ⟨w.heap.size+1+1,0,none⟩=some (.int .i64 2):=cell_of_row wr _ 0 _ _ _ hR;have g1:wr.cell? ⟨w.heap.size+1+1,1,none⟩=some (.slice (some ⟨eb,0,none⟩) 1 cap):=cell_of_row wr _ 1 _ _ _ hR;have g2:wr.cell? ⟨w.heap.size+1+1,2,none⟩=some (.map (some (w.heap.size+1))):=cell_of_row wr _ 2 _ _ _ hR;have o0:wr.cell? ⟨w.heap.size,0,none⟩=some (.int .i64 0):=cell_of_row wr _ 0 _ _ _ hO;have o1:wr.cell? ⟨w.heap.size,1,none⟩=some (.slice none 0 0):=cell_of_row wr _ 1 _ _ _ hO;have o2:wr.cell? ⟨w.heap.size,2,none⟩=some (.map none):=cell_of_row wr _ 2 _ _ _ hO;have fo:=row_f hO;have zo:=blk_lt hO;clear hR hO e0 e1 e2;go_wp2;exact bodyPost_ret (v:=.tuple #[GrV (.slice (some ⟨eb,0,none⟩) 1 cap) (.map (some (w.heap.size+1))),.bool true]) (by simp[results,Tryz.results22,go_sem, *]) rfl ⟨rfl,(by repeat (first | exact Below.refl _ _ | exact Nat.le_refl _ | refine Below.alloc ?_ ?_ _ | refine Below.setCell ?_ ?_ _ | refine Below.drew ?_ | refine bl_drewN ?_ _ | (assumption) | refine bl_call ?_ (by assumption) ?_ | omega | (simp <;> omega)))⟩
end Go.Proofs.YtaffkceklkdokaaGreatDoor
