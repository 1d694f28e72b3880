/- The rule of the wheel: rest, sent, gcd. -/
import Derived.Test.YtaffkceklkdokaaGreatDoorTB
import Derived.Laws.Tables
import Derived.Laws.CopyOwn
import Derived.Deep.MidRow
set_option maxRecDepth 100000
set_option maxHeartbeats 4000000
namespace Go.Proofs.YtaffkceklkdokaaGreatDoor
open Go.RowKit
attribute [local go_sem ↓] Go.wp_at_zero Go.wp_at_succ
theorem wheel_within (n lo hi:Int) (w:World) :
  Calls Tryz.prog 87 #[.int .i64 n,.int .i64 lo,.int .i64 hi] w fun e w'=>e=.returned (.bool (decide (lo<=n) && decide (n<=hi)))/\w=w':=by
 by_cases h1:lo<=n
 ·
  by_cases h2:n<=hi
  all_goals
   go_enter Tryz.func87,Tryz.ntmps87;go_wp2
   go_ret
   exact⟨by simp[h1,h2],rfl⟩
 ·
  go_enter Tryz.func87,Tryz.ntmps87;go_wp2
  go_ret
  exact⟨by rw[decide_eq_false (show ¬lo<=n by omega)]; rfl,rfl⟩
abbrev RuV (bt bp:Nat):Value:=.agg #[.int .i64 2,.slice (some ⟨bt,0,none⟩) 2 2,.slice (some ⟨bp,0,none⟩) 2 2]
theorem rest_any (bt bp:Nat) (x:Int) (w:World) (hx:0<=x/\x<=1000):Calls Tryz.prog 90 #[RuV bt bp,.int .i64 x] w fun e w'=>e=.returned (.int .i64 (x % 2))/\Below w.heap.size w w':=by
 have hm:x.tmod 2=x % 2:=Int.tmod_eq_emod_of_nonneg (by omega);have hm2:(x % 2+2).tmod 2=x % 2:=by rw[Int.tmod_eq_emod_of_nonneg (by omega)]; omega
 have hb:0<=x % 2/\x % 2<=1:=by omega
 have hw:IntKind.i64.wrap (x % 2+2)=x % 2+2:=by simp[IntKind.wrap,IntKind.signed,IntKind.bits]; omega
 obtain⟨y,hy⟩:∃y,x % 2=y:=⟨_,rfl⟩
 rw[hy]at hm hm2 hb hw;have HY:=Lib.hid hy;clear hy;go_enter Tryz.func90,Tryz.ntmps90;go_upto_region 1 with fail;go_quiet (fail)
 go_wp2
 go_ret
 exact⟨by rw[HY.out]; rfl,(by repeat (first | exact Below.refl _ _ | exact Nat.le_refl _ | refine Below.alloc ?_ ?_ _ | refine Below.setCell ?_ ?_ _ | refine Below.drew ?_ | refine bl_drewN ?_ _ | (assumption) | refine bl_call ?_ (by assumption) ?_ | omega | (simp <;> omega)))⟩
theorem gcd_ok (a:Int) (ha:a=1∨a=3) (w:World):Calls Tryz.prog 88 #[.int .i64 a,.int .i64 2] w fun e w'=>e=.returned (.int .i64 1)/\Below w.heap.size w w':=by
 go_enter Tryz.func88,Tryz.ntmps88;go_wp2;go_loopw [0,1] (fun x y wr=>(x=.int .i64 a/\y=.int .i64 2∨x=.int .i64 2/\y=.int .i64 1∨x=.int .i64 1/\y=.int .i64 0)/\Below w.heap.size w wr) (fun _ y _=>(intOf y).toNat)
 case atStart=>exact⟨.inl ⟨rfl,rfl⟩,(by repeat (first | exact Below.refl _ _ | exact Nat.le_refl _ | refine Below.alloc ?_ ?_ _ | refine Below.setCell ?_ ?_ _ | refine Below.drew ?_ | refine bl_drewN ?_ _ | (assumption) | refine bl_call ?_ (by assumption) ?_ | omega | (simp <;> omega)))⟩
 case round =>
  obtain⟨⟨rfl,rfl⟩ | ⟨rfl,rfl⟩ | ⟨rfl,rfl⟩,B⟩:=hrel
  ·
   rcases ha with rfl | rfl;all_goals
    go_upto_region 2 with fail;go_quiet (fail)
    go_wp2;exact⟨⟨.inr (.inl ⟨rfl,rfl⟩),(by repeat (first | exact Below.refl _ _ | exact Nat.le_refl _ | refine Below.alloc ?_ ?_ _ | refine Below.setCell ?_ ?_ _ | refine Below.drew ?_ | refine bl_drewN ?_ _ | (assumption) | refine bl_call ?_ (by assumption) ?_ | omega | (simp <;> omega)))⟩,by decide⟩
  ·
   go_upto_region 2 with fail;go_quiet (fail)
   go_wp2;exact⟨⟨.inr (.inr ⟨rfl,rfl⟩),(by repeat (first | exact Below.refl _ _ | exact Nat.le_refl _ | refine Below.alloc ?_ ?_ _ | refine Below.setCell ?_ ?_ _ | refine Below.drew ?_ | refine bl_drewN ?_ _ | (assumption) | refine bl_call ?_ (by assumption) ?_ | omega | (simp <;> omega)))⟩,by decide⟩
  ·
   go_wp2
   go_ret
   exact⟨rfl,B⟩
theorem sent_any (bt bp:Nat) (x z:Int) (w:World) (hx:0<=x/\x<=1000) (hz:x % 2=0/\z=x / 2∨x % 2=1/\z=(3 * x+1) / 2) (t0:w.cell? ⟨bt,0,none⟩=some (.int .i64 1)) (t1:w.cell? ⟨bt,1,none⟩=some (.int .i64 3)) (p0:w.cell? ⟨bp,0,none⟩=some (.int .i64 0)) (p1:w.cell? ⟨bp,1,none⟩=some (.int .i64 1)) :
  Calls Tryz.prog 91 #[RuV bt bp,.int .i64 x] w fun e w'=>e=.returned (.int .i64 z)/\Below w.heap.size w w':=by
 rcases hz with ⟨h,rfl⟩ | ⟨h,rfl⟩
 ·
  go_enter Tryz.func91,Tryz.ntmps91;go_wp2_with fail;refine(rest_any bt bp x _ hx).mono ?_;rintro e w1 ⟨rfl,hb1⟩;rw[h];have B1:Below w.heap.size w w1:=bl_call (by repeat (first | exact Below.refl _ _ | exact Nat.le_refl _ | refine Below.alloc ?_ ?_ _ | refine Below.setCell ?_ ?_ _ | refine Below.drew ?_ | refine bl_drewN ?_ _ | (assumption) | refine bl_call ?_ (by assumption) ?_ | omega | (simp <;> omega))) hb1 (by simp);have a0:=keepc hb1 (show(w.alloc _).cell? _=_ from(World.cell?_alloc_lt _ _ _ (block_lt_of_cell t0)).trans t0);have a2:=keepc hb1 (show(w.alloc _).cell? _=_ from(World.cell?_alloc_lt _ _ _ (block_lt_of_cell p0)).trans p0);have r0:w1.cell? ⟨w.heap.size,0,none⟩=some (.int .i64 2):=keepc hb1 (by simp);have r1:w1.cell? ⟨w.heap.size,1,none⟩=some (.slice (some ⟨bt,0,none⟩) 2 2):=keepc hb1 (by simp);have r2:w1.cell? ⟨w.heap.size,2,none⟩=some (.slice (some ⟨bp,0,none⟩) 2 2):=keepc hb1 (by simp);have hq:x.tdiv 2=x / 2:=Int.tdiv_eq_ediv_of_nonneg (by omega);clear hb1 t0 t1 p0 p1;go_upto_region 2 with fail;go_quiet (fail)
  go_wp2
  go_ret
  exact⟨rfl,(by repeat (first | exact Below.refl _ _ | exact Nat.le_refl _ | refine Below.alloc ?_ ?_ _ | refine Below.setCell ?_ ?_ _ | refine Below.drew ?_ | refine bl_drewN ?_ _ | (assumption) | refine bl_call ?_ (by assumption) ?_ | omega | (simp <;> omega)))⟩
 ·
  go_enter Tryz.func91,Tryz.ntmps91;go_wp2_with fail;refine(rest_any bt bp x _ hx).mono ?_;rintro e w1 ⟨rfl,hb1⟩;rw[h];have B1:Below w.heap.size w w1:=bl_call (by repeat (first | exact Below.refl _ _ | exact Nat.le_refl _ | refine Below.alloc ?_ ?_ _ | refine Below.setCell ?_ ?_ _ | refine Below.drew ?_ | refine bl_drewN ?_ _ | (assumption) | refine bl_call ?_ (by assumption) ?_ | omega | (simp <;> omega))) hb1 (by simp);have a1:=keepc hb1 (show(w.alloc _).cell? _=_ from(World.cell?_alloc_lt _ _ _ (block_lt_of_cell t1)).trans t1);have a3:=keepc hb1 (show(w.alloc _).cell? _=_ from(World.cell?_alloc_lt _ _ _ (block_lt_of_cell p1)).trans p1);have r0:w1.cell? ⟨w.heap.size,0,none⟩=some (.int .i64 2):=keepc hb1 (by simp);have r1:w1.cell? ⟨w.heap.size,1,none⟩=some (.slice (some ⟨bt,0,none⟩) 2 2):=keepc hb1 (by simp);have r2:w1.cell? ⟨w.heap.size,2,none⟩=some (.slice (some ⟨bp,0,none⟩) 2 2):=keepc hb1 (by simp);have hq:(3 * x+1).tdiv 2=(3 * x+1) / 2:=Int.tdiv_eq_ediv_of_nonneg (by omega);clear hb1 t0 t1 p0 p1;go_upto_region 2 with fail;go_quiet (fail)
  go_wp2
  go_ret
  exact⟨rfl,(by repeat (first | exact Below.refl _ _ | exact Nat.le_refl _ | refine Below.alloc ?_ ?_ _ | refine Below.setCell ?_ ?_ _ | refine Below.drew ?_ | refine bl_drewN ?_ _ | (assumption) | refine bl_call ?_ (by assumption) ?_ | omega | (simp <;> omega)))⟩
open Go.RowKit
attribute [local go_sem ↓] Go.wp_at_zero Go.wp_at_succ
theorem wheel_withinB (n lo hi:Int) (v:Bool) (hv:(decide (lo<=n) && decide (n<=hi))=v) (w:World) :
  Calls Tryz.prog 87 #[.int .i64 n,.int .i64 lo,.int .i64 hi] w fun e w'=>e=.returned (.bool v)/\Below w.heap.size w w':=by
 refine(wheel_within n lo hi w).mono ?_;rintro e w' ⟨rfl,rfl⟩;exact⟨by rw[hv],Below.refl _ _⟩
abbrev SlT (b:Nat):Value:=.slice (some ⟨b,0,none⟩) 2 2
theorem newRule_ok (bt bp:Nat) (w:World) (t0:w.cell? ⟨bt,0,none⟩=some (.int .i64 1)) (t1:w.cell? ⟨bt,1,none⟩=some (.int .i64 3)) (p0:w.cell? ⟨bp,0,none⟩=some (.int .i64 0)) (p1:w.cell? ⟨bp,1,none⟩=some (.int .i64 1)) :
  Calls Tryz.prog 71 #[RuV bt bp] w fun e w'=>e=.returned (.tuple #[RuV bt bp,.bool true])/\Below w.heap.size w w':=by
 go_enter Tryz.func71,Tryz.ntmps71;go_wp2_with (first
  | (go_at_call 87; refine(wheel_within _ _ _ _).mono ?_; rintro e w' ⟨rfl,rfl⟩)
  | fail)
 go_loopw [38] (fun x wr=>∃k:Nat,x=.int .i64 k/\k<=2/\wr.heap[w.heap.size+1]?=some (.cells #[.int .i64 0,.slice none 0 0,.slice none 0 0] 124 (0,0))/\wr.heap[w.heap.size+1+1]?=some (.cells #[.int .i64 2,SlT bt,SlT bp] 124 (0,0))/\Below w.heap.size w wr) (fun x _=>2-(intOf x).toNat)
 case atStart=>exact⟨0,rfl,by decide,(by repeat (first | assumption | (with_reducible apply blk_set2) | (with_reducible apply blk_set1) | (with_reducible refine blk_far2 ?_ ?_; (first | omega | (simp; done) | (simp; omega))) | (with_reducible refine blk_far1 ?_ ?_; (first | omega | (simp; done) | (simp; omega))) | (with_reducible refine blk_new' _ _ ?_; (first | omega | (simp; done) | (simp; omega))) | (with_reducible refine blk_old ?_) | (with_reducible refine blk_drew ?_))),(by repeat (first | assumption | (with_reducible apply blk_set2) | (with_reducible apply blk_set1) | (with_reducible refine blk_far2 ?_ ?_; (first | omega | (simp; done) | (simp; omega))) | (with_reducible refine blk_far1 ?_ ?_; (first | omega | (simp; done) | (simp; omega))) | (with_reducible refine blk_new' _ _ ?_; (first | omega | (simp; done) | (simp; omega))) | (with_reducible refine blk_old ?_) | (with_reducible refine blk_drew ?_))),(by repeat (first | exact Below.refl _ _ | exact Nat.le_refl _ | refine Below.alloc ?_ ?_ _ | refine Below.setCell ?_ ?_ _ | refine Below.drew ?_ | refine bl_drewN ?_ _ | (assumption) | refine bl_call ?_ (by assumption) ?_ | omega | (simp <;> omega)))⟩
 case round =>
  obtain⟨k,rfl,hk,hO,hR,B⟩:=hrel;rcases (by omega:k=0∨k=1∨k=2) with rfl | rfl | rfl
  ·
   have hu:=hk;clear hu;have k0:wr.cell? ⟨w.heap.size+1+1,0,none⟩=some (.int .i64 2):=cell_of_row wr _ 0 _ _ _ hR;have k1:wr.cell? ⟨w.heap.size+1+1,1,none⟩=some (SlT bt):=cell_of_row wr _ 1 _ _ _ hR;have k2:wr.cell? ⟨w.heap.size+1+1,2,none⟩=some (SlT bp):=cell_of_row wr _ 2 _ _ _ hR;have q0:wr.cell? ⟨bt,0,none⟩=some (.int .i64 1):=B.cell (block_lt_of_cell t0) |>.trans t0;have q1:wr.cell? ⟨bp,0,none⟩=some (.int .i64 0):=B.cell (block_lt_of_cell p0) |>.trans p0;have hsz:w.heap.size+1+1 < wr.heap.size:=blk_lt hR;have HR:=Lib.hid hR;have HO:=Lib.hid hO;clear hR hO;go_upto_region 7 with fail;refine with_act fun a0 ha0=>?_;have hsz0:a0.tmps.size=80:=by rw[ha0]; rfl
   refine wp_region_vals (W0:=wr) (by kernel_rfl) (by kernel_rfl) [(43,.int .i64 1),(44,.bool true),(45,.bool false),(46,.bool false),(47,.int .i64 1),(48,.pointer (some ⟨w.heap.size+1+1,0,none⟩)),(49,.int .i64 2),(50,.int .i64 1),(51,.bool false),(52,.bool false),(53,.bool false),(54,.pointer (some ⟨w.heap.size+1+1,2,none⟩)),(55,SlT bp),(56,.int .i64 0),(57,.pointer (some ⟨bp,0,none⟩)),(58,.int .i64 0),(59,.bool true),(60,.bool false),(61,.bool false),(62,.bool false),(63,.int .i64 1),(64,.int .i64 0),(65,.int .i64 0),(66,.pointer (some ⟨w.heap.size+1+1,2,none⟩)),(67,SlT bp),(68,.int .i64 0),(69,.pointer (some ⟨bp,0,none⟩)),(70,.int .i64 0),(71,.int .i64 0),(72,.pointer (some ⟨w.heap.size+1+1,0,none⟩)),(73,.int .i64 2),(74,.int .i64 0),(75,.bool false),(76,.bool false)] rfl (by show([43,44,45,46,47,48,49,50,51,52,53,54,55,56,57,58,59,60,61,62,63,64,65,66,67,68,69,70,71,72,73,74,75,76]:List Nat).Nodup; decide) _ hsz0 (by kernel_rfl) (BelX.start _ _) ⟨⟨rfl,?y1v0⟩,⟨rfl,?y1v1⟩,⟨rfl,?y1v2⟩,⟨rfl,?y1v3⟩,⟨rfl,?y1v4⟩,⟨rfl,?y1v5⟩,⟨rfl,?y1v6⟩,⟨rfl,?y1v7⟩,⟨rfl,?y1v8⟩,⟨rfl,?y1v9⟩,⟨rfl,?y1v10⟩,⟨rfl,?y1v11⟩,⟨rfl,?y1v12⟩,⟨rfl,?y1v13⟩,⟨rfl,?y1v14⟩,⟨rfl,?y1v15⟩,⟨rfl,?y1v16⟩,⟨rfl,?y1v17⟩,⟨rfl,?y1v18⟩,⟨rfl,?y1v19⟩,⟨rfl,?y1v20⟩,⟨rfl,?y1v21⟩,⟨rfl,?y1v22⟩,⟨rfl,?y1v23⟩,⟨rfl,?y1v24⟩,⟨rfl,?y1v25⟩,⟨rfl,?y1v26⟩,⟨rfl,?y1v27⟩,⟨rfl,?y1v28⟩,⟨rfl,?y1v29⟩,⟨rfl,?y1v30⟩,⟨rfl,?y1v31⟩,⟨rfl,?y1v32⟩,⟨rfl,?y1v33⟩,trivial⟩ ?y1done
   case y1v0 =>
    exact mvVi rfl rfl rfl (by kernel_rfl) (by rw[ha0]; rfl)
   case y1v1 =>
    intro a' w' hA hdep hX K hK;obtain⟨r43,q43⟩:=dpv hdep ⟨0,.data⟩ (by simp) rfl rfl;clear hdep ha0 hA;refine StepG.call (wanted_none rfl) rfl ?_ ((wheel_withinB 1 1 20 true rfl _)) (fun w2 hb=>hK _ (hX.call hb))
    (simp[go_sem, *] <;> decide)
   case y1v2 =>
    intro a' w' hA hdep hX K hK;obtain⟨r44,q44⟩:=dpv hdep ⟨1,.data⟩ (by simp) rfl rfl;clear hdep ha0 hA;refine StepG.value (wanted_none rfl) rfl ?_ (hK _ hX)
    (simp[go_sem, *] <;> decide)
   case y1v3 =>
    exact mvV ⟨2,.data⟩ (by simp) rfl rfl rfl rfl rfl
   case y1v4 =>
    exact mvVgi ⟨3,.guard⟩ (by simp) rfl rfl rfl rfl rfl rfl (by kernel_rfl) (by rw[ha0]; rfl)
   case y1v5 =>
    intro a' w' hA hdep hX K hK;obtain⟨r46,q46⟩:=dpv hdep ⟨3,.guard⟩ (by simp) rfl rfl;obtain⟨r4,q4⟩:=dpi hA 4 (.pointer (some ⟨w.heap.size+1+1,0,none⟩)) (by kernel_rfl) (by rw[ha0]; rfl);clear hdep ha0 hA;refine StepG.value (wanted_some rfl rfl r46) rfl ?_ (hK _ hX)
    (simp[go_sem, *] <;> decide)
   case y1v6 =>
    intro a' w' hA hdep hX K hK;obtain⟨r48,q48⟩:=dpv hdep ⟨5,.data⟩ (by simp) rfl rfl;obtain⟨r46,q46⟩:=dpv hdep ⟨3,.guard⟩ (by simp) rfl rfl;have kc0:w'.cell? ⟨w.heap.size+1+1,0,none⟩=some (.int .i64 2):=hX.cell (by simp) (by first | assumption | (go_simp; done) | (simp; done));have kc1:w'.cell? ⟨w.heap.size+1+1,2,none⟩=some (SlT bp):=hX.cell (by simp) (by first | assumption | (go_simp; done) | (simp; done));have kc2:w'.cell? ⟨bp,0,none⟩=some (.int .i64 0):=hX.cell (by simp) (by first | assumption | (go_simp; done) | (simp; done));clear hdep ha0 hA;refine StepG.value (wanted_some rfl rfl r46) rfl ?_ (hK _ hX)
    (simp[go_sem, *] <;> decide)
   case y1v7 =>
    intro a' w' hA hdep hX K hK;obtain⟨r47,q47⟩:=dpv hdep ⟨4,.data⟩ (by simp) rfl rfl;obtain⟨r49,q49⟩:=dpv hdep ⟨6,.data⟩ (by simp) rfl rfl;obtain⟨r46,q46⟩:=dpv hdep ⟨3,.chain⟩ (by simp) rfl rfl;clear hdep ha0 hA;refine StepG.call (wanted_some rfl rfl r46) rfl ?_ ((gcd_ok 1 (by decide) _)) (fun w2 hb=>hK _ (hX.call hb))
    (simp[go_sem, *] <;> decide)
   case y1v8 =>
    intro a' w' hA hdep hX K hK;obtain⟨r50,q50⟩:=dpv hdep ⟨7,.data⟩ (by simp) rfl rfl;obtain⟨r46,q46⟩:=dpv hdep ⟨3,.guard⟩ (by simp) rfl rfl;clear hdep ha0 hA;refine StepG.value (wanted_some rfl rfl r46) rfl ?_ (hK _ hX)
    (simp[go_sem, *] <;> decide)
   case y1v9 =>
    intro a' w' hA hdep hX K hK;obtain⟨r46,q46⟩:=dpv hdep ⟨3,.data⟩ (by simp) rfl rfl;obtain⟨r51,q51⟩:=dpv hdep ⟨8,.data⟩ (by simp) rfl rfl;clear hdep ha0 hA;refine StepG.value (wanted_none rfl) rfl ?_ (hK _ hX)
    (simp[go_sem, *] <;> decide)
   case y1v10 =>
    exact mvV ⟨9,.data⟩ (by simp) rfl rfl rfl rfl rfl
   case y1v11 =>
    intro a' w' hA hdep hX K hK;obtain⟨r53,q53⟩:=dpv hdep ⟨10,.guard⟩ (by simp) rfl rfl;obtain⟨r4,q4⟩:=dpi hA 4 (.pointer (some ⟨w.heap.size+1+1,0,none⟩)) (by kernel_rfl) (by rw[ha0]; rfl);clear hdep ha0 hA;refine StepG.value (wanted_some rfl rfl r53) rfl ?_ (hK _ hX)
    (simp[go_sem, *] <;> decide)
   case y1v12 =>
    intro a' w' hA hdep hX K hK;obtain⟨r54,q54⟩:=dpv hdep ⟨11,.data⟩ (by simp) rfl rfl;obtain⟨r53,q53⟩:=dpv hdep ⟨10,.guard⟩ (by simp) rfl rfl;have kc0:w'.cell? ⟨w.heap.size+1+1,0,none⟩=some (.int .i64 2):=hX.cell (by simp) (by first | assumption | (go_simp; done) | (simp; done));have kc1:w'.cell? ⟨w.heap.size+1+1,2,none⟩=some (SlT bp):=hX.cell (by simp) (by first | assumption | (go_simp; done) | (simp; done));have kc2:w'.cell? ⟨bp,0,none⟩=some (.int .i64 0):=hX.cell (by simp) (by first | assumption | (go_simp; done) | (simp; done));clear hdep ha0 hA;refine StepG.value (wanted_some rfl rfl r53) rfl ?_ (hK _ hX)
    (simp[go_sem, *] <;> decide)
   case y1v13 =>
    exact mvVgi ⟨10,.guard⟩ (by simp) rfl rfl rfl rfl rfl rfl (by kernel_rfl) (by rw[ha0]; rfl)
   case y1v14 =>
    intro a' w' hA hdep hX K hK;obtain⟨r55,q55⟩:=dpv hdep ⟨12,.data⟩ (by simp) rfl rfl;obtain⟨r56,q56⟩:=dpv hdep ⟨13,.data⟩ (by simp) rfl rfl;obtain⟨r53,q53⟩:=dpv hdep ⟨10,.guard⟩ (by simp) rfl rfl;clear hdep ha0 hA;refine StepG.value (wanted_some rfl rfl r53) rfl ?_ (hK _ hX)
    (simp[go_sem, *] <;> decide)
   case y1v15 =>
    intro a' w' hA hdep hX K hK;obtain⟨r57,q57⟩:=dpv hdep ⟨14,.data⟩ (by simp) rfl rfl;obtain⟨r53,q53⟩:=dpv hdep ⟨10,.guard⟩ (by simp) rfl rfl;have kc0:w'.cell? ⟨w.heap.size+1+1,0,none⟩=some (.int .i64 2):=hX.cell (by simp) (by first | assumption | (go_simp; done) | (simp; done));have kc1:w'.cell? ⟨w.heap.size+1+1,2,none⟩=some (SlT bp):=hX.cell (by simp) (by first | assumption | (go_simp; done) | (simp; done));have kc2:w'.cell? ⟨bp,0,none⟩=some (.int .i64 0):=hX.cell (by simp) (by first | assumption | (go_simp; done) | (simp; done));clear hdep ha0 hA;refine StepG.value (wanted_some rfl rfl r53) rfl ?_ (hK _ hX)
    (simp[go_sem, *] <;> decide)
   case y1v16 =>
    intro a' w' hA hdep hX K hK;obtain⟨r58,q58⟩:=dpv hdep ⟨15,.data⟩ (by simp) rfl rfl;obtain⟨r53,q53⟩:=dpv hdep ⟨10,.chain⟩ (by simp) rfl rfl;clear hdep ha0 hA;refine StepG.call (wanted_some rfl rfl r53) rfl ?_ ((wheel_withinB 0 (-50) 50 true rfl _)) (fun w2 hb=>hK _ (hX.call hb))
    (simp[go_sem, *] <;> decide)
   case y1v17 =>
    intro a' w' hA hdep hX K hK;obtain⟨r59,q59⟩:=dpv hdep ⟨16,.data⟩ (by simp) rfl rfl;obtain⟨r53,q53⟩:=dpv hdep ⟨10,.guard⟩ (by simp) rfl rfl;clear hdep ha0 hA;refine StepG.value (wanted_some rfl rfl r53) rfl ?_ (hK _ hX)
    (simp[go_sem, *] <;> decide)
   case y1v18 =>
    intro a' w' hA hdep hX K hK;obtain⟨r53,q53⟩:=dpv hdep ⟨10,.data⟩ (by simp) rfl rfl;obtain⟨r60,q60⟩:=dpv hdep ⟨17,.data⟩ (by simp) rfl rfl;clear hdep ha0 hA;refine StepG.value (wanted_none rfl) rfl ?_ (hK _ hX)
    (simp[go_sem, *] <;> decide)
   case y1v19 =>
    exact mvV ⟨18,.data⟩ (by simp) rfl rfl rfl rfl rfl
   case y1v20 =>
    exact mvVgi ⟨19,.guard⟩ (by simp) rfl rfl rfl rfl rfl rfl (by kernel_rfl) (by rw[ha0]; rfl)
   case y1v21 =>
    exact mvVgi ⟨19,.guard⟩ (by simp) rfl rfl rfl rfl rfl rfl (by kernel_rfl) (by rw[ha0]; rfl)
   case y1v22 =>
    intro a' w' hA hdep hX K hK;obtain⟨r63,q63⟩:=dpv hdep ⟨20,.data⟩ (by simp) rfl rfl;obtain⟨r64,q64⟩:=dpv hdep ⟨21,.data⟩ (by simp) rfl rfl;obtain⟨r62,q62⟩:=dpv hdep ⟨19,.guard⟩ (by simp) rfl rfl;clear hdep ha0 hA;refine StepG.value (wanted_some rfl rfl r62) rfl ?_ (hK _ hX)
    (simp[go_sem, *] <;> decide)
   case y1v23 =>
    intro a' w' hA hdep hX K hK;obtain⟨r62,q62⟩:=dpv hdep ⟨19,.guard⟩ (by simp) rfl rfl;obtain⟨r4,q4⟩:=dpi hA 4 (.pointer (some ⟨w.heap.size+1+1,0,none⟩)) (by kernel_rfl) (by rw[ha0]; rfl);clear hdep ha0 hA;refine StepG.value (wanted_some rfl rfl r62) rfl ?_ (hK _ hX)
    (simp[go_sem, *] <;> decide)
   case y1v24 =>
    intro a' w' hA hdep hX K hK;obtain⟨r66,q66⟩:=dpv hdep ⟨23,.data⟩ (by simp) rfl rfl;obtain⟨r62,q62⟩:=dpv hdep ⟨19,.guard⟩ (by simp) rfl rfl;have kc0:w'.cell? ⟨w.heap.size+1+1,0,none⟩=some (.int .i64 2):=hX.cell (by simp) (by first | assumption | (go_simp; done) | (simp; done));have kc1:w'.cell? ⟨w.heap.size+1+1,2,none⟩=some (SlT bp):=hX.cell (by simp) (by first | assumption | (go_simp; done) | (simp; done));have kc2:w'.cell? ⟨bp,0,none⟩=some (.int .i64 0):=hX.cell (by simp) (by first | assumption | (go_simp; done) | (simp; done));clear hdep ha0 hA;refine StepG.value (wanted_some rfl rfl r62) rfl ?_ (hK _ hX)
    (simp[go_sem, *] <;> decide)
   case y1v25 =>
    exact mvVgi ⟨19,.guard⟩ (by simp) rfl rfl rfl rfl rfl rfl (by kernel_rfl) (by rw[ha0]; rfl)
   case y1v26 =>
    intro a' w' hA hdep hX K hK;obtain⟨r67,q67⟩:=dpv hdep ⟨24,.data⟩ (by simp) rfl rfl;obtain⟨r68,q68⟩:=dpv hdep ⟨25,.data⟩ (by simp) rfl rfl;obtain⟨r62,q62⟩:=dpv hdep ⟨19,.guard⟩ (by simp) rfl rfl;clear hdep ha0 hA;refine StepG.value (wanted_some rfl rfl r62) rfl ?_ (hK _ hX)
    (simp[go_sem, *] <;> decide)
   case y1v27 =>
    intro a' w' hA hdep hX K hK;obtain⟨r69,q69⟩:=dpv hdep ⟨26,.data⟩ (by simp) rfl rfl;obtain⟨r62,q62⟩:=dpv hdep ⟨19,.guard⟩ (by simp) rfl rfl;have kc0:w'.cell? ⟨w.heap.size+1+1,0,none⟩=some (.int .i64 2):=hX.cell (by simp) (by first | assumption | (go_simp; done) | (simp; done));have kc1:w'.cell? ⟨w.heap.size+1+1,2,none⟩=some (SlT bp):=hX.cell (by simp) (by first | assumption | (go_simp; done) | (simp; done));have kc2:w'.cell? ⟨bp,0,none⟩=some (.int .i64 0):=hX.cell (by simp) (by first | assumption | (go_simp; done) | (simp; done));clear hdep ha0 hA;refine StepG.value (wanted_some rfl rfl r62) rfl ?_ (hK _ hX)
    (simp[go_sem, *] <;> decide)
   case y1v28 =>
    intro a' w' hA hdep hX K hK;obtain⟨r65,q65⟩:=dpv hdep ⟨22,.data⟩ (by simp) rfl rfl;obtain⟨r70,q70⟩:=dpv hdep ⟨27,.data⟩ (by simp) rfl rfl;obtain⟨r62,q62⟩:=dpv hdep ⟨19,.guard⟩ (by simp) rfl rfl;clear hdep ha0 hA;refine StepG.value (wanted_some rfl rfl r62) rfl ?_ (hK _ hX)
    (simp[go_sem, *] <;> decide)
   case y1v29 =>
    intro a' w' hA hdep hX K hK;obtain⟨r62,q62⟩:=dpv hdep ⟨19,.guard⟩ (by simp) rfl rfl;obtain⟨r4,q4⟩:=dpi hA 4 (.pointer (some ⟨w.heap.size+1+1,0,none⟩)) (by kernel_rfl) (by rw[ha0]; rfl);clear hdep ha0 hA;refine StepG.value (wanted_some rfl rfl r62) rfl ?_ (hK _ hX)
    (simp[go_sem, *] <;> decide)
   case y1v30 =>
    intro a' w' hA hdep hX K hK;obtain⟨r72,q72⟩:=dpv hdep ⟨29,.data⟩ (by simp) rfl rfl;obtain⟨r62,q62⟩:=dpv hdep ⟨19,.guard⟩ (by simp) rfl rfl;have kc0:w'.cell? ⟨w.heap.size+1+1,0,none⟩=some (.int .i64 2):=hX.cell (by simp) (by first | assumption | (go_simp; done) | (simp; done));have kc1:w'.cell? ⟨w.heap.size+1+1,2,none⟩=some (SlT bp):=hX.cell (by simp) (by first | assumption | (go_simp; done) | (simp; done));have kc2:w'.cell? ⟨bp,0,none⟩=some (.int .i64 0):=hX.cell (by simp) (by first | assumption | (go_simp; done) | (simp; done));clear hdep ha0 hA;refine StepG.value (wanted_some rfl rfl r62) rfl ?_ (hK _ hX)
    (simp[go_sem, *] <;> decide)
   case y1v31 =>
    intro a' w' hA hdep hX K hK;obtain⟨r71,q71⟩:=dpv hdep ⟨28,.data⟩ (by simp) rfl rfl;obtain⟨r73,q73⟩:=dpv hdep ⟨30,.data⟩ (by simp) rfl rfl;obtain⟨r62,q62⟩:=dpv hdep ⟨19,.guard⟩ (by simp) rfl rfl;clear hdep ha0 hA;refine StepG.value (wanted_some rfl rfl r62) rfl ?_ (hK _ hX)
    (simp[go_sem, *] <;> decide)
   case y1v32 =>
    intro a' w' hA hdep hX K hK;obtain⟨r74,q74⟩:=dpv hdep ⟨31,.data⟩ (by simp) rfl rfl;obtain⟨r62,q62⟩:=dpv hdep ⟨19,.guard⟩ (by simp) rfl rfl;clear hdep ha0 hA;refine StepG.value (wanted_some rfl rfl r62) rfl ?_ (hK _ hX)
    (simp[go_sem, *] <;> decide)
   case y1v33 =>
    intro a' w' hA hdep hX K hK;obtain⟨r62,q62⟩:=dpv hdep ⟨19,.data⟩ (by simp) rfl rfl;obtain⟨r75,q75⟩:=dpv hdep ⟨32,.data⟩ (by simp) rfl rfl;clear hdep ha0 hA;refine StepG.value (wanted_none rfl) rfl ?_ (hK _ hX)
    (simp[go_sem, *] <;> decide)
   intro w1 hXR;rw[ha0]; simp only[putL,Act.put,sA_,sZ_,sS_];clear ha0 hsz0;have B1:Below w.heap.size w w1:=hXR.below B (by omega) (by simp);have HO1:=Lib.hid ((hXR.block _ (blk_lt HO.out) (by simp)).trans HO.out);have HR1:=Lib.hid ((hXR.block _ (blk_lt HR.out) (by simp)).trans HR.out);clear hXR k0 k1 k2 q0 q1 HO HR;go_wp2;exact⟨⟨0+1,rfl,by decide,HO1.out,HR1.out,B1⟩,by decide⟩
  ·
   have hu:=hk;clear hu;have k0:wr.cell? ⟨w.heap.size+1+1,0,none⟩=some (.int .i64 2):=cell_of_row wr _ 0 _ _ _ hR;have k1:wr.cell? ⟨w.heap.size+1+1,1,none⟩=some (SlT bt):=cell_of_row wr _ 1 _ _ _ hR;have k2:wr.cell? ⟨w.heap.size+1+1,2,none⟩=some (SlT bp):=cell_of_row wr _ 2 _ _ _ hR;have q0:wr.cell? ⟨bt,1,none⟩=some (.int .i64 3):=B.cell (block_lt_of_cell t1) |>.trans t1;have q1:wr.cell? ⟨bp,1,none⟩=some (.int .i64 1):=B.cell (block_lt_of_cell p1) |>.trans p1;have hsz:w.heap.size+1+1 < wr.heap.size:=blk_lt hR;have HR:=Lib.hid hR;have HO:=Lib.hid hO;clear hR hO;go_upto_region 7 with fail;refine with_act fun a0 ha0=>?_;have hsz0:a0.tmps.size=80:=by rw[ha0]; rfl
   refine wp_region_vals (W0:=wr) (by kernel_rfl) (by kernel_rfl) [(43,.int .i64 3),(44,.bool true),(45,.bool false),(46,.bool false),(47,.int .i64 3),(48,.pointer (some ⟨w.heap.size+1+1,0,none⟩)),(49,.int .i64 2),(50,.int .i64 1),(51,.bool false),(52,.bool false),(53,.bool false),(54,.pointer (some ⟨w.heap.size+1+1,2,none⟩)),(55,SlT bp),(56,.int .i64 1),(57,.pointer (some ⟨bp,1,none⟩)),(58,.int .i64 1),(59,.bool true),(60,.bool false),(61,.bool false),(62,.bool false),(63,.int .i64 3),(64,.int .i64 1),(65,.int .i64 3),(66,.pointer (some ⟨w.heap.size+1+1,2,none⟩)),(67,SlT bp),(68,.int .i64 1),(69,.pointer (some ⟨bp,1,none⟩)),(70,.int .i64 1),(71,.int .i64 4),(72,.pointer (some ⟨w.heap.size+1+1,0,none⟩)),(73,.int .i64 2),(74,.int .i64 0),(75,.bool false),(76,.bool false)] rfl (by show([43,44,45,46,47,48,49,50,51,52,53,54,55,56,57,58,59,60,61,62,63,64,65,66,67,68,69,70,71,72,73,74,75,76]:List Nat).Nodup; decide) _ hsz0 (by kernel_rfl) (BelX.start _ _) ⟨⟨rfl,?y2v0⟩,⟨rfl,?y2v1⟩,⟨rfl,?y2v2⟩,⟨rfl,?y2v3⟩,⟨rfl,?y2v4⟩,⟨rfl,?y2v5⟩,⟨rfl,?y2v6⟩,⟨rfl,?y2v7⟩,⟨rfl,?y2v8⟩,⟨rfl,?y2v9⟩,⟨rfl,?y2v10⟩,⟨rfl,?y2v11⟩,⟨rfl,?y2v12⟩,⟨rfl,?y2v13⟩,⟨rfl,?y2v14⟩,⟨rfl,?y2v15⟩,⟨rfl,?y2v16⟩,⟨rfl,?y2v17⟩,⟨rfl,?y2v18⟩,⟨rfl,?y2v19⟩,⟨rfl,?y2v20⟩,⟨rfl,?y2v21⟩,⟨rfl,?y2v22⟩,⟨rfl,?y2v23⟩,⟨rfl,?y2v24⟩,⟨rfl,?y2v25⟩,⟨rfl,?y2v26⟩,⟨rfl,?y2v27⟩,⟨rfl,?y2v28⟩,⟨rfl,?y2v29⟩,⟨rfl,?y2v30⟩,⟨rfl,?y2v31⟩,⟨rfl,?y2v32⟩,⟨rfl,?y2v33⟩,trivial⟩ ?y2done
   case y2v0 =>
    exact mvVi rfl rfl rfl (by kernel_rfl) (by rw[ha0]; rfl)
   case y2v1 =>
    intro a' w' hA hdep hX K hK;obtain⟨r43,q43⟩:=dpv hdep ⟨0,.data⟩ (by simp) rfl rfl;clear hdep ha0 hA;refine StepG.call (wanted_none rfl) rfl ?_ ((wheel_withinB 3 1 20 true rfl _)) (fun w2 hb=>hK _ (hX.call hb))
    (simp[go_sem, *] <;> decide)
   case y2v2 =>
    intro a' w' hA hdep hX K hK;obtain⟨r44,q44⟩:=dpv hdep ⟨1,.data⟩ (by simp) rfl rfl;clear hdep ha0 hA;refine StepG.value (wanted_none rfl) rfl ?_ (hK _ hX)
    (simp[go_sem, *] <;> decide)
   case y2v3 =>
    exact mvV ⟨2,.data⟩ (by simp) rfl rfl rfl rfl rfl
   case y2v4 =>
    exact mvVgi ⟨3,.guard⟩ (by simp) rfl rfl rfl rfl rfl rfl (by kernel_rfl) (by rw[ha0]; rfl)
   case y2v5 =>
    intro a' w' hA hdep hX K hK;obtain⟨r46,q46⟩:=dpv hdep ⟨3,.guard⟩ (by simp) rfl rfl;obtain⟨r4,q4⟩:=dpi hA 4 (.pointer (some ⟨w.heap.size+1+1,0,none⟩)) (by kernel_rfl) (by rw[ha0]; rfl);clear hdep ha0 hA;refine StepG.value (wanted_some rfl rfl r46) rfl ?_ (hK _ hX)
    (simp[go_sem, *] <;> decide)
   case y2v6 =>
    intro a' w' hA hdep hX K hK;obtain⟨r48,q48⟩:=dpv hdep ⟨5,.data⟩ (by simp) rfl rfl;obtain⟨r46,q46⟩:=dpv hdep ⟨3,.guard⟩ (by simp) rfl rfl;have kc0:w'.cell? ⟨w.heap.size+1+1,0,none⟩=some (.int .i64 2):=hX.cell (by simp) (by first | assumption | (go_simp; done) | (simp; done));have kc1:w'.cell? ⟨w.heap.size+1+1,2,none⟩=some (SlT bp):=hX.cell (by simp) (by first | assumption | (go_simp; done) | (simp; done));have kc2:w'.cell? ⟨bp,1,none⟩=some (.int .i64 1):=hX.cell (by simp) (by first | assumption | (go_simp; done) | (simp; done));clear hdep ha0 hA;refine StepG.value (wanted_some rfl rfl r46) rfl ?_ (hK _ hX)
    (simp[go_sem, *] <;> decide)
   case y2v7 =>
    intro a' w' hA hdep hX K hK;obtain⟨r47,q47⟩:=dpv hdep ⟨4,.data⟩ (by simp) rfl rfl;obtain⟨r49,q49⟩:=dpv hdep ⟨6,.data⟩ (by simp) rfl rfl;obtain⟨r46,q46⟩:=dpv hdep ⟨3,.chain⟩ (by simp) rfl rfl;clear hdep ha0 hA;refine StepG.call (wanted_some rfl rfl r46) rfl ?_ ((gcd_ok 3 (by decide) _)) (fun w2 hb=>hK _ (hX.call hb))
    (simp[go_sem, *] <;> decide)
   case y2v8 =>
    intro a' w' hA hdep hX K hK;obtain⟨r50,q50⟩:=dpv hdep ⟨7,.data⟩ (by simp) rfl rfl;obtain⟨r46,q46⟩:=dpv hdep ⟨3,.guard⟩ (by simp) rfl rfl;clear hdep ha0 hA;refine StepG.value (wanted_some rfl rfl r46) rfl ?_ (hK _ hX)
    (simp[go_sem, *] <;> decide)
   case y2v9 =>
    intro a' w' hA hdep hX K hK;obtain⟨r46,q46⟩:=dpv hdep ⟨3,.data⟩ (by simp) rfl rfl;obtain⟨r51,q51⟩:=dpv hdep ⟨8,.data⟩ (by simp) rfl rfl;clear hdep ha0 hA;refine StepG.value (wanted_none rfl) rfl ?_ (hK _ hX)
    (simp[go_sem, *] <;> decide)
   case y2v10 =>
    exact mvV ⟨9,.data⟩ (by simp) rfl rfl rfl rfl rfl
   case y2v11 =>
    intro a' w' hA hdep hX K hK;obtain⟨r53,q53⟩:=dpv hdep ⟨10,.guard⟩ (by simp) rfl rfl;obtain⟨r4,q4⟩:=dpi hA 4 (.pointer (some ⟨w.heap.size+1+1,0,none⟩)) (by kernel_rfl) (by rw[ha0]; rfl);clear hdep ha0 hA;refine StepG.value (wanted_some rfl rfl r53) rfl ?_ (hK _ hX)
    (simp[go_sem, *] <;> decide)
   case y2v12 =>
    intro a' w' hA hdep hX K hK;obtain⟨r54,q54⟩:=dpv hdep ⟨11,.data⟩ (by simp) rfl rfl;obtain⟨r53,q53⟩:=dpv hdep ⟨10,.guard⟩ (by simp) rfl rfl;have kc0:w'.cell? ⟨w.heap.size+1+1,0,none⟩=some (.int .i64 2):=hX.cell (by simp) (by first | assumption | (go_simp; done) | (simp; done));have kc1:w'.cell? ⟨w.heap.size+1+1,2,none⟩=some (SlT bp):=hX.cell (by simp) (by first | assumption | (go_simp; done) | (simp; done));have kc2:w'.cell? ⟨bp,1,none⟩=some (.int .i64 1):=hX.cell (by simp) (by first | assumption | (go_simp; done) | (simp; done));clear hdep ha0 hA;refine StepG.value (wanted_some rfl rfl r53) rfl ?_ (hK _ hX)
    (simp[go_sem, *] <;> decide)
   case y2v13 =>
    exact mvVgi ⟨10,.guard⟩ (by simp) rfl rfl rfl rfl rfl rfl (by kernel_rfl) (by rw[ha0]; rfl)
   case y2v14 =>
    intro a' w' hA hdep hX K hK;obtain⟨r55,q55⟩:=dpv hdep ⟨12,.data⟩ (by simp) rfl rfl;obtain⟨r56,q56⟩:=dpv hdep ⟨13,.data⟩ (by simp) rfl rfl;obtain⟨r53,q53⟩:=dpv hdep ⟨10,.guard⟩ (by simp) rfl rfl;clear hdep ha0 hA;refine StepG.value (wanted_some rfl rfl r53) rfl ?_ (hK _ hX)
    (simp[go_sem, *] <;> decide)
   case y2v15 =>
    intro a' w' hA hdep hX K hK;obtain⟨r57,q57⟩:=dpv hdep ⟨14,.data⟩ (by simp) rfl rfl;obtain⟨r53,q53⟩:=dpv hdep ⟨10,.guard⟩ (by simp) rfl rfl;have kc0:w'.cell? ⟨w.heap.size+1+1,0,none⟩=some (.int .i64 2):=hX.cell (by simp) (by first | assumption | (go_simp; done) | (simp; done));have kc1:w'.cell? ⟨w.heap.size+1+1,2,none⟩=some (SlT bp):=hX.cell (by simp) (by first | assumption | (go_simp; done) | (simp; done));have kc2:w'.cell? ⟨bp,1,none⟩=some (.int .i64 1):=hX.cell (by simp) (by first | assumption | (go_simp; done) | (simp; done));clear hdep ha0 hA;refine StepG.value (wanted_some rfl rfl r53) rfl ?_ (hK _ hX)
    (simp[go_sem, *] <;> decide)
   case y2v16 =>
    intro a' w' hA hdep hX K hK;obtain⟨r58,q58⟩:=dpv hdep ⟨15,.data⟩ (by simp) rfl rfl;obtain⟨r53,q53⟩:=dpv hdep ⟨10,.chain⟩ (by simp) rfl rfl;clear hdep ha0 hA;refine StepG.call (wanted_some rfl rfl r53) rfl ?_ ((wheel_withinB 1 (-50) 50 true rfl _)) (fun w2 hb=>hK _ (hX.call hb))
    (simp[go_sem, *] <;> decide)
   case y2v17 =>
    intro a' w' hA hdep hX K hK;obtain⟨r59,q59⟩:=dpv hdep ⟨16,.data⟩ (by simp) rfl rfl;obtain⟨r53,q53⟩:=dpv hdep ⟨10,.guard⟩ (by simp) rfl rfl;clear hdep ha0 hA;refine StepG.value (wanted_some rfl rfl r53) rfl ?_ (hK _ hX)
    (simp[go_sem, *] <;> decide)
   case y2v18 =>
    intro a' w' hA hdep hX K hK;obtain⟨r53,q53⟩:=dpv hdep ⟨10,.data⟩ (by simp) rfl rfl;obtain⟨r60,q60⟩:=dpv hdep ⟨17,.data⟩ (by simp) rfl rfl;clear hdep ha0 hA;refine StepG.value (wanted_none rfl) rfl ?_ (hK _ hX)
    (simp[go_sem, *] <;> decide)
   case y2v19 =>
    exact mvV ⟨18,.data⟩ (by simp) rfl rfl rfl rfl rfl
   case y2v20 =>
    exact mvVgi ⟨19,.guard⟩ (by simp) rfl rfl rfl rfl rfl rfl (by kernel_rfl) (by rw[ha0]; rfl)
   case y2v21 =>
    exact mvVgi ⟨19,.guard⟩ (by simp) rfl rfl rfl rfl rfl rfl (by kernel_rfl) (by rw[ha0]; rfl)
   case y2v22 =>
    intro a' w' hA hdep hX K hK;obtain⟨r63,q63⟩:=dpv hdep ⟨20,.data⟩ (by simp) rfl rfl;obtain⟨r64,q64⟩:=dpv hdep ⟨21,.data⟩ (by simp) rfl rfl;obtain⟨r62,q62⟩:=dpv hdep ⟨19,.guard⟩ (by simp) rfl rfl;clear hdep ha0 hA;refine StepG.value (wanted_some rfl rfl r62) rfl ?_ (hK _ hX)
    (simp[go_sem, *] <;> decide)
   case y2v23 =>
    intro a' w' hA hdep hX K hK;obtain⟨r62,q62⟩:=dpv hdep ⟨19,.guard⟩ (by simp) rfl rfl;obtain⟨r4,q4⟩:=dpi hA 4 (.pointer (some ⟨w.heap.size+1+1,0,none⟩)) (by kernel_rfl) (by rw[ha0]; rfl);clear hdep ha0 hA;refine StepG.value (wanted_some rfl rfl r62) rfl ?_ (hK _ hX)
    (simp[go_sem, *] <;> decide)
   case y2v24 =>
    intro a' w' hA hdep hX K hK;obtain⟨r66,q66⟩:=dpv hdep ⟨23,.data⟩ (by simp) rfl rfl;obtain⟨r62,q62⟩:=dpv hdep ⟨19,.guard⟩ (by simp) rfl rfl;have kc0:w'.cell? ⟨w.heap.size+1+1,0,none⟩=some (.int .i64 2):=hX.cell (by simp) (by first | assumption | (go_simp; done) | (simp; done));have kc1:w'.cell? ⟨w.heap.size+1+1,2,none⟩=some (SlT bp):=hX.cell (by simp) (by first | assumption | (go_simp; done) | (simp; done));have kc2:w'.cell? ⟨bp,1,none⟩=some (.int .i64 1):=hX.cell (by simp) (by first | assumption | (go_simp; done) | (simp; done));clear hdep ha0 hA;refine StepG.value (wanted_some rfl rfl r62) rfl ?_ (hK _ hX)
    (simp[go_sem, *] <;> decide)
   case y2v25 =>
    exact mvVgi ⟨19,.guard⟩ (by simp) rfl rfl rfl rfl rfl rfl (by kernel_rfl) (by rw[ha0]; rfl)
   case y2v26 =>
    intro a' w' hA hdep hX K hK;obtain⟨r67,q67⟩:=dpv hdep ⟨24,.data⟩ (by simp) rfl rfl;obtain⟨r68,q68⟩:=dpv hdep ⟨25,.data⟩ (by simp) rfl rfl;obtain⟨r62,q62⟩:=dpv hdep ⟨19,.guard⟩ (by simp) rfl rfl;clear hdep ha0 hA;refine StepG.value (wanted_some rfl rfl r62) rfl ?_ (hK _ hX)
    (simp[go_sem, *] <;> decide)
   case y2v27 =>
    intro a' w' hA hdep hX K hK;obtain⟨r69,q69⟩:=dpv hdep ⟨26,.data⟩ (by simp) rfl rfl;obtain⟨r62,q62⟩:=dpv hdep ⟨19,.guard⟩ (by simp) rfl rfl;have kc0:w'.cell? ⟨w.heap.size+1+1,0,none⟩=some (.int .i64 2):=hX.cell (by simp) (by first | assumption | (go_simp; done) | (simp; done));have kc1:w'.cell? ⟨w.heap.size+1+1,2,none⟩=some (SlT bp):=hX.cell (by simp) (by first | assumption | (go_simp; done) | (simp; done));have kc2:w'.cell? ⟨bp,1,none⟩=some (.int .i64 1):=hX.cell (by simp) (by first | assumption | (go_simp; done) | (simp; done));clear hdep ha0 hA;refine StepG.value (wanted_some rfl rfl r62) rfl ?_ (hK _ hX)
    (simp[go_sem, *] <;> decide)
   case y2v28 =>
    intro a' w' hA hdep hX K hK;obtain⟨r65,q65⟩:=dpv hdep ⟨22,.data⟩ (by simp) rfl rfl;obtain⟨r70,q70⟩:=dpv hdep ⟨27,.data⟩ (by simp) rfl rfl;obtain⟨r62,q62⟩:=dpv hdep ⟨19,.guard⟩ (by simp) rfl rfl;clear hdep ha0 hA;refine StepG.value (wanted_some rfl rfl r62) rfl ?_ (hK _ hX)
    (simp[go_sem, *] <;> decide)
   case y2v29 =>
    intro a' w' hA hdep hX K hK;obtain⟨r62,q62⟩:=dpv hdep ⟨19,.guard⟩ (by simp) rfl rfl;obtain⟨r4,q4⟩:=dpi hA 4 (.pointer (some ⟨w.heap.size+1+1,0,none⟩)) (by kernel_rfl) (by rw[ha0]; rfl);clear hdep ha0 hA;refine StepG.value (wanted_some rfl rfl r62) rfl ?_ (hK _ hX)
    (simp[go_sem, *] <;> decide)
   case y2v30 =>
    intro a' w' hA hdep hX K hK;obtain⟨r72,q72⟩:=dpv hdep ⟨29,.data⟩ (by simp) rfl rfl;obtain⟨r62,q62⟩:=dpv hdep ⟨19,.guard⟩ (by simp) rfl rfl;have kc0:w'.cell? ⟨w.heap.size+1+1,0,none⟩=some (.int .i64 2):=hX.cell (by simp) (by first | assumption | (go_simp; done) | (simp; done));have kc1:w'.cell? ⟨w.heap.size+1+1,2,none⟩=some (SlT bp):=hX.cell (by simp) (by first | assumption | (go_simp; done) | (simp; done));have kc2:w'.cell? ⟨bp,1,none⟩=some (.int .i64 1):=hX.cell (by simp) (by first | assumption | (go_simp; done) | (simp; done));clear hdep ha0 hA;refine StepG.value (wanted_some rfl rfl r62) rfl ?_ (hK _ hX)
    (simp[go_sem, *] <;> decide)
   case y2v31 =>
    intro a' w' hA hdep hX K hK;obtain⟨r71,q71⟩:=dpv hdep ⟨28,.data⟩ (by simp) rfl rfl;obtain⟨r73,q73⟩:=dpv hdep ⟨30,.data⟩ (by simp) rfl rfl;obtain⟨r62,q62⟩:=dpv hdep ⟨19,.guard⟩ (by simp) rfl rfl;clear hdep ha0 hA;refine StepG.value (wanted_some rfl rfl r62) rfl ?_ (hK _ hX)
    (simp[go_sem, *] <;> decide)
   case y2v32 =>
    intro a' w' hA hdep hX K hK;obtain⟨r74,q74⟩:=dpv hdep ⟨31,.data⟩ (by simp) rfl rfl;obtain⟨r62,q62⟩:=dpv hdep ⟨19,.guard⟩ (by simp) rfl rfl;clear hdep ha0 hA;refine StepG.value (wanted_some rfl rfl r62) rfl ?_ (hK _ hX)
    (simp[go_sem, *] <;> decide)
   case y2v33 =>
    intro a' w' hA hdep hX K hK;obtain⟨r62,q62⟩:=dpv hdep ⟨19,.data⟩ (by simp) rfl rfl;obtain⟨r75,q75⟩:=dpv hdep ⟨32,.data⟩ (by simp) rfl rfl;clear hdep ha0 hA;refine StepG.value (wanted_none rfl) rfl ?_ (hK _ hX)
    (simp[go_sem, *] <;> decide)
   intro w1 hXR;rw[ha0]; simp only[putL,Act.put,sA_,sZ_,sS_];clear ha0 hsz0;have B1:Below w.heap.size w w1:=hXR.below B (by omega) (by simp);have HO1:=Lib.hid ((hXR.block _ (blk_lt HO.out) (by simp)).trans HO.out);have HR1:=Lib.hid ((hXR.block _ (blk_lt HR.out) (by simp)).trans HR.out);clear hXR k0 k1 k2 q0 q1 HO HR;go_wp2;exact⟨⟨1+1,rfl,by decide,HO1.out,HR1.out,B1⟩,by decide⟩
  · have k0:wr.cell? ⟨w.heap.size+1+1,0,none⟩=some (.int .i64 2):=cell_of_row wr _ 0 _ _ _ hR;have k1:wr.cell? ⟨w.heap.size+1+1,1,none⟩=some (SlT bt):=cell_of_row wr _ 1 _ _ _ hR;have k2:wr.cell? ⟨w.heap.size+1+1,2,none⟩=some (SlT bp):=cell_of_row wr _ 2 _ _ _ hR;have o0:wr.cell? ⟨w.heap.size+1,0,none⟩=some (.int .i64 0):=cell_of_row wr _ 0 _ _ _ hO;have o1:wr.cell? ⟨w.heap.size+1,1,none⟩=some (.slice none 0 0):=cell_of_row wr _ 1 _ _ _ hO;have o2:wr.cell? ⟨w.heap.size+1,2,none⟩=some (.slice none 0 0):=cell_of_row wr _ 2 _ _ _ hO;have fo:=row_f hO;have zo:=blk_lt hO;clear hR hO;go_wp2;exact bodyPost_ret (v:=.tuple #[RuV bt bp,.bool true]) (by simp[results,Tryz.results71,go_sem, *]) rfl ⟨rfl,(by repeat (first | exact Below.refl _ _ | exact Nat.le_refl _ | refine Below.alloc ?_ ?_ _ | refine Below.setCell ?_ ?_ _ | refine Below.drew ?_ | refine bl_drewN ?_ _ | (assumption) | refine bl_call ?_ (by assumption) ?_ | omega | (simp <;> omega)))⟩
open Go.RowKit
attribute [local go_sem ↓] Go.wp_at_zero Go.wp_at_succ
theorem course1_ok (rb:Nat) (k:Int) (hk:0<=k/\k<=1) (w:World) (h:w.cell? ⟨rb,0,none⟩=some (.int .i64 2)):Calls Tryz.prog 89 #[.int .i64 k,.pointer (some ⟨rb,0,none⟩)] w fun e w'=>e=.returned (.bool false)/\w=w':=by
 have hd:(decide (0<=k) && decide (k<=1))=true:=by simp; omega
 have HD:=Lib.hid hd;clear hd;go_enter Tryz.func89,Tryz.ntmps89;go_wp2_with (first
  | (go_at_call 87; refine(wheel_within _ _ _ _).mono ?_; rintro e w' ⟨rfl,rfl⟩; rw[HD.out])
  | fail)
 go_ret
 exact⟨rfl,rfl⟩
theorem courseIdx (rb lb cap:Nat) (w:World) (h:w.cell? ⟨rb,0,none⟩=some (.int .i64 2)) (c0:w.cell? ⟨lb,0,none⟩=some (.int .i64 1)) (c1:w.cell? ⟨lb,1,none⟩=some (.int .i64 1)) (c2:w.cell? ⟨lb,2,none⟩=some (.int .i64 0)) :
  Calls Tryz.prog 86 #[.slice (some ⟨lb,0,none⟩) 3 cap,.func (.func 89) #[] #[.pointer (some ⟨rb,0,none⟩)]] w fun e w'=>e=.returned (.int .i64 (-1))/\w=w':=by
 have he:∀args w,(callFunc 89 args).run Tryz.prog w=.ok (.enter 89 args) w:=enters_of Tryz.func89 (by kernel_rfl) rfl;go_enter Tryz.func86,Tryz.ntmps86;go_wp2;go_loopw [8] (fun x wr=>∃k:Nat,x=.int .i64 k/\k<=3/\w=wr) (fun x _=>3-(intOf x).toNat)
 case atStart=>exact⟨0,rfl,by decide,rfl⟩
 case round =>
  obtain⟨k,rfl,hk,rfl⟩:=hrel;rcases (by omega:k=0∨k=1∨k=2∨k=3) with rfl | rfl | rfl | rfl
  · go_wp2_with fail;refine(course1_ok rb 1 (by decide) _ h).mono ?_;rintro e w' ⟨rfl,rfl⟩;go_wp2;exact⟨⟨1,rfl,by decide,trivial⟩,by decide⟩
  · go_wp2_with fail;refine(course1_ok rb 1 (by decide) _ h).mono ?_;rintro e w' ⟨rfl,rfl⟩;go_wp2;exact⟨⟨2,rfl,by decide,trivial⟩,by decide⟩
  · go_wp2_with fail;refine(course1_ok rb 0 (by decide) _ h).mono ?_;rintro e w' ⟨rfl,rfl⟩;go_wp2;exact⟨⟨3,rfl,by decide,trivial⟩,by decide⟩
  ·
   go_wp2
   go_ret
   exact⟨rfl,rfl⟩
theorem courseHas (rb lb cap:Nat) (w:World) (h:w.cell? ⟨rb,0,none⟩=some (.int .i64 2)) (c0:w.cell? ⟨lb,0,none⟩=some (.int .i64 1)) (c1:w.cell? ⟨lb,1,none⟩=some (.int .i64 1)) (c2:w.cell? ⟨lb,2,none⟩=some (.int .i64 0)) :
  Calls Tryz.prog 66 #[.slice (some ⟨lb,0,none⟩) 3 cap,.func (.func 89) #[] #[.pointer (some ⟨rb,0,none⟩)]] w fun e w'=>e=.returned (.bool false)/\w=w':=by
 go_enter Tryz.func66,Tryz.ntmps66;go_wp2_with fail;refine(courseIdx rb lb cap _ h c0 c1 c2).mono ?_;rintro e w' ⟨rfl,rfl⟩;go_wp2
 go_ret
 exact⟨rfl,rfl⟩
theorem run_copyT {P:Program} (w:World) (dT sT ty elem:TypeId) (g o dLen dCap:Nat) (a:Addr) (sLen sCap size:Nat) (cur:Array Value) (t:TypeId) (cs:List Value)
  (hu:P.underlying dT=some (.slice elem)) (hs:(P.info? elem).map (·.size)=some size)
  (hg:w.heap[g]?=some (.cells cur t (0,0))) (hn:cs.length=Nat.min sLen dLen * size)
  (hsrc:∀j v,cs[j]?=some v->w.cell? (a.add j)=some v) (hfit:o+cs.length<=cur.size) (h1:∀v∈cs,v.oneCell'=true) :
  (Builtin.copy_ #[dT,sT] ty #[.slice (some ⟨g,o,none⟩) dLen dCap,.slice (some a) sLen sCap]).run P w =
   .ok (goInt (Nat.min sLen dLen)) (w.setRow g (cur.toList.take o ++ cs ++ cur.toList.drop (o+cs.length)).toArray):=by
 have hl:=run_loadCells_list (P:=P) w a cs hsrc;have hst:=run_storeCells_at P g o t cs 0 cur w hg (by simpa using hfit) h1;cases hq:P.info? elem with
 | none=>simp[hq]at hs
 | some i =>
  have hi:i.size=size:=by simpa[hq]using hs
  simp[Builtin.copy_,run_underlying hu,Builtin.lenOf,Builtin.firstCells,sizeOf,typeInfo,hq,hi,<-hn,hl,hst]
theorem wpList_copyT {P:Program} {w:World} {ops:Array Oper} {rest:List Oper} {o:Oper} {a:Act} {Q:Exit->Act->World->Prop} (hgd:o.guard=none) (d s:Operand) (dT sT:TypeId)
  (ho:o.op=.call { callee:=.builtin .copy,args:=#[d,s],argTypes:=#[dT,sT] }) (elem:TypeId) (size:Nat) (hu:P.underlying dT=some (.slice elem)) (hsz:(P.info? elem).map (·.size)=some size)
  (g off dLen dCap:Nat) (ad:Addr) (sLen sCap:Nat) (hd:a.eval d=.slice (some ⟨g,off,none⟩) dLen dCap) (hs:a.eval s=.slice (some ad) sLen sCap)
  (cur:Array Value) (t:TypeId) (hg:w.heap[g]?=some (.cells cur t (0,0))) (cs:List Value) (hn:cs.length=Nat.min sLen dLen * size)
  (hsrc:∀j v,cs[j]?=some v->w.cell? (ad.add j)=some v) (hfit:off+cs.length<=cur.size) (h1:∀v∈cs,v.oneCell'=true)
  (h:∀w2,Hid (w2=w.setRow g (cur.toList.take off ++ cs ++ cur.toList.drop (off+cs.length)).toArray)->wpList P ops Q rest (a.put o.dst (goInt (Nat.min sLen dLen))) w2):wpList P ops Q (o :: rest) a w:=by
 refine wpList_plain hgd fun K hK=>?_;have hrun:=run_copyT (P:=P) w dT sT o.type elem g off dLen dCap ad sLen sCap size cur t cs hu hsz hg hn hsrc hfit h1;unfold Oper.wp;simp only[execOp,ho,resolve,invoke,builtin,Sem.run_bind,Sem.run_pure,Result.andThen_ok,List.map_toArray,List.map_cons,List.map_nil,hd,hs,hrun];exact hK _ _ (h _ (Lib.hid rfl))
def CR:Array Value:=#[.int .i64 3,.int .i64 1,.int .i64 1,.int .i64 0,.int .i64 0,.int .i64 0,.int .i64 0,.int .i64 0,.int .i64 0,.int .i64 0,.int .i64 0,.int .i64 0,.int .i64 0]
theorem results_row_tmp {P:Program} {fn:Func} {p q:Tmp} {ty:TypeId} (h:fn.results=#[.cell p ty,.tmp q]) (tmps:Array Value) (w:World) (g:Nat) (t:TypeId) (cs:Array Value) (fr:Nat × Nat) (d:TypeDesc)
  (hp:tmps.getD p undef=.pointer (some ⟨g,0,none⟩)) (hg:w.heap[g]?=some (.cells cs t fr))
  (hu:P.underlying ty=some d) (hd:(match d with | .struct _ | .array _ _=>true | _=>false)=true) (hi:(P.info? ty).map (·.size)=some cs.size) :
  (results fn tmps).run P w=.ok (.tuple #[.agg cs,tmps.getD q undef]) w:=by
 have hp':tmps[p]?.getD undef=.pointer (some ⟨g,0,none⟩):=by simpa using hp
 simp[results,h,hp',asAddr,run_loadVar_row w g t ty cs fr d hg hu hd hi]
def C0:Array Value:=#[.int .i64 3,.int .i64 0,.int .i64 0,.int .i64 0,.int .i64 0,.int .i64 0,.int .i64 0,.int .i64 0,.int .i64 0,.int .i64 0,.int .i64 0,.int .i64 0,.int .i64 0]
def CZ:Array Value:=#[.int .i64 0,.int .i64 0,.int .i64 0,.int .i64 0,.int .i64 0,.int .i64 0,.int .i64 0,.int .i64 0,.int .i64 0,.int .i64 0,.int .i64 0,.int .i64 0,.int .i64 0]
theorem sizeCourse:(Tryz.prog.info? 129).map (·.size)=some 13:=by kernel_rfl
theorem sizeInt1:(Tryz.prog.info? 3).map (·.size)=some 1:=by kernel_rfl
theorem newCourse_ok (bt bp lb cap:Nat) (w:World) (c0:w.cell? ⟨lb,0,none⟩=some (.int .i64 1)) (c1:w.cell? ⟨lb,1,none⟩=some (.int .i64 1)) (c2:w.cell? ⟨lb,2,none⟩=some (.int .i64 0)) :
  Calls Tryz.prog 72 #[RuV bt bp,.slice (some ⟨lb,0,none⟩) 3 cap] w fun e w'=>e=.returned (.tuple #[.agg CR,.bool true])/\Below w.heap.size w w':=by
 have z0:=block_lt_of_cell c0;have hRs:CR.size=13:=rfl;have hR1:CR.all (·.oneCell')=true:=by kernel_rfl
 have hZs:CZ.size=13:=rfl;have hCR:(C0.toList.take 1 ++ [Value.int .i64 1,Value.int .i64 1,Value.int .i64 0] ++ C0.toList.drop 4).toArray=CR:=rfl;obtain⟨R,hR⟩:∃R,CR=R:=⟨_,rfl⟩
 rw[hR]at hRs hR1 hCR;have HR:=Lib.hid hR;have HR1:=Lib.hid hR1;have HCR:=Lib.hid hCR;clear hR hR1 hCR;go_enter Tryz.func72,Tryz.ntmps72;go_wp2_with fail;obtain⟨W0,h0⟩:∃W0,W0=((w.alloc (.cells #[.int .i64 2,.slice (some ⟨bt,0,none⟩) 2 2,.slice (some ⟨bp,0,none⟩) 2 2] 124)).alloc (.cells CZ 129)).alloc (.cells C0 129):=⟨_,rfl⟩
 refine Eq.mp (congrArg (fun W=>Calls Tryz.prog 66 _ W _) h0) ?_;have hA:W0.cell? ⟨w.heap.size,0,none⟩=some (.int .i64 2):=by rw[h0]; exact cell_of_row _ _ 0 _ _ _ (blk_old (blk_old (blk_new _ _)))
 have hZ:W0.heap[w.heap.size+1]?=some (.cells CZ 129 (0,0)):=by rw[h0]; exact blk_old (blk_new' _ _ (by simp))
 have hC:W0.heap[w.heap.size+1+1]?=some (.cells C0 129 (0,0)):=by rw[h0]; exact blk_new' _ _ (by simp)
 have B0:Below w.heap.size w W0:=by rw[h0]; exact(by repeat (first | exact Below.refl _ _ | exact Nat.le_refl _ | refine Below.alloc ?_ ?_ _ | refine Below.setCell ?_ ?_ _ | refine Below.drew ?_ | refine bl_drewN ?_ _ | (assumption) | refine bl_call ?_ (by assumption) ?_ | omega | (simp <;> omega)))
 have d0:=B0.cell (block_lt_of_cell c0) |>.trans c0;have d1:=B0.cell (block_lt_of_cell c1) |>.trans c1;have d2:=B0.cell (block_lt_of_cell c2) |>.trans c2;have HZ:=Lib.hid hZ;have HC:=Lib.hid hC;clear h0 hZ hC;refine(courseHas w.heap.size lb cap W0 hA d0 d1 d2).mono ?_;rintro e w' ⟨rfl,rfl⟩;go_wp2_with (first
  | (refine wpList_copyT rfl (.tmp 20) (.tmp 21) 22 22 rfl 3 1 Tryz.underlying22 sizeInt1 (w.heap.size+1+1) 1 12 12 ⟨lb,0,none⟩ 3 cap rfl rfl C0 129 HC.out [.int .i64 1,.int .i64 1,.int .i64 0] rfl (fun j v hv=>by match j,hv with | 0,hv=>(simp at hv; subst hv; exact d0) | 1,hv=>(simp at hv; subst hv; exact d1) | 2,hv=>(simp at hv; subst hv; exact d2)) (by decide) (fun v hv=>by simp at hv; rcases hv with rfl | rfl <;> rfl) ?_; intro w2 hw2; have hC2:w2.heap[w.heap.size+1+1]?=some (.cells R 129 (0,0)):=(by rw[hw2.out,setRow_heap _ _ _ _ _ _ HC.out]; show some (Obj.cells (C0.toList.take 1 ++ [Value.int .i64 1,Value.int .i64 1,Value.int .i64 0] ++ C0.toList.drop 4).toArray _ _)=_; rw[HCR.out]); have hZ2:w2.heap[w.heap.size+1]?=some (.cells CZ 129 (0,0)):=(by rw[hw2.out]; exact(setRow_other _ _ _ _ (by omega)).trans HZ.out); have B2:Below w.heap.size w w2:=(by rw[hw2.out]; exact below_setRow B0 (by omega) _); have HC2:=Lib.hid hC2; have HZ2:=Lib.hid hZ2; clear hw2 hC2 hZ2)
  | (refine wpList_load_row rfl 129 (.tmp 6) rfl (w.heap.size+1+1) rfl 129 R (0,0) _ HC2.out Tryz.underlying129 rfl (by rw[hRs]; exact sizeCourse) ?_)
  | (refine wpList_store_row rfl 129 (.tmp 4) (.tmp 23) rfl (w.heap.size+1) R rfl rfl 129 CZ HZ2.out (by rw[hRs]; exact sizeCourse) (by rw[hRs,hZs]) HR1.out ?_)
  | fail)
 exact bodyPost_ret (v:=.tuple #[.agg R,.bool true]) (results_row_tmp (p:=4) (q:=5) (ty:=129) (by kernel_rfl) _ _ (w.heap.size+1) 129 R (0,0) _ rfl (setRow_heap _ _ _ _ _ _ HZ2.out) Tryz.underlying129 rfl (by rw[hRs]; exact sizeCourse)) rfl ⟨by rw[HR.out],below_setRow B2 (by omega) _⟩
open Go.RowKit
attribute [local go_sem ↓] Go.wp_at_zero Go.wp_at_succ
def CLs:List Value:=[.int .i64 1,.int .i64 1,.int .i64 0,.int .i64 0,.int .i64 0,.int .i64 0,.int .i64 0,.int .i64 0,.int .i64 0,.int .i64 0,.int .i64 0,.int .i64 0]
def Z12:Array Value:=#[.int .i64 0,.int .i64 0,.int .i64 0,.int .i64 0,.int .i64 0,.int .i64 0,.int .i64 0,.int .i64 0,.int .i64 0,.int .i64 0,.int .i64 0,.int .i64 0]
theorem CR_get (j:Nat):CR[1+j]?=CLs[j]?:=by
 have h:CR.toList=.int .i64 3 :: CLs:=rfl;rw[<-Array.getElem?_toList,h,Nat.add_comm,List.getElem?_cons_succ]
theorem size12:(Tryz.prog.info? 127).map (·.size)=some 12:=by kernel_rfl
theorem follows_any (bt bp k:Nat) (hk:k<=3) (xs:Nat->Int) (G:Nat->Array Value) (b:Bool) (w:World) (t0:w.cell? ⟨bt,0,none⟩=some (.int .i64 1)) (t1:w.cell? ⟨bt,1,none⟩=some (.int .i64 3)) (p0:w.cell? ⟨bp,0,none⟩=some (.int .i64 0)) (p1:w.cell? ⟨bp,1,none⟩=some (.int .i64 1))
  (hx:∀j,j<=k->0<=xs j/\xs j<=1000) (hs:∀j,j < k->(xs j % 2=0/\xs (j+1)=xs j / 2∨xs j % 2=1/\xs (j+1)=(3 * xs j+1) / 2)) (hG0:G 0=CLs.toArray) (hGs:∀j,(G j).size=12) (hGo:∀j,(G j).all (·.oneCell')=true)
  (hG:∀j,j < k->(G j).setIfInBounds j (.int .i64 (xs j % 2))=G (j+1)) (heq:∀w,(Op.equalIn 10000 127 (.agg (G k)) (.agg CLs.toArray)).run Tryz.prog w=.ok b w) :
  Calls Tryz.prog 73 #[RuV bt bp,.int .i64 (xs 0),.agg CR,.int .i64 (k:Int)] w fun e w'=>e=.returned (.bool b)/\Below w.heap.size w w':=by
 have hget:=CR_get;have hl:CLs.length=12:=rfl;obtain⟨L,hL⟩:∃L,CLs=L:=⟨_,rfl⟩
 rw[hL]at hget hl hG0 heq;obtain⟨R,hR⟩:∃R,CR=R:=⟨_,rfl⟩
 rw[hR]at hget ⊢;clear hL hR;have hls:L.toArray.size=12:=by simpa using hl
 have hlo:L.toArray.all (·.oneCell')=true:=by rw[<-hG0]; exact hGo 0
 have HGET:=Lib.hid hget;have HG:=Lib.hid hG;have HS:=Lib.hid hs;have HX:=Lib.hid hx;have HGS:=Lib.hid hGs;have HG0:=Lib.hid hG0;have HLO:=Lib.hid hlo;have HEQ:=Lib.hid heq;clear hget hG hs hx hGs hG0 hlo heq hGo;go_enter Tryz.func73,Tryz.ntmps73;go_upto_region 1 with fail;obtain⟨W0,h0⟩:∃W0,W0=((w.alloc (.cells #[.int .i64 2,SlT bt,SlT bp] 124)).alloc (.cells R 129)):=⟨_,rfl⟩
 rw[<-h0];have hA:W0.heap[w.heap.size]?=some (.cells #[.int .i64 2,SlT bt,SlT bp] 124 (0,0)):=by rw[h0]; exact blk_old (blk_new _ _)
 have hC:W0.heap[w.heap.size+1]?=some (.cells R 129 (0,0)):=by rw[h0]; exact blk_new' _ _ (by simp)
 have B0:Below w.heap.size w W0:=by rw[h0]; exact(by repeat (first | exact Below.refl _ _ | exact Nat.le_refl _ | refine Below.alloc ?_ ?_ _ | refine Below.setCell ?_ ?_ _ | refine Below.drew ?_ | refine bl_drewN ?_ _ | (assumption) | refine bl_call ?_ (by assumption) ?_ | omega | (simp <;> omega)))
 have hsz:W0.heap.size=w.heap.size+2:=by rw[h0]; simp
 clear h0;have HA:=Lib.hid hA;have HC:=Lib.hid hC;clear hA hC;go_wp2_with (first
  | (refine wpList_load_mid rfl 127 (.tmp 11) rfl (w.heap.size+1) 1 rfl L _ (fun j v hv=>(cell_of_row W0 _ _ _ _ _ HC.out).trans ((HGET.out j).trans hv)) Tryz.underlying127 rfl (by rw[hl]; exact size12) ?_)
  | (refine wpList_store_row rfl 127 (.tmp 9) (.tmp 12) rfl (w.heap.size+2) L.toArray rfl rfl 127 Z12 (blk_new' W0 _ hsz.symm) (by rw[hls]; exact size12) (by rw[hls]; rfl) HLO.out ?_)
  | fail)
 go_loopw [14,1] (fun i x wr=>∃j:Nat,i=.int .i64 (j:Int)/\j<=k/\x=.int .i64 (xs j)/\wr.heap[w.heap.size]?=some (.cells #[.int .i64 2,SlT bt,SlT bp] 124 (0,0))/\wr.heap[w.heap.size+1]?=some (.cells R 129 (0,0))/\wr.heap[w.heap.size+2]?=some (.cells (G j) 127 (0,0))/\Below w.heap.size w wr) (fun i _ _=>k-(intOf i).toNat)
 case atStart =>
  have hb:=blk_lt HC.out;refine⟨0,rfl,by omega,rfl,(setRow_other _ _ _ _ (by omega)).trans (blk_old HA.out),(setRow_other _ _ _ _ (by omega)).trans (blk_old HC.out),?_,below_setRow (B0.alloc (by omega) _) (by omega) _⟩;rw[HG0.out];exact setRow_heap _ _ _ _ _ _ (blk_new' _ _ (by omega))
 case round =>
  obtain⟨j,rfl,hj,rfl,hA,hC,hT,B⟩:=hrel;have a0:wr.cell? ⟨w.heap.size,0,none⟩=some (.int .i64 2):=cell_of_row wr _ 0 _ _ _ hA;have a1:wr.cell? ⟨w.heap.size,1,none⟩=some (SlT bt):=cell_of_row wr _ 1 _ _ _ hA;have a2:wr.cell? ⟨w.heap.size,2,none⟩=some (SlT bp):=cell_of_row wr _ 2 _ _ _ hA;have HA1:=Lib.hid hA;have HC1:=Lib.hid hC;have HT1:=Lib.hid hT;clear hA hC hT HA HC
  by_cases hjk:j < k
  ·
   go_wp2_with fail;refine(rest_any bt bp (xs j) wr (HX.out j (by omega))).mono ?_;rintro e w2 ⟨rfl,hb2⟩;have B2:Below w.heap.size w w2:=bl_call B hb2 B.size;have hA2:=(hb2.block _ (blk_lt HA1.out)).trans HA1.out;have hC2:=(hb2.block _ (blk_lt HC1.out)).trans HC1.out;have hT2:=(hb2.block _ (blk_lt HT1.out)).trans HT1.out;clear a0 a1 a2 hb2;have a0:w2.cell? ⟨w.heap.size,0,none⟩=some (.int .i64 2):=cell_of_row w2 _ 0 _ _ _ hA2;have a1:w2.cell? ⟨w.heap.size,1,none⟩=some (SlT bt):=cell_of_row w2 _ 1 _ _ _ hA2;have a2:w2.cell? ⟨w.heap.size,2,none⟩=some (SlT bp):=cell_of_row w2 _ 2 _ _ _ hA2;obtain⟨v,hv⟩:∃v,(G j)[j]?=some v:=⟨_,Array.getElem?_eq_getElem (by rw[HGS.out j]; omega)⟩
   have c0:w2.cell? ⟨w.heap.size+2,j,none⟩=some v:=(cell_of_row w2 _ j _ _ _ hT2).trans hv;have cf:=row_f hT2;have hz2:=blk_lt hT2;have HA2:=Lib.hid hA2;have HC2:=Lib.hid hC2;have HT2:=Lib.hid hT2;clear hA2 hC2 hT2 hv HA1 HC1 HT1;go_wp2_with fail;obtain⟨W3,h3⟩:∃W3,W3=w2.setCell ⟨w.heap.size+2,j,none⟩ (.int .i64 (xs j % 2)):=⟨_,rfl⟩
   refine Eq.mp (congrArg (fun W=>Calls Tryz.prog 91 _ W _) h3) ?_;have B3:Below w.heap.size w W3:=by rw[h3]; exact(by repeat (first | exact Below.refl _ _ | exact Nat.le_refl _ | refine Below.alloc ?_ ?_ _ | refine Below.setCell ?_ ?_ _ | refine Below.drew ?_ | refine bl_drewN ?_ _ | (assumption) | refine bl_call ?_ (by assumption) ?_ | omega | (simp <;> omega)))
   have hA3:W3.heap[w.heap.size]?=some (.cells #[.int .i64 2,SlT bt,SlT bp] 124 (0,0)):=by rw[h3]; exact blk_farI j _ (by omega) HA2.out
   have hC3:W3.heap[w.heap.size+1]?=some (.cells R 129 (0,0)):=by rw[h3]; exact blk_farI j _ (by omega) HC2.out
   have hT3:W3.heap[w.heap.size+2]?=some (.cells (G (j+1)) 127 (0,0)):=by rw[h3,blk_setI j _ HT2.out,HG.out j hjk]
   clear h3 a0 a1 a2 c0 cf;refine(sent_any bt bp (xs j) (xs (j+1)) W3 (HX.out j (by omega)) (HS.out j hjk) ((B3.cell (block_lt_of_cell t0)).trans t0) ((B3.cell (block_lt_of_cell t1)).trans t1) ((B3.cell (block_lt_of_cell p0)).trans p0) ((B3.cell (block_lt_of_cell p1)).trans p1)).mono ?_;rintro e w4 ⟨rfl,hb4⟩;have HA4:=Lib.hid ((hb4.block _ (blk_lt hA3)).trans hA3);have HC4:=Lib.hid ((hb4.block _ (blk_lt hC3)).trans hC3);have HT4:=Lib.hid ((hb4.block _ (blk_lt hT3)).trans hT3);have B4:Below w.heap.size w w4:=bl_call B3 hb4 B3.size;clear hb4 hA3 hC3 hT3;go_wp2_with fail
   go_roundw
   case rel=>exact⟨j+1,by simp,by omega,rfl,HA4.out,HC4.out,HT4.out,B4⟩
   case measure=>simp[intOf]; omega
  ·
   obtain rfl:j=k:=by omega
   go_wp2_with (first
    | (refine wpList_load_row rfl 127 (.tmp 9) rfl (w.heap.size+2) rfl 127 (G j) (0,0) _ HT1.out Tryz.underlying127 rfl (by rw[HGS.out j]; exact size12) ?_)
    | (refine wpList_load_mid rfl 127 (.tmp 27) rfl (w.heap.size+1) 1 rfl L _ (fun i v hv=>(cell_of_row wr _ _ _ _ _ HC1.out).trans ((HGET.out i).trans hv)) Tryz.underlying127 rfl (by rw[hl]; exact size12) ?_; have he:=HEQ.out)
    | fail)
   go_ret
   exact⟨rfl,B⟩
open Go.RowKit
attribute [local go_sem ↓] Go.wp_at_zero Go.wp_at_succ
def CF:Nat->Array Value
 | 0=>#[.int .i64 0,.int .i64 1,.int .i64 0,.int .i64 0,.int .i64 0,.int .i64 0,.int .i64 0,.int .i64 0,.int .i64 0,.int .i64 0,.int .i64 0,.int .i64 0]
 | _=>#[.int .i64 1,.int .i64 0,.int .i64 0,.int .i64 0,.int .i64 0,.int .i64 0,.int .i64 0,.int .i64 0,.int .i64 0,.int .i64 0,.int .i64 0,.int .i64 0]
theorem ce_t (w:World):(Op.equalIn 10000 127 (.agg CLs.toArray) (.agg CLs.toArray)).run Tryz.prog w=.ok true w:=by kernel_rfl
theorem ce_0 (w:World):(Op.equalIn 10000 127 (.agg (CF 0)) (.agg CLs.toArray)).run Tryz.prog w=.ok false w:=by kernel_rfl
theorem ce_1 (w:World):(Op.equalIn 10000 127 (.agg (CF 1)) (.agg CLs.toArray)).run Tryz.prog w=.ok false w:=by kernel_rfl
theorem al_t:CLs.toArray.all (·.oneCell')=true:=by kernel_rfl
theorem al_0:(CF 0).all (·.oneCell')=true:=by kernel_rfl
theorem al_1:(CF 1).all (·.oneCell')=true:=by kernel_rfl
def x1:Nat->Int
 | 0=>0 | _=>0
def x2:Nat->Int
 | 0=>1 | 1=>2 | _=>1
def x3:Nat->Int
 | 0=>3 | 1=>5 | 2=>8 | _=>4
def g1:Nat->Array Value
 | 0=>CLs.toArray | _=>CF 0
def g3:Nat->Array Value
 | 0=>CLs.toArray | 1=>CLs.toArray | _=>CF 1
def gt:Nat->Array Value:=fun _=>CLs.toArray
section
variable {bt bp : Nat} {w : World} (t0 : w.cell? ⟨bt, 0, none⟩ = some (.int .i64 1)) (t1 : w.cell? ⟨bt, 1, none⟩ = some (.int .i64 3)) (p0 : w.cell? ⟨bp, 0, none⟩ = some (.int .i64 0)) (p1 : w.cell? ⟨bp, 1, none⟩ = some (.int .i64 1))
include t0 t1 p0 p1
theorem follows_0_1:Calls Tryz.prog 73 #[RuV bt bp,.int .i64 0,.agg CR,.int .i64 1] w fun e w'=>e=.returned (.bool false)/\Below w.heap.size w w' :=
 follows_any bt bp 1 (by decide) x1 g1 false w t0 t1 p0 p1 (fun j hj=>by
  match j,hj with
  | 0,_=>decide
  | 1,_=>decide) (fun j hj=>by
  match j,hj with
  | 0,_=>decide) rfl (fun j=>by
  match j with
  | 0=>rfl
  | 1=>rfl
  | _+2=>rfl) (fun j=>by
  match j with
  | 0=>exact al_t
  | 1=>exact al_0
  | _+2=>exact al_0) (fun j hj=>by
  match j,hj with
  | 0,_=>rfl) ce_0
theorem follows_1_1:Calls Tryz.prog 73 #[RuV bt bp,.int .i64 1,.agg CR,.int .i64 1] w fun e w'=>e=.returned (.bool true)/\Below w.heap.size w w' :=
 follows_any bt bp 1 (by decide) x2 gt true w t0 t1 p0 p1 (fun j hj=>by
  match j,hj with
  | 0,_=>decide
  | 1,_=>decide) (fun j hj=>by
  match j,hj with
  | 0,_=>decide) rfl (fun j=>by
  match j with
  | 0=>rfl
  | 1=>rfl
  | _+2=>rfl) (fun j=>by
  match j with
  | 0=>exact al_t
  | 1=>exact al_t
  | _+2=>exact al_t) (fun j hj=>by
  match j,hj with
  | 0,_=>rfl) ce_t
theorem follows_1_2:Calls Tryz.prog 73 #[RuV bt bp,.int .i64 1,.agg CR,.int .i64 2] w fun e w'=>e=.returned (.bool false)/\Below w.heap.size w w' :=
 follows_any bt bp 2 (by decide) x2 g3 false w t0 t1 p0 p1 (fun j hj=>by
  match j,hj with
  | 0,_=>decide
  | 1,_=>decide
  | 2,_=>decide) (fun j hj=>by
  match j,hj with
  | 0,_=>decide
  | 1,_=>decide) rfl (fun j=>by
  match j with
  | 0=>rfl
  | 1=>rfl
  | _+2=>rfl) (fun j=>by
  match j with
  | 0=>exact al_t
  | 1=>exact al_t
  | _+2=>exact al_1) (fun j hj=>by
  match j,hj with
  | 0,_=>rfl
  | 1,_=>rfl) ce_1
theorem follows_3_2:Calls Tryz.prog 73 #[RuV bt bp,.int .i64 3,.agg CR,.int .i64 2] w fun e w'=>e=.returned (.bool true)/\Below w.heap.size w w' :=
 follows_any bt bp 2 (by decide) x3 gt true w t0 t1 p0 p1 (fun j hj=>by
  match j,hj with
  | 0,_=>decide
  | 1,_=>decide
  | 2,_=>decide) (fun j hj=>by
  match j,hj with
  | 0,_=>decide
  | 1,_=>decide) rfl (fun j=>by
  match j with
  | 0=>rfl
  | 1=>rfl
  | _+2=>rfl) (fun j=>by
  match j with
  | 0=>exact al_t
  | 1=>exact al_t
  | _+2=>exact al_t) (fun j hj=>by
  match j,hj with
  | 0,_=>rfl
  | 1,_=>rfl) ce_t
theorem follows_3_3:Calls Tryz.prog 73 #[RuV bt bp,.int .i64 3,.agg CR,.int .i64 3] w fun e w'=>e=.returned (.bool true)/\Below w.heap.size w w' :=
 follows_any bt bp 3 (by decide) x3 gt true w t0 t1 p0 p1 (fun j hj=>by
  match j,hj with
  | 0,_=>decide
  | 1,_=>decide
  | 2,_=>decide
  | 3,_=>decide) (fun j hj=>by
  match j,hj with
  | 0,_=>decide
  | 1,_=>decide
  | 2,_=>decide) rfl (fun j=>by
  match j with
  | 0=>rfl
  | 1=>rfl
  | _+2=>rfl) (fun j=>by
  match j with
  | 0=>exact al_t
  | 1=>exact al_t
  | _+2=>exact al_t) (fun j hj=>by
  match j,hj with
  | 0,_=>rfl
  | 1,_=>rfl
  | 2,_=>rfl) ce_t
end
def so:Nat->Int
 | 0=>0 | 1=>1 | _=>3
def sp:Nat->Int
 | 0=>1 | 1=>2 | 2=>4 | _=>8
theorem Start_3 (bt bp lb cap:Nat) (w:World) (t0:w.cell? ⟨bt,0,none⟩=some (.int .i64 1)) (t1:w.cell? ⟨bt,1,none⟩=some (.int .i64 3)) (p0:w.cell? ⟨bp,0,none⟩=some (.int .i64 0)) (p1:w.cell? ⟨bp,1,none⟩=some (.int .i64 1)) (c0:w.cell? ⟨lb,0,none⟩=some (.int .i64 1)) (c1:w.cell? ⟨lb,1,none⟩=some (.int .i64 1)) (c2:w.cell? ⟨lb,2,none⟩=some (.int .i64 0)) :
  Calls Tryz.prog 53 #[RuV bt bp,.slice (some ⟨lb,0,none⟩) 3 cap] w fun e w'=>e=.returned (.tuple #[.int .i64 3,.int .i64 0])/\Below w.heap.size w w':=by
 have kp:∀{b o:Nat} {v:Value} {wx:World},w.cell? ⟨b,o,none⟩=some v->Below w.heap.size w wx->wx.cell? ⟨b,o,none⟩=some v:=fun h hb=>(hb.cell (block_lt_of_cell h)).trans h;have hF:∀wx,Below w.heap.size w wx->(Calls Tryz.prog 73 #[RuV bt bp,.int .i64 0,.agg CR,.int .i64 1] wx fun e w'=>e=.returned (.bool false)/\Below wx.heap.size wx w')/\(Calls Tryz.prog 73 #[RuV bt bp,.int .i64 1,.agg CR,.int .i64 1] wx fun e w'=>e=.returned (.bool true)/\Below wx.heap.size wx w')/\(Calls Tryz.prog 73 #[RuV bt bp,.int .i64 1,.agg CR,.int .i64 2] wx fun e w'=>e=.returned (.bool false)/\Below wx.heap.size wx w')/\(Calls Tryz.prog 73 #[RuV bt bp,.int .i64 3,.agg CR,.int .i64 2] wx fun e w'=>e=.returned (.bool true)/\Below wx.heap.size wx w')/\(Calls Tryz.prog 73 #[RuV bt bp,.int .i64 3,.agg CR,.int .i64 3] wx fun e w'=>e=.returned (.bool true)/\Below wx.heap.size wx w'):=fun wx hb =>
  ⟨follows_0_1 (kp t0 hb) (kp t1 hb) (kp p0 hb) (kp p1 hb),follows_1_1 (kp t0 hb) (kp t1 hb) (kp p0 hb) (kp p1 hb),follows_1_2 (kp t0 hb) (kp t1 hb) (kp p0 hb) (kp p1 hb),follows_3_2 (kp t0 hb) (kp t1 hb) (kp p0 hb) (kp p1 hb),follows_3_3 (kp t0 hb) (kp t1 hb) (kp p0 hb) (kp p1 hb)⟩
 have hNR:=fun wx hb=>newRule_ok bt bp wx (kp t0 hb) (kp t1 hb) (kp p0 hb) (kp p1 hb);have hNC:=fun wx hb=>newCourse_ok bt bp lb cap wx (kp c0 hb) (kp c1 hb) (kp c2 hb);have hRs:CR.size=13:=rfl;have hR1:CR.all (·.oneCell')=true:=by kernel_rfl
 have hZs:CZ.size=13:=rfl;have hR0:CR[0]?=some (.int .i64 3):=rfl;obtain⟨R,hR⟩:∃R,CR=R:=⟨_,rfl⟩
 rw[hR]at hRs hR1 hR0 hNC;simp only[hR]at hF;have HF:=Lib.hid hF;have HNR:=Lib.hid hNR;have HNC:=Lib.hid hNC;have HR1:=Lib.hid hR1;have HR0:=Lib.hid hR0;clear hF hNR hNC hR hR1 hR0 kp t0 t1 p0 p1 c0 c1 c2;go_enter Tryz.func53,Tryz.ntmps53;go_wp2_with fail;refine(HNR.out _ (by repeat (first | exact Below.refl _ _ | exact Nat.le_refl _ | refine Below.alloc ?_ ?_ _ | refine Below.setCell ?_ ?_ _ | refine Below.drew ?_ | refine bl_drewN ?_ _ | (assumption) | refine bl_call ?_ (by assumption) ?_ | omega | (simp <;> omega)))).mono ?_;rintro e w1 ⟨rfl,hb1⟩;have B1:Below w.heap.size w w1:=bl_call (by repeat (first | exact Below.refl _ _ | exact Nat.le_refl _ | refine Below.alloc ?_ ?_ _ | refine Below.setCell ?_ ?_ _ | refine Below.drew ?_ | refine bl_drewN ?_ _ | (assumption) | refine bl_call ?_ (by assumption) ?_ | omega | (simp <;> omega))) hb1 (by simp);clear hb1 HNR;go_wp2_with fail;refine(HNC.out _ (B1.alloc B1.size _)).mono ?_;rintro e w2 ⟨rfl,hb2⟩;have B2:Below w.heap.size w w2:=bl_call (B1.alloc B1.size _) hb2 (by have:=B1.size; simp; omega);have hr2:w2.heap[w1.heap.size]?=some (.cells #[.int .i64 2,SlT bt,SlT bp] 124 (0,0)):=(hb2.block _ (by simp)).trans (blk_new _ _);obtain⟨rb,hrb⟩:∃rb,w1.heap.size=rb:=⟨_,rfl⟩
 obtain⟨cb,hcb⟩:∃cb,w2.heap.size=cb:=⟨_,rfl⟩
 have hw1:w.heap.size<=rb:=by rw[<-hrb]; exact B1.size
 have hw2:w.heap.size<=cb:=by rw[<-hcb]; exact B2.size
 have hlt:=blk_lt hr2;rw[hrb]at hr2 hlt ⊢;rw[hcb]at hlt;have HR2:=Lib.hid hr2;have HCB:=Lib.hid hcb;clear hb2 HNC hr2 hrb hcb;go_wp2_with (first
  | (refine wpList_store_row rfl 129 (.tmp 8) (.tmp 23) rfl w2.heap.size R rfl rfl 129 CZ (blk_new w2 _) (by rw[hRs]; exact sizeCourse) (by rw[hRs,hZs]) HR1.out ?_; rw[HCB.out])
  | fail)
 go_loopw [11,9,10] (fun kk o p wr=>∃n:Nat,n<=3/\kk=.int .i64 ((n:Int)+1)/\o=.int .i64 (so n)/\p=.int .i64 (sp n)/\wr.heap[rb]?=some (.cells #[.int .i64 2,SlT bt,SlT bp] 124 (0,0))/\wr.heap[cb]?=some (.cells R 129 (0,0))/\Below w.heap.size w wr) (fun kk _ _ _=>(4-intOf kk).toNat)
 case atStart=>exact⟨0,by decide,rfl,rfl,rfl,(setRow_other _ _ _ _ (by omega)).trans (blk_old HR2.out),setRow_heap _ _ _ _ _ _ (blk_new' _ _ HCB.out.symm),below_setRow (B2.alloc B2.size _) (by omega) _⟩
 case round =>
  obtain⟨n,hn,rfl,rfl,rfl,hr,hc,B⟩:=hrel;rcases (by omega:n=0∨n=1∨n=2∨n=3) with rfl | rfl | rfl | rfl
  ·
   have hu:=hn;clear hu;rw[show sp 0=1 from rfl,show so 0=0 from rfl];have q0:wr.cell? ⟨cb,0,none⟩=some (.int .i64 3):=(cell_of_row wr _ 0 _ _ _ hc).trans HR0.out;have HRr:=Lib.hid hr;have HCc:=Lib.hid hc;clear hr hc;go_wp2_with fail;go_loopw [9] (fun o wq=>(o=.int .i64 0∨o=.int .i64 1)/\wq.heap[rb]?=some (.cells #[.int .i64 2,SlT bt,SlT bp] 124 (0,0))/\wq.heap[cb]?=some (.cells R 129 (0,0))/\Below w.heap.size w wq) (fun o _=>(1-intOf o).toNat)
   case atStart=>exact⟨.inl rfl,HRr.out,HCc.out,B⟩
   case round =>
    obtain⟨rfl | rfl,hr2,hc2,Bq⟩:=hrel
    ·
     have hu:=hn;clear hu;have r0:wr.cell? ⟨rb,0,none⟩=some (.int .i64 2):=cell_of_row wr _ 0 _ _ _ hr2;have r1:wr.cell? ⟨rb,1,none⟩=some (SlT bt):=cell_of_row wr _ 1 _ _ _ hr2;have r2:wr.cell? ⟨rb,2,none⟩=some (SlT bp):=cell_of_row wr _ 2 _ _ _ hr2;have HRq:=Lib.hid hr2;have HCq:=Lib.hid hc2;clear hr2 hc2;go_wp2_with (first
      | (refine wpList_load_row rfl 129 (.tmp 8) rfl cb rfl 129 R (0,0) _ HCq.out Tryz.underlying129 rfl (by rw[hRs]; exact sizeCourse) ?_)
      | fail)
     refine((HF.out _ Bq).1).mono ?_;rintro e w5 ⟨rfl,hb5⟩;have HR5:=Lib.hid ((hb5.block _ (blk_lt HRq.out)).trans HRq.out);have HC5:=Lib.hid ((hb5.block _ (blk_lt HCq.out)).trans HCq.out);have B5:Below w.heap.size w w5:=bl_call Bq hb5 Bq.size;have s0:w5.cell? ⟨rb,0,none⟩=some (.int .i64 2):=cell_of_row w5 _ 0 _ _ _ HR5.out;clear r0 r1 r2 hb5 HRq HCq;go_wp2_with fail
     go_roundw
     case rel=>exact⟨_,_,_,_,_,_,_,_,_,_,⟨.inr rfl,HR5.out,HC5.out,B5⟩,rfl⟩
     case measure=>simp[intOf]
    ·
     have hu:=hn;clear hu;have r0:wr.cell? ⟨rb,0,none⟩=some (.int .i64 2):=cell_of_row wr _ 0 _ _ _ hr2;have r1:wr.cell? ⟨rb,1,none⟩=some (SlT bt):=cell_of_row wr _ 1 _ _ _ hr2;have r2:wr.cell? ⟨rb,2,none⟩=some (SlT bp):=cell_of_row wr _ 2 _ _ _ hr2;have HRq:=Lib.hid hr2;have HCq:=Lib.hid hc2;clear hr2 hc2;go_wp2_with (first
      | (refine wpList_load_row rfl 129 (.tmp 8) rfl cb rfl 129 R (0,0) _ HCq.out Tryz.underlying129 rfl (by rw[hRs]; exact sizeCourse) ?_)
      | fail)
     refine((HF.out _ Bq).2.1).mono ?_;rintro e w5 ⟨rfl,hb5⟩;have HR5:=Lib.hid ((hb5.block _ (blk_lt HRq.out)).trans HRq.out);have HC5:=Lib.hid ((hb5.block _ (blk_lt HCq.out)).trans HCq.out);have B5:Below w.heap.size w w5:=bl_call Bq hb5 Bq.size;have s0:w5.cell? ⟨rb,0,none⟩=some (.int .i64 2):=cell_of_row w5 _ 0 _ _ _ HR5.out;clear r0 r1 r2 hb5 HRq HCq;go_wp2_with fail;exact⟨⟨1,by decide,rfl,rfl,rfl,HR5.out,HC5.out,B5⟩,by decide⟩
  ·
   have hu:=hn;clear hu;rw[show sp 1=2 from rfl,show so 1=1 from rfl];have q0:wr.cell? ⟨cb,0,none⟩=some (.int .i64 3):=(cell_of_row wr _ 0 _ _ _ hc).trans HR0.out;have HRr:=Lib.hid hr;have HCc:=Lib.hid hc;clear hr hc;go_wp2_with fail;go_loopw [9] (fun o wq=>(o=.int .i64 1∨o=.int .i64 3)/\wq.heap[rb]?=some (.cells #[.int .i64 2,SlT bt,SlT bp] 124 (0,0))/\wq.heap[cb]?=some (.cells R 129 (0,0))/\Below w.heap.size w wq) (fun o _=>(3-intOf o).toNat)
   case atStart=>exact⟨.inl rfl,HRr.out,HCc.out,B⟩
   case round =>
    obtain⟨rfl | rfl,hr2,hc2,Bq⟩:=hrel
    ·
     have hu:=hn;clear hu;have r0:wr.cell? ⟨rb,0,none⟩=some (.int .i64 2):=cell_of_row wr _ 0 _ _ _ hr2;have r1:wr.cell? ⟨rb,1,none⟩=some (SlT bt):=cell_of_row wr _ 1 _ _ _ hr2;have r2:wr.cell? ⟨rb,2,none⟩=some (SlT bp):=cell_of_row wr _ 2 _ _ _ hr2;have HRq:=Lib.hid hr2;have HCq:=Lib.hid hc2;clear hr2 hc2;go_wp2_with (first
      | (refine wpList_load_row rfl 129 (.tmp 8) rfl cb rfl 129 R (0,0) _ HCq.out Tryz.underlying129 rfl (by rw[hRs]; exact sizeCourse) ?_)
      | fail)
     refine((HF.out _ Bq).2.2.1).mono ?_;rintro e w5 ⟨rfl,hb5⟩;have HR5:=Lib.hid ((hb5.block _ (blk_lt HRq.out)).trans HRq.out);have HC5:=Lib.hid ((hb5.block _ (blk_lt HCq.out)).trans HCq.out);have B5:Below w.heap.size w w5:=bl_call Bq hb5 Bq.size;have s0:w5.cell? ⟨rb,0,none⟩=some (.int .i64 2):=cell_of_row w5 _ 0 _ _ _ HR5.out;clear r0 r1 r2 hb5 HRq HCq;go_wp2_with fail
     go_roundw
     case rel=>exact⟨_,_,_,_,_,_,_,_,_,_,⟨.inr rfl,HR5.out,HC5.out,B5⟩,rfl⟩
     case measure=>simp[intOf]
    ·
     have hu:=hn;clear hu;have r0:wr.cell? ⟨rb,0,none⟩=some (.int .i64 2):=cell_of_row wr _ 0 _ _ _ hr2;have r1:wr.cell? ⟨rb,1,none⟩=some (SlT bt):=cell_of_row wr _ 1 _ _ _ hr2;have r2:wr.cell? ⟨rb,2,none⟩=some (SlT bp):=cell_of_row wr _ 2 _ _ _ hr2;have HRq:=Lib.hid hr2;have HCq:=Lib.hid hc2;clear hr2 hc2;go_wp2_with (first
      | (refine wpList_load_row rfl 129 (.tmp 8) rfl cb rfl 129 R (0,0) _ HCq.out Tryz.underlying129 rfl (by rw[hRs]; exact sizeCourse) ?_)
      | fail)
     refine((HF.out _ Bq).2.2.2.1).mono ?_;rintro e w5 ⟨rfl,hb5⟩;have HR5:=Lib.hid ((hb5.block _ (blk_lt HRq.out)).trans HRq.out);have HC5:=Lib.hid ((hb5.block _ (blk_lt HCq.out)).trans HCq.out);have B5:Below w.heap.size w w5:=bl_call Bq hb5 Bq.size;have s0:w5.cell? ⟨rb,0,none⟩=some (.int .i64 2):=cell_of_row w5 _ 0 _ _ _ HR5.out;clear r0 r1 r2 hb5 HRq HCq;go_wp2_with fail;exact⟨⟨2,by decide,rfl,rfl,rfl,HR5.out,HC5.out,B5⟩,by decide⟩
  ·
   have hu:=hn;clear hu;rw[show sp 2=4 from rfl,show so 2=3 from rfl];have q0:wr.cell? ⟨cb,0,none⟩=some (.int .i64 3):=(cell_of_row wr _ 0 _ _ _ hc).trans HR0.out;have HRr:=Lib.hid hr;have HCc:=Lib.hid hc;clear hr hc;go_wp2_with fail;go_loopw [9] (fun o wq=>(o=.int .i64 3∨o=.int .i64 3)/\wq.heap[rb]?=some (.cells #[.int .i64 2,SlT bt,SlT bp] 124 (0,0))/\wq.heap[cb]?=some (.cells R 129 (0,0))/\Below w.heap.size w wq) (fun o _=>(3-intOf o).toNat)
   case atStart=>exact⟨.inl rfl,HRr.out,HCc.out,B⟩
   case round =>
    obtain⟨rfl | rfl,hr2,hc2,Bq⟩:=hrel
    ·
     have hu:=hn;clear hu;have r0:wr.cell? ⟨rb,0,none⟩=some (.int .i64 2):=cell_of_row wr _ 0 _ _ _ hr2;have r1:wr.cell? ⟨rb,1,none⟩=some (SlT bt):=cell_of_row wr _ 1 _ _ _ hr2;have r2:wr.cell? ⟨rb,2,none⟩=some (SlT bp):=cell_of_row wr _ 2 _ _ _ hr2;have HRq:=Lib.hid hr2;have HCq:=Lib.hid hc2;clear hr2 hc2;go_wp2_with (first
      | (refine wpList_load_row rfl 129 (.tmp 8) rfl cb rfl 129 R (0,0) _ HCq.out Tryz.underlying129 rfl (by rw[hRs]; exact sizeCourse) ?_)
      | fail)
     refine((HF.out _ Bq).2.2.2.2).mono ?_;rintro e w5 ⟨rfl,hb5⟩;have HR5:=Lib.hid ((hb5.block _ (blk_lt HRq.out)).trans HRq.out);have HC5:=Lib.hid ((hb5.block _ (blk_lt HCq.out)).trans HCq.out);have B5:Below w.heap.size w w5:=bl_call Bq hb5 Bq.size;have s0:w5.cell? ⟨rb,0,none⟩=some (.int .i64 2):=cell_of_row w5 _ 0 _ _ _ HR5.out;clear r0 r1 r2 hb5 HRq HCq;go_wp2_with fail;exact⟨⟨3,by decide,rfl,rfl,rfl,HR5.out,HC5.out,B5⟩,by decide⟩
    ·
     have hu:=hn;clear hu;have r0:wr.cell? ⟨rb,0,none⟩=some (.int .i64 2):=cell_of_row wr _ 0 _ _ _ hr2;have r1:wr.cell? ⟨rb,1,none⟩=some (SlT bt):=cell_of_row wr _ 1 _ _ _ hr2;have r2:wr.cell? ⟨rb,2,none⟩=some (SlT bp):=cell_of_row wr _ 2 _ _ _ hr2;have HRq:=Lib.hid hr2;have HCq:=Lib.hid hc2;clear hr2 hc2;go_wp2_with (first
      | (refine wpList_load_row rfl 129 (.tmp 8) rfl cb rfl 129 R (0,0) _ HCq.out Tryz.underlying129 rfl (by rw[hRs]; exact sizeCourse) ?_)
      | fail)
     refine((HF.out _ Bq).2.2.2.2).mono ?_;rintro e w5 ⟨rfl,hb5⟩;have HR5:=Lib.hid ((hb5.block _ (blk_lt HRq.out)).trans HRq.out);have HC5:=Lib.hid ((hb5.block _ (blk_lt HCq.out)).trans HCq.out);have B5:Below w.heap.size w w5:=bl_call Bq hb5 Bq.size;have s0:w5.cell? ⟨rb,0,none⟩=some (.int .i64 2):=cell_of_row w5 _ 0 _ _ _ HR5.out;clear r0 r1 r2 hb5 HRq HCq;go_wp2_with fail;exact⟨⟨3,by decide,rfl,rfl,rfl,HR5.out,HC5.out,B5⟩,by decide⟩
  · rw[show sp 3=8 from rfl,show so 3=3 from rfl];have q0:wr.cell? ⟨cb,0,none⟩=some (.int .i64 3):=(cell_of_row wr _ 0 _ _ _ hc).trans HR0.out;clear hr hc;go_wp2_with fail;exact bodyPost_ret (v:=.tuple #[.int .i64 3,.int .i64 0]) (by simp[results,Tryz.results53,go_sem]) rfl ⟨rfl,B⟩
open Go.RowKit
attribute [local go_sem ↓] Go.wp_at_zero Go.wp_at_succ
theorem ply_within (n lo hi:Int) (w:World) :
  Calls Tryz.prog 62 #[.int .i64 n,.int .i64 lo,.int .i64 hi] w fun e w'=>e=.returned (.bool (decide (lo<=n) && decide (n<=hi)))/\w=w':=by
 by_cases h1:lo<=n
 ·
  by_cases h2:n<=hi
  all_goals
   go_enter Tryz.func62,Tryz.ntmps62;go_wp2
   go_ret
   exact⟨by simp[h1,h2],rfl⟩
 ·
  go_enter Tryz.func62,Tryz.ntmps62;go_wp2
  go_ret
  exact⟨by rw[decide_eq_false (show ¬lo<=n by omega)]; rfl,rfl⟩
/-- the two tables for the lowest bit, as far as they are read -/
def BitTab (w:World):Prop:=w.cell? ⟨2,0,none⟩=some (.int .u8 0)/\w.cell? ⟨2,1,none⟩=some (.int .u8 1)
theorem BitTab.below {w w':World} (h:BitTab w) (hb:Below w.heap.size w w'):BitTab w':=⟨keepc hb h.1,keepc hb h.2⟩
/-- the lowest bit of 1, 2, 3 -/
def low:Nat->Int
 | 2=>1 | _=>0
theorem trail64 (s:Nat) (hs:s=1∨s=2∨s=3) (w:World) (hb:BitTab w):Calls Tryz.prog 65 #[.int .u64 (s:Nat)] w fun e w'=>e=.returned (.int .i64 (low s))/\w=w':=by
 obtain⟨b0,b1⟩:=hb;rcases hs with rfl | rfl | rfl
 ·
  have e1:bits BinOp.and IntKind.u64 1 (IntKind.u64.wrap (-1))=1:=by kernel_rfl
  have e2:IntKind.u64.wrap 285870213051353865=285870213051353865:=by kernel_rfl
  go_enter Tryz.func65,Tryz.ntmps65;go_wp2
  go_ret
  exact⟨rfl,rfl⟩
 ·
  have e1:bits BinOp.and IntKind.u64 2 (IntKind.u64.wrap (-2))=2:=by kernel_rfl
  have e2:IntKind.u64.wrap 571740426102707730=571740426102707730:=by kernel_rfl
  go_enter Tryz.func65,Tryz.ntmps65;go_wp2
  go_ret
  exact⟨rfl,rfl⟩
 ·
  have e1:bits BinOp.and IntKind.u64 3 (IntKind.u64.wrap (-3))=1:=by kernel_rfl
  have e2:IntKind.u64.wrap 285870213051353865=285870213051353865:=by kernel_rfl
  go_enter Tryz.func65,Tryz.ntmps65;go_wp2
  go_ret
  exact⟨rfl,rfl⟩
theorem trail (s:Nat) (hs:s=1∨s=2∨s=3) (w:World) (hb:BitTab w):Calls Tryz.prog 43 #[.int .u64 (s:Nat)] w fun e w'=>e=.returned (.int .i64 (low s))/\w=w':=by
 go_enter Tryz.func43,Tryz.ntmps43;go_wp2_with fail;refine(trail64 s hs w hb).mono ?_;rintro e w' ⟨rfl,rfl⟩;go_wp2
 go_ret
 exact⟨rfl,rfl⟩
theorem codes1_ok (nb:Nat) (k:Int) (hk:0<=k/\k<=3) (w:World) (h:w.cell? ⟨nb,0,none⟩=some (.int .i64 2)):Calls Tryz.prog 67 #[.int .i64 k,.pointer (some ⟨nb,0,none⟩)] w fun e w'=>e=.returned (.bool false)/\w=w':=by
 have hd:(decide (0<=k) && decide (k<=3))=true:=by simp; omega
 have HD:=Lib.hid hd;clear hd;go_enter Tryz.func67,Tryz.ntmps67;go_wp2_with (first
  | (go_at_call 62; refine(ply_within _ _ _ _).mono ?_; rintro e w' ⟨rfl,rfl⟩; rw[HD.out])
  | fail)
 go_ret
 exact⟨rfl,rfl⟩
theorem codesIdx (nb lb cap:Nat) (w:World) (h:w.cell? ⟨nb,0,none⟩=some (.int .i64 2)) (c0:w.cell? ⟨lb,0,none⟩=some (.int .i64 1)) (c1:w.cell? ⟨lb,1,none⟩=some (.int .i64 3)) :
  Calls Tryz.prog 86 #[.slice (some ⟨lb,0,none⟩) 2 cap,.func (.func 67) #[] #[.pointer (some ⟨nb,0,none⟩)]] w fun e w'=>e=.returned (.int .i64 (-1))/\w=w':=by
 go_enter Tryz.func86,Tryz.ntmps86;go_wp2;go_loopw [8] (fun x wr=>∃k:Nat,x=.int .i64 k/\k<=2/\w=wr) (fun x _=>2-(intOf x).toNat)
 case atStart=>exact⟨0,rfl,by decide,rfl⟩
 case round =>
  obtain⟨k,rfl,hk,rfl⟩:=hrel;rcases (by omega:k=0∨k=1∨k=2) with rfl | rfl | rfl
  · go_wp2_with fail;refine(codes1_ok nb 1 (by decide) _ h).mono ?_;rintro e w' ⟨rfl,rfl⟩;go_wp2;exact⟨⟨1,rfl,by decide,trivial⟩,by decide⟩
  · go_wp2_with fail;refine(codes1_ok nb 3 (by decide) _ h).mono ?_;rintro e w' ⟨rfl,rfl⟩;go_wp2;exact⟨⟨2,rfl,by decide,trivial⟩,by decide⟩
  ·
   go_wp2
   go_ret
   exact⟨rfl,rfl⟩
theorem codesHas (nb lb cap:Nat) (w:World) (h:w.cell? ⟨nb,0,none⟩=some (.int .i64 2)) (c0:w.cell? ⟨lb,0,none⟩=some (.int .i64 1)) (c1:w.cell? ⟨lb,1,none⟩=some (.int .i64 3)) :
  Calls Tryz.prog 66 #[.slice (some ⟨lb,0,none⟩) 2 cap,.func (.func 67) #[] #[.pointer (some ⟨nb,0,none⟩)]] w fun e w'=>e=.returned (.bool false)/\w=w':=by
 go_enter Tryz.func66,Tryz.ntmps66;go_wp2_with fail;refine(codesIdx nb lb cap _ h c0 c1).mono ?_;rintro e w' ⟨rfl,rfl⟩;go_wp2
 go_ret
 exact⟨rfl,rfl⟩
theorem areCodes_ok (lb cap:Nat) (w:World) (c0:w.cell? ⟨lb,0,none⟩=some (.int .i64 1)) (c1:w.cell? ⟨lb,1,none⟩=some (.int .i64 3)) :
  Calls Tryz.prog 44 #[.int .i64 2,.slice (some ⟨lb,0,none⟩) 2 cap] w fun e w'=>e=.returned (.bool true)/\Below w.heap.size w w':=by
 have h0:(w.alloc (.cells #[.int .i64 2] 3)).cell? ⟨lb,0,none⟩=some (.int .i64 1):=(World.cell?_alloc_lt _ _ _ (block_lt_of_cell c0)).trans c0;have h1:(w.alloc (.cells #[.int .i64 2] 3)).cell? ⟨lb,1,none⟩=some (.int .i64 3):=(World.cell?_alloc_lt _ _ _ (block_lt_of_cell c1)).trans c1;go_enter Tryz.func44,Tryz.ntmps44;go_wp2_with fail;refine(codesHas w.heap.size lb cap _ (by simp) h0 h1).mono ?_;rintro e w' ⟨rfl,rfl⟩;go_wp2
 go_ret
 exact⟨rfl,(by repeat (first | exact Below.refl _ _ | exact Nat.le_refl _ | refine Below.alloc ?_ ?_ _ | refine Below.setCell ?_ ?_ _ | refine Below.drew ?_ | refine bl_drewN ?_ _ | (assumption) | refine bl_call ?_ (by assumption) ?_ | omega | (simp <;> omega)))⟩
open Go.RowKit
attribute [local go_sem ↓] Go.wp_at_zero Go.wp_at_succ
def XS:Nat->Array Value
 | 0=>#[.int .i64 2,.int .u64 0,.int .u64 0,.int .u64 0,.int .u64 0,.int .u64 0,.int .u64 0]
 | 1=>#[.int .i64 2,.int .u64 1,.int .u64 0,.int .u64 0,.int .u64 0,.int .u64 0,.int .u64 0]
 | _=>#[.int .i64 2,.int .u64 1,.int .u64 3,.int .u64 0,.int .u64 0,.int .u64 0,.int .u64 0]
def XZ:Array Value:=#[.int .i64 0,.int .u64 0,.int .u64 0,.int .u64 0,.int .u64 0,.int .u64 0,.int .u64 0]
theorem sizeSpace:(Tryz.prog.info? 52).map (·.size)=some 7:=by kernel_rfl
theorem newCells_ok (lb cap:Nat) (w:World) (l0:w.cell? ⟨lb,0,none⟩=some (.int .i64 1)) (l1:w.cell? ⟨lb,1,none⟩=some (.int .i64 3)) :
  Calls Tryz.prog 39 #[.slice (some ⟨lb,0,none⟩) 2 cap] w fun e w'=>e=.returned (.tuple #[.agg (XS 2),.bool true])/\Below w.heap.size w w':=by
 have hRs:(XS 2).size=7:=rfl;have hZs:XZ.size=7:=rfl;have hR1:(XS 2).all (·.oneCell')=true:=by kernel_rfl
 have HR1:=Lib.hid hR1;clear hR1;go_enter Tryz.func39,Tryz.ntmps39;go_wp2_with (first
  | (go_at_call 62; refine(ply_within _ _ _ _).mono ?_; rintro e w' ⟨rfl,rfl⟩)
  | fail)
 obtain⟨W0,h0⟩:∃W0,W0=(w.alloc (.cells XZ 52)).alloc (.cells (XS 0) 52):=⟨_,rfl⟩
 refine Eq.mp (congrArg (fun W=>Calls Tryz.prog 44 _ W _) h0) ?_;have hZ:W0.heap[w.heap.size]?=some (.cells XZ 52 (0,0)):=by rw[h0]; exact blk_old (blk_new _ _)
 have hX:W0.heap[w.heap.size+1]?=some (.cells (XS 0) 52 (0,0)):=by rw[h0]; exact blk_new' _ _ (by simp)
 have B0:Below w.heap.size w W0:=by rw[h0]; exact(by repeat (first | exact Below.refl _ _ | exact Nat.le_refl _ | refine Below.alloc ?_ ?_ _ | refine Below.setCell ?_ ?_ _ | refine Below.drew ?_ | refine bl_drewN ?_ _ | (assumption) | refine bl_call ?_ (by assumption) ?_ | omega | (simp <;> omega)))
 have HZ:=Lib.hid hZ;have HX:=Lib.hid hX;clear h0 hZ hX;refine(areCodes_ok lb cap W0 ((B0.cell (block_lt_of_cell l0)).trans l0) ((B0.cell (block_lt_of_cell l1)).trans l1)).mono ?_;rintro e w1 ⟨rfl,hb1⟩;have B1:Below w.heap.size w w1:=bl_call B0 hb1 B0.size;have HZ1:=Lib.hid ((hb1.block _ (blk_lt HZ.out)).trans HZ.out);have HX1:=Lib.hid ((hb1.block _ (blk_lt HX.out)).trans HX.out);clear hb1 HZ HX B0;go_wp2_with fail;go_loopw [24] (fun x wr=>∃k:Nat,x=.int .i64 k/\k<=2/\wr.heap[w.heap.size]?=some (.cells XZ 52 (0,0))/\wr.heap[w.heap.size+1]?=some (.cells (XS k) 52 (0,0))/\Below w.heap.size w wr) (fun x _=>2-(intOf x).toNat)
 case atStart=>exact⟨0,rfl,by decide,HZ1.out,HX1.out,B1⟩
 case round =>
  obtain⟨k,rfl,hk,hZ,hX,B⟩:=hrel;have c0:=(B.cell (block_lt_of_cell l0)).trans l0;have c1:=(B.cell (block_lt_of_cell l1)).trans l1;have fX:=row_f hX;have zX:=blk_lt hX;rcases (by omega:k=0∨k=1∨k=2) with rfl | rfl | rfl
  · have d1:wr.cell? ⟨w.heap.size+1,1,none⟩=some (.int .u64 0):=cell_of_row wr _ 1 _ _ _ hX;have HZ2:=Lib.hid hZ;have HX2:=Lib.hid hX;clear hZ hX;go_wp2;exact⟨⟨1,rfl,by decide,blk_farI 1 _ (by omega) HZ2.out,(blk_setI 1 _ HX2.out).trans rfl,(by repeat (first | exact Below.refl _ _ | exact Nat.le_refl _ | refine Below.alloc ?_ ?_ _ | refine Below.setCell ?_ ?_ _ | refine Below.drew ?_ | refine bl_drewN ?_ _ | (assumption) | refine bl_call ?_ (by assumption) ?_ | omega | (simp <;> omega)))⟩,by decide⟩
  · have d1:wr.cell? ⟨w.heap.size+1,2,none⟩=some (.int .u64 0):=cell_of_row wr _ 2 _ _ _ hX;have HZ2:=Lib.hid hZ;have HX2:=Lib.hid hX;clear hZ hX;go_wp2;exact⟨⟨2,rfl,by decide,blk_farI 2 _ (by omega) HZ2.out,(blk_setI 2 _ HX2.out).trans rfl,(by repeat (first | exact Below.refl _ _ | exact Nat.le_refl _ | refine Below.alloc ?_ ?_ _ | refine Below.setCell ?_ ?_ _ | refine Below.drew ?_ | refine bl_drewN ?_ _ | (assumption) | refine bl_call ?_ (by assumption) ?_ | omega | (simp <;> omega)))⟩,by decide⟩
  ·
   have HZ2:=Lib.hid hZ;have HX2:=Lib.hid hX;clear hZ hX;obtain⟨R,hR⟩:∃R,XS 2=R:=⟨_,rfl⟩
   rw[hR]at HX2 hRs HR1;have HR:=Lib.hid hR;clear hR;go_wp2_with (first
    | (refine wpList_load_row rfl 52 (.tmp 4) rfl (w.heap.size+1) rfl 52 R (0,0) _ HX2.out Tryz.underlying52 rfl (by rw[hRs]; exact sizeSpace) ?_)
    | (refine wpList_store_row rfl 52 (.tmp 2) (.tmp 35) rfl w.heap.size R rfl rfl 52 XZ HZ2.out (by rw[hRs]; exact sizeSpace) (by rw[hRs,hZs]) HR1.out ?_)
    | fail)
   exact bodyPost_ret (v:=.tuple #[.agg R,.bool true]) (results_row_tmp (p:=2) (q:=3) (ty:=52) (by kernel_rfl) _ _ w.heap.size 52 R (0,0) _ rfl (setRow_heap _ _ _ _ _ _ HZ2.out) Tryz.underlying52 rfl (by rw[hRs]; exact sizeSpace)) rfl ⟨by rw[HR.out],below_setRow B (Nat.le_refl _) _⟩
theorem has_ok (s:Nat) (p:Nat) (b:Bool) (h:s=1/\p=0/\b=true∨s=3/\p=1/\b=true) (w:World):Calls Tryz.prog 45 #[.int .u64 (s:Nat),.int .i64 (p:Nat)] w fun e w'=>e=.returned (.bool b)/\w=w':=by
 rcases h with ⟨rfl,rfl,rfl⟩ | ⟨rfl,rfl,rfl⟩
 ·
  have e1:bits BinOp.and IntKind.u64 1 1=1:=by kernel_rfl
  go_enter Tryz.func45,Tryz.ntmps45;go_wp2
  go_ret
  exact⟨rfl,rfl⟩
 ·
  have e1:bits BinOp.and IntKind.u64 1 1=1:=by kernel_rfl
  go_enter Tryz.func45,Tryz.ntmps45;go_wp2
  go_ret
  exact⟨rfl,rfl⟩
end Go.Proofs.YtaffkceklkdokaaGreatDoor
