/- A triple with one of its numbers exchanged: sorted anew. -/
import Derived.Test.YtaffkceklkdokaaGreatDoorTA
import Derived.Shelf.Sort.Plain
set_option maxRecDepth 100000
set_option maxHeartbeats 4000000
namespace Go.Proofs.YtaffkceklkdokaaGreatDoor
open Go.RowKit Go.Sort
attribute [local go_sem ↓] Go.wp_at_zero Go.wp_at_succ
def lays189_ren:Go.Shelf.Ren:=⟨fun | 125=>104 | 128=>129 | 129=>130 | 189=>84 | 215=>148 | 216=>126 | 257=>103 | 294=>120 | 295=>121 | 296=>122 | 297=>123 | 298=>124 | 299=>125 | 300=>127 | 301=>128 | 328=>143 | 329=>144 | 330=>145 | 331=>146 | 332=>147 | 343=>161 | n=>n,fun | 0=>0 | 3=>3 | 4=>4 | 5=>5 | 9=>9 | 28=>22 | 46=>48 | 51=>117 | 53=>119 | 131=>57 | 182=>184 | 183=>185 | 218=>206 | 222=>210 | 228=>224 | 229=>225 | n=>n,fun | n=>n⟩
theorem lays189:Go.Proofs.Lays.n189 Tryz.prog lays189_ren:={
 mixed:=by kernel_rfl,
 f125:=Tryz.func104.trans (congrArg some (by kernel_rfl)),
 f128:=Tryz.func129.trans (congrArg some (by kernel_rfl)),
 f129:=Tryz.func130.trans (congrArg some (by kernel_rfl)),
 f189:=Tryz.func84.trans (congrArg some (by kernel_rfl)),
 f215:=Tryz.func148.trans (congrArg some (by kernel_rfl)),
 f216:=Tryz.func126.trans (congrArg some (by kernel_rfl)),
 f257:=Tryz.func103.trans (congrArg some (by kernel_rfl)),
 f294:=Tryz.func120.trans (congrArg some (by kernel_rfl)),
 f295:=Tryz.func121.trans (congrArg some (by kernel_rfl)),
 f296:=Tryz.func122.trans (congrArg some (by kernel_rfl)),
 f297:=Tryz.func123.trans (congrArg some (by kernel_rfl)),
 f298:=Tryz.func124.trans (congrArg some (by kernel_rfl)),
 f299:=Tryz.func125.trans (congrArg some (by kernel_rfl)),
 f300:=Tryz.func127.trans (congrArg some (by kernel_rfl)),
 f301:=Tryz.func128.trans (congrArg some (by kernel_rfl)),
 f328:=Tryz.func143.trans (congrArg some (by kernel_rfl)),
 f329:=Tryz.func144.trans (congrArg some (by kernel_rfl)),
 f330:=Tryz.func145.trans (congrArg some (by kernel_rfl)),
 f331:=Tryz.func146.trans (congrArg some (by kernel_rfl)),
 f332:=Tryz.func147.trans (congrArg some (by kernel_rfl)),
 f343:=Tryz.func161.trans (congrArg some (by kernel_rfl)),
 t0:=Tryz.underlying0,
 a0:=Tryz.isAgg0,
 z0:=Tryz.sizeOf0,
 v0:=Tryz.zeroValue0,
 t3:=Tryz.underlying3,
 a3:=Tryz.isAgg3,
 z3:=Tryz.sizeOf3,
 v3:=Tryz.zeroValue3,
 t4:=Tryz.underlying4,
 a4:=Tryz.isAgg4,
 z4:=Tryz.sizeOf4,
 v4:=Tryz.zeroValue4,
 t5:=Tryz.underlying5,
 a5:=Tryz.isAgg5,
 z5:=Tryz.sizeOf5,
 v5:=Tryz.zeroValue5,
 t9:=Tryz.underlying9,
 a9:=Tryz.isAgg9,
 z9:=Tryz.sizeOf9,
 v9:=Tryz.zeroValue9,
 t28:=Tryz.underlying22,
 a28:=Tryz.isAgg22,
 z28:=Tryz.sizeOf22,
 v28:=Tryz.zeroValue22,
 t46:=Tryz.underlying48,
 a46:=Tryz.isAgg48,
 z46:=Tryz.sizeOf48,
 v46:=Tryz.zeroValue48,
 t51:=Tryz.underlying117,
 a51:=Tryz.isAgg117,
 z51:=Tryz.sizeOf117,
 v51:=Tryz.zeroValue117,
 t53:=Tryz.underlying119,
 a53:=Tryz.isAgg119,
 z53:=Tryz.sizeOf119,
 v53:=Tryz.zeroValue119,
 t131:=Tryz.underlying57,
 a131:=Tryz.isAgg57,
 z131:=Tryz.sizeOf57,
 v131:=Tryz.zeroValue57,
 t182:=Tryz.underlying184,
 a182:=Tryz.isAgg184,
 z182:=Tryz.sizeOf184,
 v182:=Tryz.zeroValue184,
 t183:=Tryz.underlying185,
 a183:=Tryz.isAgg185,
 z183:=Tryz.sizeOf185,
 v183:=Tryz.zeroValue185,
 t218:=Tryz.underlying206,
 a218:=Tryz.isAgg206,
 z218:=Tryz.sizeOf206,
 v218:=Tryz.zeroValue206,
 t222:=Tryz.underlying210,
 a222:=Tryz.isAgg210,
 z222:=Tryz.sizeOf210,
 v222:=Tryz.zeroValue210,
 t228:=Tryz.underlying224,
 a228:=Tryz.isAgg224,
 z228:=Tryz.sizeOf224,
 v228:=Tryz.zeroValue224,
 t229:=Tryz.underlying225,
 a229:=Tryz.isAgg225,
 z229:=Tryz.sizeOf225,
 v229:=Tryz.zeroValue225 }
theorem sort_eq {l s:List Int} (hp:l.Perm s) (hs:s.Pairwise (·<=·)):l.mergeSort (fun x y=>decide (x<=y))=s:=by
 refine List.Perm.eq_of_pairwise (le:=fun x y:Int=>decide (x<=y)=true) (fun a b _ _ h1 h2=>by have:=of_decide_eq_true h1; have:=of_decide_eq_true h2; omega) ?_ ?_ ((List.mergeSort_perm l _).trans hp)
 · exact List.pairwise_mergeSort (fun a b c h1 h2=>by simp at h1 h2 ⊢; omega) (fun a b=>by simp; omega) l
 · exact hs.imp fun h=>by simpa using h
theorem sort3 {blk:Nat} {a b c s0 s1 s2:Int} {w:World} (h:w.heap[blk]?=some (.cells #[.int .i64 a,.int .i64 b,.int .i64 c] 79 (0,0))) (hp : [a,b,c].Perm [s0,s1,s2]) (h1:s0<=s1) (h2:s1<=s2) :
  Calls Tryz.prog 84 #[.slice (some ⟨blk,0,none⟩) 3 3] w fun e w'=>e=.returned (.tuple #[])/\w'.heap[blk]?=some (.cells #[.int .i64 s0,.int .i64 s1,.int .i64 s2] 79 (0,0))/\BelX [blk] w w':=by
 have hs:=sort_eq hp (by simp; omega);refine(Any.slices_Sort_int lays189 blk 0 3 [a,b,c] w (fun j hj=>⟨?_,frozen_of_row w blk _ _ _ h⟩) (blk_lt h) (by simp)).mono ?_
 · rw[cell_of_row w blk (0+j) _ _ _ h];rcases (by simp at hj; omega:j=0∨j=1∨j=2) with rfl | rfl | rfl <;> rfl
 ·
  rintro e w' ⟨rfl,n,os,rfl⟩;rw[hs];have hb:=blk_lt h;refine⟨rfl,?_,⟨rfl,rfl,rfl,by simp[Sort.ahead],fun k hk hn=>?_⟩⟩
  · rw[heap_grow_old _ _ (by simpa[Sort.ahead]using hb)];simp[putRow,mapBlock,Sort.ahead,Array.getElem?_modify,h,onCells,putCells]
  · rw[heap_grow_old _ _ (by simpa[Sort.ahead]using hk)];have:blk≠k:=fun e=>hn (by simp[e]);simp[putRow,mapBlock,Sort.ahead,Array.getElem?_modify,this]
theorem blk_set3 {w:World} {g t:Nat} {c0 c1 c2 u0 u1 u2:Value} (h:w.heap[g]?=some (.cells #[c0,c1,c2] t (0,0))) :
  (((w.setCell ⟨g,0,none⟩ u0).setCell ⟨g,1,none⟩ u1).setCell ⟨g,2,none⟩ u2).heap[g]?=some (.cells #[u0,u1,u2] t (0,0)):=by
 simp[World.setCell,Array.getElem?_modify,h]
theorem blk_far3 {w:World} {g k:Nat} {o:Obj} {u0 u1 u2:Value} (hne:k≠g) (h:w.heap[k]?=some o):(((w.setCell ⟨g,0,none⟩ u0).setCell ⟨g,1,none⟩ u1).setCell ⟨g,2,none⟩ u2).heap[k]?=some o :=
 blk_farI 2 _ hne (blk_farI 1 _ hne (blk_farI 0 _ hne h))
theorem exch0 {a b c s0 s1 s2:Int} (w:World) (ha:0<=a/\a<=1000000000) (hb:0<=b/\b<=1000000000) (hc:0<=c/\c<=1000000000) (hm:0<=3 * b * c/\3 * b * c<=4000000000000000000) (hp : [3 * b * c-a,b,c].Perm [s0,s1,s2]) (h1:s0<=s1) (h2:s1<=s2) :
  Calls Tryz.prog 57 #[.agg #[.int .i64 a,.int .i64 b,.int .i64 c],.int .i64 0] w fun e w'=>e=.returned (.tuple #[.agg #[.int .i64 s0,.int .i64 s1,.int .i64 s2],.bool (decide (s2<=1000000000))])/\Below w.heap.size w w':=by
 have hu:=ha;have hv:=hb;have hx:=hc;clear hu hv hx;go_enter Tryz.func57,Tryz.ntmps57;go_upto_region 1 with fail;obtain⟨W0,h0⟩:∃W0,W0=((w.alloc (.cells #[.int .i64 a,.int .i64 b,.int .i64 c] 79)).alloc (.cells #[.int .i64 0,.int .i64 0,.int .i64 0] 79)):=⟨_,rfl⟩
 rw[<-h0];have hA:W0.heap[w.heap.size]?=some (.cells #[.int .i64 a,.int .i64 b,.int .i64 c] 79 (0,0)):=by rw[h0]; exact blk_old (blk_new _ _)
 have hB:W0.heap[w.heap.size+1]?=some (.cells #[.int .i64 0,.int .i64 0,.int .i64 0] 79 (0,0)):=by rw[h0]; exact blk_new' _ _ (by simp)
 have B0:Below w.heap.size w W0:=by rw[h0]; exact(by repeat (first | exact Below.refl _ _ | exact Nat.le_refl _ | refine Below.alloc ?_ ?_ _ | refine Below.setCell ?_ ?_ _ | refine Below.drew ?_ | refine bl_drewN ?_ _ | (assumption) | refine bl_call ?_ (by assumption) ?_ | omega | (simp <;> omega)))
 have hsz:W0.heap.size=w.heap.size+2:=by rw[h0]; simp
 clear h0;have k0:W0.cell? ⟨w.heap.size,0,none⟩=some (.int .i64 a):=cell_of_row W0 _ 0 _ _ _ hA;have k1:W0.cell? ⟨w.heap.size,1,none⟩=some (.int .i64 b):=cell_of_row W0 _ 1 _ _ _ hA;have k2:W0.cell? ⟨w.heap.size,2,none⟩=some (.int .i64 c):=cell_of_row W0 _ 2 _ _ _ hA;have HA:=Lib.hid hA;have HB:=Lib.hid hB;have HP:=Lib.hid hp;clear hA hB hp;refine with_act fun a0 ha0=>?_;have hsz0:a0.tmps.size=34:=by rw[ha0]; rfl
 refine wp_region_vals (W0:=W0) (by kernel_rfl) (by kernel_rfl) [(8,.int .i64 0),(9,.int .i64 1),(10,.int .i64 1),(11,.pointer (some ⟨w.heap.size,1,none⟩)),(12,.int .i64 b),(13,.int .i64 0),(14,.int .i64 2),(15,.int .i64 2),(16,.pointer (some ⟨w.heap.size,2,none⟩)),(17,.int .i64 c),(6,.int .i64 b),(7,.int .i64 c)] rfl (by show([8,9,10,11,12,13,14,15,16,17,6,7]:List Nat).Nodup; decide) _ hsz0 (by kernel_rfl) (BelX.start _ _) ⟨⟨rfl,?y4v0⟩,⟨rfl,?y4v1⟩,⟨rfl,?y4v2⟩,⟨rfl,?y4v3⟩,⟨rfl,?y4v4⟩,⟨rfl,?y4v5⟩,⟨rfl,?y4v6⟩,⟨rfl,?y4v7⟩,⟨rfl,?y4v8⟩,⟨rfl,?y4v9⟩,⟨rfl,?y4v10⟩,⟨rfl,?y4v11⟩,trivial⟩ ?y4done
 case y4v0 =>
  exact mvVi rfl rfl rfl (by kernel_rfl) (by rw[ha0]; rfl)
 case y4v1 =>
  intro a' w' hA hdep hX K hK;obtain⟨r8,q8⟩:=dpv hdep ⟨0,.data⟩ (by simp) rfl rfl;clear hdep ha0 hA;refine StepG.value (wanted_none rfl) rfl ?_ (hK _ hX)
  (simp[go_sem, *] <;> decide)
 case y4v2 =>
  intro a' w' hA hdep hX K hK;obtain⟨r9,q9⟩:=dpv hdep ⟨1,.data⟩ (by simp) rfl rfl;clear hdep ha0 hA;refine StepG.value (wanted_none rfl) rfl ?_ (hK _ hX)
  (simp[go_sem, *] <;> decide)
 case y4v3 =>
  intro a' w' hA hdep hX K hK;obtain⟨r10,q10⟩:=dpv hdep ⟨2,.data⟩ (by simp) rfl rfl;obtain⟨r2,q2⟩:=dpi hA 2 (.pointer (some ⟨w.heap.size,0,none⟩)) (by kernel_rfl) (by rw[ha0]; rfl);clear hdep ha0 hA;refine StepG.value (wanted_none rfl) rfl ?_ (hK _ hX)
  (simp[go_sem, *] <;> decide)
 case y4v4 =>
  intro a' w' hA hdep hX K hK;obtain⟨r11,q11⟩:=dpv hdep ⟨3,.data⟩ (by simp) rfl rfl;have kc0:w'.cell? ⟨w.heap.size,0,none⟩=some (.int .i64 a):=hX.cell (by simp) (by first | assumption | (go_simp; done) | (simp; done));have kc1:w'.cell? ⟨w.heap.size,1,none⟩=some (.int .i64 b):=hX.cell (by simp) (by first | assumption | (go_simp; done) | (simp; done));have kc2:w'.cell? ⟨w.heap.size,2,none⟩=some (.int .i64 c):=hX.cell (by simp) (by first | assumption | (go_simp; done) | (simp; done));clear hdep ha0 hA;refine StepG.value (wanted_none rfl) rfl ?_ (hK _ hX)
  (simp[go_sem, *] <;> decide)
 case y4v5 =>
  exact mvVi rfl rfl rfl (by kernel_rfl) (by rw[ha0]; rfl)
 case y4v6 =>
  intro a' w' hA hdep hX K hK;obtain⟨r13,q13⟩:=dpv hdep ⟨5,.data⟩ (by simp) rfl rfl;clear hdep ha0 hA;refine StepG.value (wanted_none rfl) rfl ?_ (hK _ hX)
  (simp[go_sem, *] <;> decide)
 case y4v7 =>
  intro a' w' hA hdep hX K hK;obtain⟨r14,q14⟩:=dpv hdep ⟨6,.data⟩ (by simp) rfl rfl;clear hdep ha0 hA;refine StepG.value (wanted_none rfl) rfl ?_ (hK _ hX)
  (simp[go_sem, *] <;> decide)
 case y4v8 =>
  intro a' w' hA hdep hX K hK;obtain⟨r15,q15⟩:=dpv hdep ⟨7,.data⟩ (by simp) rfl rfl;obtain⟨r2,q2⟩:=dpi hA 2 (.pointer (some ⟨w.heap.size,0,none⟩)) (by kernel_rfl) (by rw[ha0]; rfl);clear hdep ha0 hA;refine StepG.value (wanted_none rfl) rfl ?_ (hK _ hX)
  (simp[go_sem, *] <;> decide)
 case y4v9 =>
  intro a' w' hA hdep hX K hK;obtain⟨r16,q16⟩:=dpv hdep ⟨8,.data⟩ (by simp) rfl rfl;have kc0:w'.cell? ⟨w.heap.size,0,none⟩=some (.int .i64 a):=hX.cell (by simp) (by first | assumption | (go_simp; done) | (simp; done));have kc1:w'.cell? ⟨w.heap.size,1,none⟩=some (.int .i64 b):=hX.cell (by simp) (by first | assumption | (go_simp; done) | (simp; done));have kc2:w'.cell? ⟨w.heap.size,2,none⟩=some (.int .i64 c):=hX.cell (by simp) (by first | assumption | (go_simp; done) | (simp; done));clear hdep ha0 hA;refine StepG.value (wanted_none rfl) rfl ?_ (hK _ hX)
  (simp[go_sem, *] <;> decide)
 case y4v10 =>
  intro a' w' hA hdep hX K hK;obtain⟨r12,q12⟩:=dpv hdep ⟨4,.data⟩ (by simp) rfl rfl;clear hdep ha0 hA;refine StepG.value (wanted_none rfl) rfl ?_ (hK _ hX)
  (simp[go_sem, *] <;> decide)
 case y4v11 =>
  intro a' w' hA hdep hX K hK;obtain⟨r17,q17⟩:=dpv hdep ⟨9,.data⟩ (by simp) rfl rfl;clear hdep ha0 hA;refine StepG.value (wanted_none rfl) rfl ?_ (hK _ hX)
  (simp[go_sem, *] <;> decide)
 intro w1 hXR;rw[ha0]; simp only[putL,Act.put,sA_,sZ_,sS_];clear ha0 hsz0;have B1:Below w.heap.size w w1:=hXR.below B0 (by omega) (by simp);have hA1:=(hXR.block _ (blk_lt HA.out) (by simp)).trans HA.out;have hB1:=(hXR.block _ (blk_lt HB.out) (by simp)).trans HB.out;have hs1:=hXR.size;have c0:w1.cell? ⟨w.heap.size,0,none⟩=some (.int .i64 a):=cell_of_row w1 _ 0 _ _ _ hA1;have c1:w1.cell? ⟨w.heap.size,1,none⟩=some (.int .i64 b):=cell_of_row w1 _ 1 _ _ _ hA1;have c2:w1.cell? ⟨w.heap.size,2,none⟩=some (.int .i64 c):=cell_of_row w1 _ 2 _ _ _ hA1;have fA:=row_f hA1;have HA1:=Lib.hid hA1;have HB1:=Lib.hid hB1;clear hXR k0 k1 k2 HA HB hA1 hB1;go_upto_region 3 with fail;obtain⟨W2,h0⟩:∃W2,W2=w1.setCell ⟨w.heap.size,0,none⟩ (.int .i64 (3 * b * c-a)):=⟨_,rfl⟩
 rw[<-h0];have hA2:W2.heap[w.heap.size]?=some (.cells #[.int .i64 (3 * b * c-a),.int .i64 b,.int .i64 c] 79 (0,0)):=by rw[h0,blk_setI 0 _ HA1.out]; rfl
 have hB2:W2.heap[w.heap.size+1]?=some (.cells #[.int .i64 0,.int .i64 0,.int .i64 0] 79 (0,0)):=by rw[h0]; exact blk_farI 0 _ (by omega) HB1.out
 have B2:Below w.heap.size w W2:=by rw[h0]; exact(by repeat (first | exact Below.refl _ _ | exact Nat.le_refl _ | refine Below.alloc ?_ ?_ _ | refine Below.setCell ?_ ?_ _ | refine Below.drew ?_ | refine bl_drewN ?_ _ | (assumption) | refine bl_call ?_ (by assumption) ?_ | omega | (simp <;> omega)))
 have HB2:=Lib.hid hB2;have HA2:=Lib.hid hA2;clear h0 HA1 HB1 c0 c1 c2 fA hA2 hB2;go_upto_region 4 with (go_at_call 84; refine(sort3 HA2.out HP.out h1 h2).mono ?_; rintro e w3 ⟨rfl,hA3,hX3⟩)
 have hB3:=(hX3.block _ (blk_lt HB2.out) (by simp)).trans HB2.out;have B3:Below w.heap.size w w3:=hX3.below B2 (by have:=blk_lt HA2.out; omega) (by simp);have e0:w3.cell? ⟨w.heap.size,0,none⟩=some (.int .i64 s0):=cell_of_row w3 _ 0 _ _ _ hA3;have e1:w3.cell? ⟨w.heap.size,1,none⟩=some (.int .i64 s1):=cell_of_row w3 _ 1 _ _ _ hA3;have e2:w3.cell? ⟨w.heap.size,2,none⟩=some (.int .i64 s2):=cell_of_row w3 _ 2 _ _ _ hA3;clear hX3 hA3 HA2 HB2 HP;have pblk4:w3.heap[w.heap.size+1]?=some (.cells #[.int .i64 0,.int .i64 0,.int .i64 0] 79 (0,0)):=by first | assumption | exact hblk4
 refine with_act fun a0 ha0=>?_;refine wp_region_inv (by kernel_rfl) (by kernel_rfl) (fun s a' w'=>∃v30 v31 v32 v33 v5:Value,a'=putL a0 [(30,v30),(31,v31),(32,v32),(33,v33),(5,v5)]/\Hid ((s 0=true->v30=.agg #[.int .i64 s0,.int .i64 s1,.int .i64 s2])/\(s 1=true->v31=.pointer (some ⟨w.heap.size,2,none⟩))/\(s 2=true->v32=.int .i64 s2)/\(s 3=true->v33=.bool (decide (s2<=1000000000)))/\(s 5=true->v5=.bool (decide (s2<=1000000000)))/\True)/\BelX [w.heap.size+1] w3 w'/\(∃(c0 c1 c2:Value),w'.heap[w.heap.size+1]?=some (.cells #[c0,c1,c2] 79 (0,0))/\(s 4=true->c0=.int .i64 s0/\c1=.int .i64 s1/\c2=.int .i64 s2)/\(s 4=false->c0=.int .i64 0/\c1=.int .i64 0/\c2=.int .i64 0))/\(s 4=true->s 0=true/\True)/\True) ?x1hzero ⟨?x1hs0,?x1hs1,?x1hs2,?x1hs3,?x1hs4,?x1hs5,trivial⟩ ?x1hdone
 case x1hzero =>
  refine⟨a0.tmps.getD 30 undef,a0.tmps.getD 31 undef,a0.tmps.getD 32 undef,a0.tmps.getD 33 undef,a0.tmps.getD 5 undef,?_,?_,?_,?_,?_,trivial⟩
  · simp only[putL,put_self]
  · exact Lib.hid ⟨fun h=>(by simp at h),fun h=>(by simp at h),fun h=>(by simp at h),fun h=>(by simp at h),fun h=>(by simp at h),trivial⟩
  · exact BelX.start _ _
  · exact⟨.int .i64 0,.int .i64 0,.int .i64 0,pblk4,fun h=>(by simp at h),fun _=>⟨rfl,rfl,rfl⟩⟩
  · exact fun h=>(by simp at h)
 case x1hs0 =>
  intro s a' w' hsk hdep hI K hK;try dsimp only at hI hK
  obtain⟨v30,v31,v32,v33,v5,hact,hR,hX,hP4,hQ4,_⟩:=hI;subst hact;have HK:=Lib.hid hK;clear hK;have kc0:w'.cell? ⟨w.heap.size,0,none⟩=some (.int .i64 s0):=hX.cell (by first | (simp; done) | (simp; omega)) (by first | assumption | (go_simp; done) | (simp; done));have kc1:w'.cell? ⟨w.heap.size,1,none⟩=some (.int .i64 s1):=hX.cell (by first | (simp; done) | (simp; omega)) (by first | assumption | (go_simp; done) | (simp; done));have kc2:w'.cell? ⟨w.heap.size,2,none⟩=some (.int .i64 s2):=hX.cell (by first | (simp; done) | (simp; omega)) (by first | assumption | (go_simp; done) | (simp; done));obtain⟨b4_0,b4_1,b4_2,pb4,pt4,pf4⟩:=hP4;have hs0:s 4=false:=Bool.eq_false_iff.2 fun h=>(by have:=hQ4 h; simp[hsk]at this)
  obtain⟨q4_0,q4_1,q4_2⟩:=pf4 hs0;subst q4_0;subst q4_1;subst q4_2;clear hs0;have kp4_0:=cell_of_row w' (w.heap.size+1) 0 _ _ _ pb4;have kp4_1:=cell_of_row w' (w.heap.size+1) 1 _ _ _ pb4;have kp4_2:=cell_of_row w' (w.heap.size+1) 2 _ _ _ pb4;simp only[List.getElem?_toArray,List.getElem?_cons_zero,List.getElem?_cons_succ]at kp4_0 kp4_1 kp4_2;have kq4:∀o,w'.frozen? ⟨w.heap.size+1,o,none⟩=false:=fun o=>frozen_of_row w' _ o _ _ pb4;have hPB4:=Lib.hid pb4;clear pb4;have hPT4:=Lib.hid pt4;clear pt4;have hPF4:=Lib.hid pf4;clear pf4;clear hdep;refine StepG.mk rfl ?_; rw[ha0]; simp only[putL,Act.put,sA_,sZ_,sS_];go_wp2_with fail;refine HK.out _ _ ?_;refine⟨(.agg #[.int .i64 s0,.int .i64 s1,.int .i64 s2]),v31,v32,v33,v5,(by rw[ha0]; simp only[putL,Act.put,sA_,sZ_,sS_]),?_,?_,?_,?_,trivial⟩
  · obtain⟨h30,h31,h32,h33,h5,_⟩:=hR.out;exact Lib.hid ⟨fun _=>rfl,h31,h32,h33,h5,trivial⟩
  · exact hX
  · exact⟨_,_,_,hPB4.out,fun h=>hPT4.out (by simpa using h),fun h=>⟨rfl,rfl,rfl⟩⟩
  · exact fun h=>(by have h1:=hQ4 (by simpa using h); simp[h1])
 case x1hs1 =>
  intro s a' w' hsk hdep hI K hK;try dsimp only at hI hK
  obtain⟨v30,v31,v32,v33,v5,hact,hR,hX,hP4,hQ4,_⟩:=hI;subst hact;have HK:=Lib.hid hK;clear hK;obtain⟨b4_0,b4_1,b4_2,pb4,pt4,pf4⟩:=hP4;have kp4_0:=cell_of_row w' (w.heap.size+1) 0 _ _ _ pb4;have kp4_1:=cell_of_row w' (w.heap.size+1) 1 _ _ _ pb4;have kp4_2:=cell_of_row w' (w.heap.size+1) 2 _ _ _ pb4;simp only[List.getElem?_toArray,List.getElem?_cons_zero,List.getElem?_cons_succ]at kp4_0 kp4_1 kp4_2;have kq4:∀o,w'.frozen? ⟨w.heap.size+1,o,none⟩=false:=fun o=>frozen_of_row w' _ o _ _ pb4;have hPB4:=Lib.hid pb4;clear pb4;have hPT4:=Lib.hid pt4;clear pt4;have hPF4:=Lib.hid pf4;clear pf4;clear hdep;refine StepG.mk rfl ?_; rw[ha0]; simp only[putL,Act.put,sA_,sZ_,sS_];go_wp2_with fail;refine HK.out _ _ ?_;refine⟨v30,(.pointer (some ⟨w.heap.size,2,none⟩)),v32,v33,v5,(by rw[ha0]; simp only[putL,Act.put,sA_,sZ_,sS_]),?_,?_,?_,?_,trivial⟩
  · obtain⟨h30,h31,h32,h33,h5,_⟩:=hR.out;exact Lib.hid ⟨h30,fun _=>rfl,h32,h33,h5,trivial⟩
  · exact hX
  · exact⟨_,_,_,hPB4.out,fun h=>hPT4.out (by simpa using h),fun h=>(hPF4.out (by simpa using h))⟩
  · exact fun h=>(by have h1:=hQ4 (by simpa using h); simp[h1])
 case x1hs2 =>
  intro s a' w' hsk hdep hI K hK;try dsimp only at hI hK
  obtain⟨v30,v31,v32,v33,v5,hact,hR,hX,hP4,hQ4,_⟩:=hI;subst hact;have HK:=Lib.hid hK;clear hK;have e31:=hR.out.2.1 (hdep ⟨1,.data⟩ (by simp) rfl);subst e31;have kc0:w'.cell? ⟨w.heap.size,0,none⟩=some (.int .i64 s0):=hX.cell (by first | (simp; done) | (simp; omega)) (by first | assumption | (go_simp; done) | (simp; done));have kc1:w'.cell? ⟨w.heap.size,1,none⟩=some (.int .i64 s1):=hX.cell (by first | (simp; done) | (simp; omega)) (by first | assumption | (go_simp; done) | (simp; done));have kc2:w'.cell? ⟨w.heap.size,2,none⟩=some (.int .i64 s2):=hX.cell (by first | (simp; done) | (simp; omega)) (by first | assumption | (go_simp; done) | (simp; done));obtain⟨b4_0,b4_1,b4_2,pb4,pt4,pf4⟩:=hP4;have kp4_0:=cell_of_row w' (w.heap.size+1) 0 _ _ _ pb4;have kp4_1:=cell_of_row w' (w.heap.size+1) 1 _ _ _ pb4;have kp4_2:=cell_of_row w' (w.heap.size+1) 2 _ _ _ pb4;simp only[List.getElem?_toArray,List.getElem?_cons_zero,List.getElem?_cons_succ]at kp4_0 kp4_1 kp4_2;have kq4:∀o,w'.frozen? ⟨w.heap.size+1,o,none⟩=false:=fun o=>frozen_of_row w' _ o _ _ pb4;have hPB4:=Lib.hid pb4;clear pb4;have hPT4:=Lib.hid pt4;clear pt4;have hPF4:=Lib.hid pf4;clear pf4;clear hdep;refine StepG.mk rfl ?_; rw[ha0]; simp only[putL,Act.put,sA_,sZ_,sS_];go_wp2_with fail;refine HK.out _ _ ?_;refine⟨v30,(.pointer (some ⟨w.heap.size,2,none⟩)),(.int .i64 s2),v33,v5,(by rw[ha0]; simp only[putL,Act.put,sA_,sZ_,sS_]),?_,?_,?_,?_,trivial⟩
  · obtain⟨h30,h31,h32,h33,h5,_⟩:=hR.out;exact Lib.hid ⟨h30,fun _=>rfl,fun _=>rfl,h33,h5,trivial⟩
  · exact hX
  · exact⟨_,_,_,hPB4.out,fun h=>hPT4.out (by simpa using h),fun h=>(hPF4.out (by simpa using h))⟩
  · exact fun h=>(by have h1:=hQ4 (by simpa using h); simp[h1])
 case x1hs3 =>
  intro s a' w' hsk hdep hI K hK;try dsimp only at hI hK
  obtain⟨v30,v31,v32,v33,v5,hact,hR,hX,hP4,hQ4,_⟩:=hI;subst hact;have HK:=Lib.hid hK;clear hK;have e32:=hR.out.2.2.1 (hdep ⟨2,.data⟩ (by simp) rfl);subst e32;obtain⟨b4_0,b4_1,b4_2,pb4,pt4,pf4⟩:=hP4;have kp4_0:=cell_of_row w' (w.heap.size+1) 0 _ _ _ pb4;have kp4_1:=cell_of_row w' (w.heap.size+1) 1 _ _ _ pb4;have kp4_2:=cell_of_row w' (w.heap.size+1) 2 _ _ _ pb4;simp only[List.getElem?_toArray,List.getElem?_cons_zero,List.getElem?_cons_succ]at kp4_0 kp4_1 kp4_2;have kq4:∀o,w'.frozen? ⟨w.heap.size+1,o,none⟩=false:=fun o=>frozen_of_row w' _ o _ _ pb4;have hPB4:=Lib.hid pb4;clear pb4;have hPT4:=Lib.hid pt4;clear pt4;have hPF4:=Lib.hid pf4;clear pf4;clear hdep;refine StepG.mk rfl ?_; rw[ha0]; simp only[putL,Act.put,sA_,sZ_,sS_];go_wp2_with fail;refine HK.out _ _ ?_;refine⟨v30,v31,(.int .i64 s2),(.bool (decide (s2<=1000000000))),v5,(by rw[ha0]; simp only[putL,Act.put,sA_,sZ_,sS_]),?_,?_,?_,?_,trivial⟩
  · obtain⟨h30,h31,h32,h33,h5,_⟩:=hR.out;exact Lib.hid ⟨h30,h31,fun _=>rfl,fun _=>rfl,h5,trivial⟩
  · exact hX
  · exact⟨_,_,_,hPB4.out,fun h=>hPT4.out (by simpa using h),fun h=>(hPF4.out (by simpa using h))⟩
  · exact fun h=>(by have h1:=hQ4 (by simpa using h); simp[h1])
 case x1hs4 =>
  intro s a' w' hsk hdep hI K hK;try dsimp only at hI hK
  obtain⟨v30,v31,v32,v33,v5,hact,hR,hX,hP4,hQ4,_⟩:=hI;subst hact;have HK:=Lib.hid hK;clear hK;have e30:=hR.out.1 (hdep ⟨0,.data⟩ (by simp) rfl);subst e30;have kc0:w'.cell? ⟨w.heap.size,0,none⟩=some (.int .i64 s0):=hX.cell (by first | (simp; done) | (simp; omega)) (by first | assumption | (go_simp; done) | (simp; done));have kc1:w'.cell? ⟨w.heap.size,1,none⟩=some (.int .i64 s1):=hX.cell (by first | (simp; done) | (simp; omega)) (by first | assumption | (go_simp; done) | (simp; done));have kc2:w'.cell? ⟨w.heap.size,2,none⟩=some (.int .i64 s2):=hX.cell (by first | (simp; done) | (simp; omega)) (by first | assumption | (go_simp; done) | (simp; done));obtain⟨b4_0,b4_1,b4_2,pb4,pt4,pf4⟩:=hP4;have hs0:s 4=false:=hsk;obtain⟨q4_0,q4_1,q4_2⟩:=pf4 hs0;subst q4_0;subst q4_1;subst q4_2;clear hs0;have kp4_0:=cell_of_row w' (w.heap.size+1) 0 _ _ _ pb4;have kp4_1:=cell_of_row w' (w.heap.size+1) 1 _ _ _ pb4;have kp4_2:=cell_of_row w' (w.heap.size+1) 2 _ _ _ pb4;simp only[List.getElem?_toArray,List.getElem?_cons_zero,List.getElem?_cons_succ]at kp4_0 kp4_1 kp4_2;have kq4:∀o,w'.frozen? ⟨w.heap.size+1,o,none⟩=false:=fun o=>frozen_of_row w' _ o _ _ pb4;have hPB4:=Lib.hid pb4;clear pb4;have hPT4:=Lib.hid pt4;clear pt4;have hPF4:=Lib.hid pf4;clear pf4;have hd0:s 0=true:=hdep ⟨0,.data⟩ (by simp) rfl;clear hdep;refine StepG.mk rfl ?_; rw[ha0]; simp only[putL,Act.put,sA_,sZ_,sS_];go_wp2_with fail;refine HK.out _ _ ?_;refine⟨(.agg #[.int .i64 s0,.int .i64 s1,.int .i64 s2]),v31,v32,v33,v5,(by rw[ha0]; simp only[putL,Act.put,sA_,sZ_,sS_]),?_,?_,?_,?_,trivial⟩
  · obtain⟨h30,h31,h32,h33,h5,_⟩:=hR.out;exact Lib.hid ⟨fun _=>rfl,h31,h32,h33,h5,trivial⟩
  · exact(((hX.setOld (p:=⟨w.heap.size+1,0,none⟩) (by simp) _).setOld (p:=⟨w.heap.size+1,1,none⟩) (by simp) _).setOld (p:=⟨w.heap.size+1,2,none⟩) (by simp) _)
  · exact⟨_,_,_,blk_set3 hPB4.out,fun _=>⟨rfl,rfl,rfl⟩,fun h=>(by simp at h)⟩
  · exact fun _=>(by simp[hd0])
 case x1hs5 =>
  intro s a' w' hsk hdep hI K hK;try dsimp only at hI hK
  obtain⟨v30,v31,v32,v33,v5,hact,hR,hX,hP4,hQ4,_⟩:=hI;subst hact;have HK:=Lib.hid hK;clear hK;have e33:=hR.out.2.2.2.1 (hdep ⟨3,.data⟩ (by simp) rfl);subst e33;obtain⟨b4_0,b4_1,b4_2,pb4,pt4,pf4⟩:=hP4;have kp4_0:=cell_of_row w' (w.heap.size+1) 0 _ _ _ pb4;have kp4_1:=cell_of_row w' (w.heap.size+1) 1 _ _ _ pb4;have kp4_2:=cell_of_row w' (w.heap.size+1) 2 _ _ _ pb4;simp only[List.getElem?_toArray,List.getElem?_cons_zero,List.getElem?_cons_succ]at kp4_0 kp4_1 kp4_2;have kq4:∀o,w'.frozen? ⟨w.heap.size+1,o,none⟩=false:=fun o=>frozen_of_row w' _ o _ _ pb4;have hPB4:=Lib.hid pb4;clear pb4;have hPT4:=Lib.hid pt4;clear pt4;have hPF4:=Lib.hid pf4;clear pf4;clear hdep;refine StepG.mk rfl ?_; rw[ha0]; simp only[putL,Act.put,sA_,sZ_,sS_];go_wp2_with fail;refine HK.out _ _ ?_;refine⟨v30,v31,v32,(.bool (decide (s2<=1000000000))),(.bool (decide (s2<=1000000000))),(by rw[ha0]; simp only[putL,Act.put,sA_,sZ_,sS_]),?_,?_,?_,?_,trivial⟩
  · obtain⟨h30,h31,h32,h33,h5,_⟩:=hR.out;exact Lib.hid ⟨h30,h31,h32,fun _=>rfl,fun _=>rfl,trivial⟩
  · exact hX
  · exact⟨_,_,_,hPB4.out,fun h=>hPT4.out (by simpa using h),fun h=>(hPF4.out (by simpa using h))⟩
  · exact fun h=>(by have h1:=hQ4 (by simpa using h); simp[h1])
 intro s a' w4 hall hI;try dsimp only at hI
 obtain⟨v30,v31,v32,v33,v5,hact,hR,hXR,hP4,hQ4,_⟩:=hI;subst hact;obtain⟨h30,h31,h32,h33,h5,_⟩:=hR.out;clear hR;have e30:=h30 (hall 0 (by decide));subst e30;clear h30;have e31:=h31 (hall 1 (by decide));subst e31;clear h31;have e32:=h32 (hall 2 (by decide));subst e32;clear h32;have e33:=h33 (hall 3 (by decide));subst e33;clear h33;have e5:=h5 (hall 5 (by decide));subst e5;clear h5;obtain⟨c0,c1,c2,pblkR4,hpt,_⟩:=hP4;clear hQ4;obtain⟨es0,es1,es2⟩:=hpt (hall 4 (by decide));subst es0;subst es1;subst es2;clear hpt;try clear pblk4
 have pblk4:=pblkR4;clear pblkR4;clear hall;rw[ha0]; simp only[putL,Act.put,sA_,sZ_,sS_];clear ha0;have B4:Below w.heap.size w w4:=hXR.below B3 (by have:=blk_lt hB3; omega) (by simp);have d0:w4.cell? ⟨w.heap.size+1,0,none⟩=some (.int .i64 s0):=cell_of_row w4 _ 0 _ _ _ pblk4;have d1:w4.cell? ⟨w.heap.size+1,1,none⟩=some (.int .i64 s1):=cell_of_row w4 _ 1 _ _ _ pblk4;have d2:w4.cell? ⟨w.heap.size+1,2,none⟩=some (.int .i64 s2):=cell_of_row w4 _ 2 _ _ _ pblk4;clear hXR pblk4 e0 e1 e2;go_wp2_with fail;exact bodyPost_ret (v:=.tuple #[.agg #[.int .i64 s0,.int .i64 s1,.int .i64 s2],.bool (decide (s2<=1000000000))]) (by simp[results,Tryz.results57,go_sem, *]) rfl ⟨rfl,B4⟩
theorem exch1 {a b c s0 s1 s2:Int} (w:World) (ha:0<=a/\a<=1000000000) (hb:0<=b/\b<=1000000000) (hc:0<=c/\c<=1000000000) (hm:0<=3 * c * a/\3 * c * a<=4000000000000000000) (hp : [a,3 * c * a-b,c].Perm [s0,s1,s2]) (h1:s0<=s1) (h2:s1<=s2) :
  Calls Tryz.prog 57 #[.agg #[.int .i64 a,.int .i64 b,.int .i64 c],.int .i64 1] w fun e w'=>e=.returned (.tuple #[.agg #[.int .i64 s0,.int .i64 s1,.int .i64 s2],.bool (decide (s2<=1000000000))])/\Below w.heap.size w w':=by
 have hu:=ha;have hv:=hb;have hx:=hc;clear hu hv hx;go_enter Tryz.func57,Tryz.ntmps57;go_upto_region 1 with fail;obtain⟨W0,h0⟩:∃W0,W0=((w.alloc (.cells #[.int .i64 a,.int .i64 b,.int .i64 c] 79)).alloc (.cells #[.int .i64 0,.int .i64 0,.int .i64 0] 79)):=⟨_,rfl⟩
 rw[<-h0];have hA:W0.heap[w.heap.size]?=some (.cells #[.int .i64 a,.int .i64 b,.int .i64 c] 79 (0,0)):=by rw[h0]; exact blk_old (blk_new _ _)
 have hB:W0.heap[w.heap.size+1]?=some (.cells #[.int .i64 0,.int .i64 0,.int .i64 0] 79 (0,0)):=by rw[h0]; exact blk_new' _ _ (by simp)
 have B0:Below w.heap.size w W0:=by rw[h0]; exact(by repeat (first | exact Below.refl _ _ | exact Nat.le_refl _ | refine Below.alloc ?_ ?_ _ | refine Below.setCell ?_ ?_ _ | refine Below.drew ?_ | refine bl_drewN ?_ _ | (assumption) | refine bl_call ?_ (by assumption) ?_ | omega | (simp <;> omega)))
 have hsz:W0.heap.size=w.heap.size+2:=by rw[h0]; simp
 clear h0;have k0:W0.cell? ⟨w.heap.size,0,none⟩=some (.int .i64 a):=cell_of_row W0 _ 0 _ _ _ hA;have k1:W0.cell? ⟨w.heap.size,1,none⟩=some (.int .i64 b):=cell_of_row W0 _ 1 _ _ _ hA;have k2:W0.cell? ⟨w.heap.size,2,none⟩=some (.int .i64 c):=cell_of_row W0 _ 2 _ _ _ hA;have HA:=Lib.hid hA;have HB:=Lib.hid hB;have HP:=Lib.hid hp;clear hA hB hp;refine with_act fun a0 ha0=>?_;have hsz0:a0.tmps.size=34:=by rw[ha0]; rfl
 refine wp_region_vals (W0:=W0) (by kernel_rfl) (by kernel_rfl) [(8,.int .i64 1),(9,.int .i64 2),(10,.int .i64 2),(11,.pointer (some ⟨w.heap.size,2,none⟩)),(12,.int .i64 c),(13,.int .i64 1),(14,.int .i64 3),(15,.int .i64 0),(16,.pointer (some ⟨w.heap.size,0,none⟩)),(17,.int .i64 a),(6,.int .i64 c),(7,.int .i64 a)] rfl (by show([8,9,10,11,12,13,14,15,16,17,6,7]:List Nat).Nodup; decide) _ hsz0 (by kernel_rfl) (BelX.start _ _) ⟨⟨rfl,?y5v0⟩,⟨rfl,?y5v1⟩,⟨rfl,?y5v2⟩,⟨rfl,?y5v3⟩,⟨rfl,?y5v4⟩,⟨rfl,?y5v5⟩,⟨rfl,?y5v6⟩,⟨rfl,?y5v7⟩,⟨rfl,?y5v8⟩,⟨rfl,?y5v9⟩,⟨rfl,?y5v10⟩,⟨rfl,?y5v11⟩,trivial⟩ ?y5done
 case y5v0 =>
  exact mvVi rfl rfl rfl (by kernel_rfl) (by rw[ha0]; rfl)
 case y5v1 =>
  intro a' w' hA hdep hX K hK;obtain⟨r8,q8⟩:=dpv hdep ⟨0,.data⟩ (by simp) rfl rfl;clear hdep ha0 hA;refine StepG.value (wanted_none rfl) rfl ?_ (hK _ hX)
  (simp[go_sem, *] <;> decide)
 case y5v2 =>
  intro a' w' hA hdep hX K hK;obtain⟨r9,q9⟩:=dpv hdep ⟨1,.data⟩ (by simp) rfl rfl;clear hdep ha0 hA;refine StepG.value (wanted_none rfl) rfl ?_ (hK _ hX)
  (simp[go_sem, *] <;> decide)
 case y5v3 =>
  intro a' w' hA hdep hX K hK;obtain⟨r10,q10⟩:=dpv hdep ⟨2,.data⟩ (by simp) rfl rfl;obtain⟨r2,q2⟩:=dpi hA 2 (.pointer (some ⟨w.heap.size,0,none⟩)) (by kernel_rfl) (by rw[ha0]; rfl);clear hdep ha0 hA;refine StepG.value (wanted_none rfl) rfl ?_ (hK _ hX)
  (simp[go_sem, *] <;> decide)
 case y5v4 =>
  intro a' w' hA hdep hX K hK;obtain⟨r11,q11⟩:=dpv hdep ⟨3,.data⟩ (by simp) rfl rfl;have kc0:w'.cell? ⟨w.heap.size,0,none⟩=some (.int .i64 a):=hX.cell (by simp) (by first | assumption | (go_simp; done) | (simp; done));have kc1:w'.cell? ⟨w.heap.size,1,none⟩=some (.int .i64 b):=hX.cell (by simp) (by first | assumption | (go_simp; done) | (simp; done));have kc2:w'.cell? ⟨w.heap.size,2,none⟩=some (.int .i64 c):=hX.cell (by simp) (by first | assumption | (go_simp; done) | (simp; done));clear hdep ha0 hA;refine StepG.value (wanted_none rfl) rfl ?_ (hK _ hX)
  (simp[go_sem, *] <;> decide)
 case y5v5 =>
  exact mvVi rfl rfl rfl (by kernel_rfl) (by rw[ha0]; rfl)
 case y5v6 =>
  intro a' w' hA hdep hX K hK;obtain⟨r13,q13⟩:=dpv hdep ⟨5,.data⟩ (by simp) rfl rfl;clear hdep ha0 hA;refine StepG.value (wanted_none rfl) rfl ?_ (hK _ hX)
  (simp[go_sem, *] <;> decide)
 case y5v7 =>
  intro a' w' hA hdep hX K hK;obtain⟨r14,q14⟩:=dpv hdep ⟨6,.data⟩ (by simp) rfl rfl;clear hdep ha0 hA;refine StepG.value (wanted_none rfl) rfl ?_ (hK _ hX)
  (simp[go_sem, *] <;> decide)
 case y5v8 =>
  intro a' w' hA hdep hX K hK;obtain⟨r15,q15⟩:=dpv hdep ⟨7,.data⟩ (by simp) rfl rfl;obtain⟨r2,q2⟩:=dpi hA 2 (.pointer (some ⟨w.heap.size,0,none⟩)) (by kernel_rfl) (by rw[ha0]; rfl);clear hdep ha0 hA;refine StepG.value (wanted_none rfl) rfl ?_ (hK _ hX)
  (simp[go_sem, *] <;> decide)
 case y5v9 =>
  intro a' w' hA hdep hX K hK;obtain⟨r16,q16⟩:=dpv hdep ⟨8,.data⟩ (by simp) rfl rfl;have kc0:w'.cell? ⟨w.heap.size,0,none⟩=some (.int .i64 a):=hX.cell (by simp) (by first | assumption | (go_simp; done) | (simp; done));have kc1:w'.cell? ⟨w.heap.size,1,none⟩=some (.int .i64 b):=hX.cell (by simp) (by first | assumption | (go_simp; done) | (simp; done));have kc2:w'.cell? ⟨w.heap.size,2,none⟩=some (.int .i64 c):=hX.cell (by simp) (by first | assumption | (go_simp; done) | (simp; done));clear hdep ha0 hA;refine StepG.value (wanted_none rfl) rfl ?_ (hK _ hX)
  (simp[go_sem, *] <;> decide)
 case y5v10 =>
  intro a' w' hA hdep hX K hK;obtain⟨r12,q12⟩:=dpv hdep ⟨4,.data⟩ (by simp) rfl rfl;clear hdep ha0 hA;refine StepG.value (wanted_none rfl) rfl ?_ (hK _ hX)
  (simp[go_sem, *] <;> decide)
 case y5v11 =>
  intro a' w' hA hdep hX K hK;obtain⟨r17,q17⟩:=dpv hdep ⟨9,.data⟩ (by simp) rfl rfl;clear hdep ha0 hA;refine StepG.value (wanted_none rfl) rfl ?_ (hK _ hX)
  (simp[go_sem, *] <;> decide)
 intro w1 hXR;rw[ha0]; simp only[putL,Act.put,sA_,sZ_,sS_];clear ha0 hsz0;have B1:Below w.heap.size w w1:=hXR.below B0 (by omega) (by simp);have hA1:=(hXR.block _ (blk_lt HA.out) (by simp)).trans HA.out;have hB1:=(hXR.block _ (blk_lt HB.out) (by simp)).trans HB.out;have hs1:=hXR.size;have c0:w1.cell? ⟨w.heap.size,0,none⟩=some (.int .i64 a):=cell_of_row w1 _ 0 _ _ _ hA1;have c1:w1.cell? ⟨w.heap.size,1,none⟩=some (.int .i64 b):=cell_of_row w1 _ 1 _ _ _ hA1;have c2:w1.cell? ⟨w.heap.size,2,none⟩=some (.int .i64 c):=cell_of_row w1 _ 2 _ _ _ hA1;have fA:=row_f hA1;have HA1:=Lib.hid hA1;have HB1:=Lib.hid hB1;clear hXR k0 k1 k2 HA HB hA1 hB1;go_upto_region 3 with fail;obtain⟨W2,h0⟩:∃W2,W2=w1.setCell ⟨w.heap.size,1,none⟩ (.int .i64 (3 * c * a-b)):=⟨_,rfl⟩
 rw[<-h0];have hA2:W2.heap[w.heap.size]?=some (.cells #[.int .i64 a,.int .i64 (3 * c * a-b),.int .i64 c] 79 (0,0)):=by rw[h0,blk_setI 1 _ HA1.out]; rfl
 have hB2:W2.heap[w.heap.size+1]?=some (.cells #[.int .i64 0,.int .i64 0,.int .i64 0] 79 (0,0)):=by rw[h0]; exact blk_farI 1 _ (by omega) HB1.out
 have B2:Below w.heap.size w W2:=by rw[h0]; exact(by repeat (first | exact Below.refl _ _ | exact Nat.le_refl _ | refine Below.alloc ?_ ?_ _ | refine Below.setCell ?_ ?_ _ | refine Below.drew ?_ | refine bl_drewN ?_ _ | (assumption) | refine bl_call ?_ (by assumption) ?_ | omega | (simp <;> omega)))
 have HB2:=Lib.hid hB2;have HA2:=Lib.hid hA2;clear h0 HA1 HB1 c0 c1 c2 fA hA2 hB2;go_upto_region 4 with (go_at_call 84; refine(sort3 HA2.out HP.out h1 h2).mono ?_; rintro e w3 ⟨rfl,hA3,hX3⟩)
 have hB3:=(hX3.block _ (blk_lt HB2.out) (by simp)).trans HB2.out;have B3:Below w.heap.size w w3:=hX3.below B2 (by have:=blk_lt HA2.out; omega) (by simp);have e0:w3.cell? ⟨w.heap.size,0,none⟩=some (.int .i64 s0):=cell_of_row w3 _ 0 _ _ _ hA3;have e1:w3.cell? ⟨w.heap.size,1,none⟩=some (.int .i64 s1):=cell_of_row w3 _ 1 _ _ _ hA3;have e2:w3.cell? ⟨w.heap.size,2,none⟩=some (.int .i64 s2):=cell_of_row w3 _ 2 _ _ _ hA3;clear hX3 hA3 HA2 HB2 HP;have pblk4:w3.heap[w.heap.size+1]?=some (.cells #[.int .i64 0,.int .i64 0,.int .i64 0] 79 (0,0)):=by first | assumption | exact hblk4
 refine with_act fun a0 ha0=>?_;refine wp_region_inv (by kernel_rfl) (by kernel_rfl) (fun s a' w'=>∃v30 v31 v32 v33 v5:Value,a'=putL a0 [(30,v30),(31,v31),(32,v32),(33,v33),(5,v5)]/\Hid ((s 0=true->v30=.agg #[.int .i64 s0,.int .i64 s1,.int .i64 s2])/\(s 1=true->v31=.pointer (some ⟨w.heap.size,2,none⟩))/\(s 2=true->v32=.int .i64 s2)/\(s 3=true->v33=.bool (decide (s2<=1000000000)))/\(s 5=true->v5=.bool (decide (s2<=1000000000)))/\True)/\BelX [w.heap.size+1] w3 w'/\(∃(c0 c1 c2:Value),w'.heap[w.heap.size+1]?=some (.cells #[c0,c1,c2] 79 (0,0))/\(s 4=true->c0=.int .i64 s0/\c1=.int .i64 s1/\c2=.int .i64 s2)/\(s 4=false->c0=.int .i64 0/\c1=.int .i64 0/\c2=.int .i64 0))/\(s 4=true->s 0=true/\True)/\True) ?x2hzero ⟨?x2hs0,?x2hs1,?x2hs2,?x2hs3,?x2hs4,?x2hs5,trivial⟩ ?x2hdone
 case x2hzero =>
  refine⟨a0.tmps.getD 30 undef,a0.tmps.getD 31 undef,a0.tmps.getD 32 undef,a0.tmps.getD 33 undef,a0.tmps.getD 5 undef,?_,?_,?_,?_,?_,trivial⟩
  · simp only[putL,put_self]
  · exact Lib.hid ⟨fun h=>(by simp at h),fun h=>(by simp at h),fun h=>(by simp at h),fun h=>(by simp at h),fun h=>(by simp at h),trivial⟩
  · exact BelX.start _ _
  · exact⟨.int .i64 0,.int .i64 0,.int .i64 0,pblk4,fun h=>(by simp at h),fun _=>⟨rfl,rfl,rfl⟩⟩
  · exact fun h=>(by simp at h)
 case x2hs0 =>
  intro s a' w' hsk hdep hI K hK;try dsimp only at hI hK
  obtain⟨v30,v31,v32,v33,v5,hact,hR,hX,hP4,hQ4,_⟩:=hI;subst hact;have HK:=Lib.hid hK;clear hK;have kc0:w'.cell? ⟨w.heap.size,0,none⟩=some (.int .i64 s0):=hX.cell (by first | (simp; done) | (simp; omega)) (by first | assumption | (go_simp; done) | (simp; done));have kc1:w'.cell? ⟨w.heap.size,1,none⟩=some (.int .i64 s1):=hX.cell (by first | (simp; done) | (simp; omega)) (by first | assumption | (go_simp; done) | (simp; done));have kc2:w'.cell? ⟨w.heap.size,2,none⟩=some (.int .i64 s2):=hX.cell (by first | (simp; done) | (simp; omega)) (by first | assumption | (go_simp; done) | (simp; done));obtain⟨b4_0,b4_1,b4_2,pb4,pt4,pf4⟩:=hP4;have hs0:s 4=false:=Bool.eq_false_iff.2 fun h=>(by have:=hQ4 h; simp[hsk]at this)
  obtain⟨q4_0,q4_1,q4_2⟩:=pf4 hs0;subst q4_0;subst q4_1;subst q4_2;clear hs0;have kp4_0:=cell_of_row w' (w.heap.size+1) 0 _ _ _ pb4;have kp4_1:=cell_of_row w' (w.heap.size+1) 1 _ _ _ pb4;have kp4_2:=cell_of_row w' (w.heap.size+1) 2 _ _ _ pb4;simp only[List.getElem?_toArray,List.getElem?_cons_zero,List.getElem?_cons_succ]at kp4_0 kp4_1 kp4_2;have kq4:∀o,w'.frozen? ⟨w.heap.size+1,o,none⟩=false:=fun o=>frozen_of_row w' _ o _ _ pb4;have hPB4:=Lib.hid pb4;clear pb4;have hPT4:=Lib.hid pt4;clear pt4;have hPF4:=Lib.hid pf4;clear pf4;clear hdep;refine StepG.mk rfl ?_; rw[ha0]; simp only[putL,Act.put,sA_,sZ_,sS_];go_wp2_with fail;refine HK.out _ _ ?_;refine⟨(.agg #[.int .i64 s0,.int .i64 s1,.int .i64 s2]),v31,v32,v33,v5,(by rw[ha0]; simp only[putL,Act.put,sA_,sZ_,sS_]),?_,?_,?_,?_,trivial⟩
  · obtain⟨h30,h31,h32,h33,h5,_⟩:=hR.out;exact Lib.hid ⟨fun _=>rfl,h31,h32,h33,h5,trivial⟩
  · exact hX
  · exact⟨_,_,_,hPB4.out,fun h=>hPT4.out (by simpa using h),fun h=>⟨rfl,rfl,rfl⟩⟩
  · exact fun h=>(by have h1:=hQ4 (by simpa using h); simp[h1])
 case x2hs1 =>
  intro s a' w' hsk hdep hI K hK;try dsimp only at hI hK
  obtain⟨v30,v31,v32,v33,v5,hact,hR,hX,hP4,hQ4,_⟩:=hI;subst hact;have HK:=Lib.hid hK;clear hK;obtain⟨b4_0,b4_1,b4_2,pb4,pt4,pf4⟩:=hP4;have kp4_0:=cell_of_row w' (w.heap.size+1) 0 _ _ _ pb4;have kp4_1:=cell_of_row w' (w.heap.size+1) 1 _ _ _ pb4;have kp4_2:=cell_of_row w' (w.heap.size+1) 2 _ _ _ pb4;simp only[List.getElem?_toArray,List.getElem?_cons_zero,List.getElem?_cons_succ]at kp4_0 kp4_1 kp4_2;have kq4:∀o,w'.frozen? ⟨w.heap.size+1,o,none⟩=false:=fun o=>frozen_of_row w' _ o _ _ pb4;have hPB4:=Lib.hid pb4;clear pb4;have hPT4:=Lib.hid pt4;clear pt4;have hPF4:=Lib.hid pf4;clear pf4;clear hdep;refine StepG.mk rfl ?_; rw[ha0]; simp only[putL,Act.put,sA_,sZ_,sS_];go_wp2_with fail;refine HK.out _ _ ?_;refine⟨v30,(.pointer (some ⟨w.heap.size,2,none⟩)),v32,v33,v5,(by rw[ha0]; simp only[putL,Act.put,sA_,sZ_,sS_]),?_,?_,?_,?_,trivial⟩
  · obtain⟨h30,h31,h32,h33,h5,_⟩:=hR.out;exact Lib.hid ⟨h30,fun _=>rfl,h32,h33,h5,trivial⟩
  · exact hX
  · exact⟨_,_,_,hPB4.out,fun h=>hPT4.out (by simpa using h),fun h=>(hPF4.out (by simpa using h))⟩
  · exact fun h=>(by have h1:=hQ4 (by simpa using h); simp[h1])
 case x2hs2 =>
  intro s a' w' hsk hdep hI K hK;try dsimp only at hI hK
  obtain⟨v30,v31,v32,v33,v5,hact,hR,hX,hP4,hQ4,_⟩:=hI;subst hact;have HK:=Lib.hid hK;clear hK;have e31:=hR.out.2.1 (hdep ⟨1,.data⟩ (by simp) rfl);subst e31;have kc0:w'.cell? ⟨w.heap.size,0,none⟩=some (.int .i64 s0):=hX.cell (by first | (simp; done) | (simp; omega)) (by first | assumption | (go_simp; done) | (simp; done));have kc1:w'.cell? ⟨w.heap.size,1,none⟩=some (.int .i64 s1):=hX.cell (by first | (simp; done) | (simp; omega)) (by first | assumption | (go_simp; done) | (simp; done));have kc2:w'.cell? ⟨w.heap.size,2,none⟩=some (.int .i64 s2):=hX.cell (by first | (simp; done) | (simp; omega)) (by first | assumption | (go_simp; done) | (simp; done));obtain⟨b4_0,b4_1,b4_2,pb4,pt4,pf4⟩:=hP4;have kp4_0:=cell_of_row w' (w.heap.size+1) 0 _ _ _ pb4;have kp4_1:=cell_of_row w' (w.heap.size+1) 1 _ _ _ pb4;have kp4_2:=cell_of_row w' (w.heap.size+1) 2 _ _ _ pb4;simp only[List.getElem?_toArray,List.getElem?_cons_zero,List.getElem?_cons_succ]at kp4_0 kp4_1 kp4_2;have kq4:∀o,w'.frozen? ⟨w.heap.size+1,o,none⟩=false:=fun o=>frozen_of_row w' _ o _ _ pb4;have hPB4:=Lib.hid pb4;clear pb4;have hPT4:=Lib.hid pt4;clear pt4;have hPF4:=Lib.hid pf4;clear pf4;clear hdep;refine StepG.mk rfl ?_; rw[ha0]; simp only[putL,Act.put,sA_,sZ_,sS_];go_wp2_with fail;refine HK.out _ _ ?_;refine⟨v30,(.pointer (some ⟨w.heap.size,2,none⟩)),(.int .i64 s2),v33,v5,(by rw[ha0]; simp only[putL,Act.put,sA_,sZ_,sS_]),?_,?_,?_,?_,trivial⟩
  · obtain⟨h30,h31,h32,h33,h5,_⟩:=hR.out;exact Lib.hid ⟨h30,fun _=>rfl,fun _=>rfl,h33,h5,trivial⟩
  · exact hX
  · exact⟨_,_,_,hPB4.out,fun h=>hPT4.out (by simpa using h),fun h=>(hPF4.out (by simpa using h))⟩
  · exact fun h=>(by have h1:=hQ4 (by simpa using h); simp[h1])
 case x2hs3 =>
  intro s a' w' hsk hdep hI K hK;try dsimp only at hI hK
  obtain⟨v30,v31,v32,v33,v5,hact,hR,hX,hP4,hQ4,_⟩:=hI;subst hact;have HK:=Lib.hid hK;clear hK;have e32:=hR.out.2.2.1 (hdep ⟨2,.data⟩ (by simp) rfl);subst e32;obtain⟨b4_0,b4_1,b4_2,pb4,pt4,pf4⟩:=hP4;have kp4_0:=cell_of_row w' (w.heap.size+1) 0 _ _ _ pb4;have kp4_1:=cell_of_row w' (w.heap.size+1) 1 _ _ _ pb4;have kp4_2:=cell_of_row w' (w.heap.size+1) 2 _ _ _ pb4;simp only[List.getElem?_toArray,List.getElem?_cons_zero,List.getElem?_cons_succ]at kp4_0 kp4_1 kp4_2;have kq4:∀o,w'.frozen? ⟨w.heap.size+1,o,none⟩=false:=fun o=>frozen_of_row w' _ o _ _ pb4;have hPB4:=Lib.hid pb4;clear pb4;have hPT4:=Lib.hid pt4;clear pt4;have hPF4:=Lib.hid pf4;clear pf4;clear hdep;refine StepG.mk rfl ?_; rw[ha0]; simp only[putL,Act.put,sA_,sZ_,sS_];go_wp2_with fail;refine HK.out _ _ ?_;refine⟨v30,v31,(.int .i64 s2),(.bool (decide (s2<=1000000000))),v5,(by rw[ha0]; simp only[putL,Act.put,sA_,sZ_,sS_]),?_,?_,?_,?_,trivial⟩
  · obtain⟨h30,h31,h32,h33,h5,_⟩:=hR.out;exact Lib.hid ⟨h30,h31,fun _=>rfl,fun _=>rfl,h5,trivial⟩
  · exact hX
  · exact⟨_,_,_,hPB4.out,fun h=>hPT4.out (by simpa using h),fun h=>(hPF4.out (by simpa using h))⟩
  · exact fun h=>(by have h1:=hQ4 (by simpa using h); simp[h1])
 case x2hs4 =>
  intro s a' w' hsk hdep hI K hK;try dsimp only at hI hK
  obtain⟨v30,v31,v32,v33,v5,hact,hR,hX,hP4,hQ4,_⟩:=hI;subst hact;have HK:=Lib.hid hK;clear hK;have e30:=hR.out.1 (hdep ⟨0,.data⟩ (by simp) rfl);subst e30;have kc0:w'.cell? ⟨w.heap.size,0,none⟩=some (.int .i64 s0):=hX.cell (by first | (simp; done) | (simp; omega)) (by first | assumption | (go_simp; done) | (simp; done));have kc1:w'.cell? ⟨w.heap.size,1,none⟩=some (.int .i64 s1):=hX.cell (by first | (simp; done) | (simp; omega)) (by first | assumption | (go_simp; done) | (simp; done));have kc2:w'.cell? ⟨w.heap.size,2,none⟩=some (.int .i64 s2):=hX.cell (by first | (simp; done) | (simp; omega)) (by first | assumption | (go_simp; done) | (simp; done));obtain⟨b4_0,b4_1,b4_2,pb4,pt4,pf4⟩:=hP4;have hs0:s 4=false:=hsk;obtain⟨q4_0,q4_1,q4_2⟩:=pf4 hs0;subst q4_0;subst q4_1;subst q4_2;clear hs0;have kp4_0:=cell_of_row w' (w.heap.size+1) 0 _ _ _ pb4;have kp4_1:=cell_of_row w' (w.heap.size+1) 1 _ _ _ pb4;have kp4_2:=cell_of_row w' (w.heap.size+1) 2 _ _ _ pb4;simp only[List.getElem?_toArray,List.getElem?_cons_zero,List.getElem?_cons_succ]at kp4_0 kp4_1 kp4_2;have kq4:∀o,w'.frozen? ⟨w.heap.size+1,o,none⟩=false:=fun o=>frozen_of_row w' _ o _ _ pb4;have hPB4:=Lib.hid pb4;clear pb4;have hPT4:=Lib.hid pt4;clear pt4;have hPF4:=Lib.hid pf4;clear pf4;have hd0:s 0=true:=hdep ⟨0,.data⟩ (by simp) rfl;clear hdep;refine StepG.mk rfl ?_; rw[ha0]; simp only[putL,Act.put,sA_,sZ_,sS_];go_wp2_with fail;refine HK.out _ _ ?_;refine⟨(.agg #[.int .i64 s0,.int .i64 s1,.int .i64 s2]),v31,v32,v33,v5,(by rw[ha0]; simp only[putL,Act.put,sA_,sZ_,sS_]),?_,?_,?_,?_,trivial⟩
  · obtain⟨h30,h31,h32,h33,h5,_⟩:=hR.out;exact Lib.hid ⟨fun _=>rfl,h31,h32,h33,h5,trivial⟩
  · exact(((hX.setOld (p:=⟨w.heap.size+1,0,none⟩) (by simp) _).setOld (p:=⟨w.heap.size+1,1,none⟩) (by simp) _).setOld (p:=⟨w.heap.size+1,2,none⟩) (by simp) _)
  · exact⟨_,_,_,blk_set3 hPB4.out,fun _=>⟨rfl,rfl,rfl⟩,fun h=>(by simp at h)⟩
  · exact fun _=>(by simp[hd0])
 case x2hs5 =>
  intro s a' w' hsk hdep hI K hK;try dsimp only at hI hK
  obtain⟨v30,v31,v32,v33,v5,hact,hR,hX,hP4,hQ4,_⟩:=hI;subst hact;have HK:=Lib.hid hK;clear hK;have e33:=hR.out.2.2.2.1 (hdep ⟨3,.data⟩ (by simp) rfl);subst e33;obtain⟨b4_0,b4_1,b4_2,pb4,pt4,pf4⟩:=hP4;have kp4_0:=cell_of_row w' (w.heap.size+1) 0 _ _ _ pb4;have kp4_1:=cell_of_row w' (w.heap.size+1) 1 _ _ _ pb4;have kp4_2:=cell_of_row w' (w.heap.size+1) 2 _ _ _ pb4;simp only[List.getElem?_toArray,List.getElem?_cons_zero,List.getElem?_cons_succ]at kp4_0 kp4_1 kp4_2;have kq4:∀o,w'.frozen? ⟨w.heap.size+1,o,none⟩=false:=fun o=>frozen_of_row w' _ o _ _ pb4;have hPB4:=Lib.hid pb4;clear pb4;have hPT4:=Lib.hid pt4;clear pt4;have hPF4:=Lib.hid pf4;clear pf4;clear hdep;refine StepG.mk rfl ?_; rw[ha0]; simp only[putL,Act.put,sA_,sZ_,sS_];go_wp2_with fail;refine HK.out _ _ ?_;refine⟨v30,v31,v32,(.bool (decide (s2<=1000000000))),(.bool (decide (s2<=1000000000))),(by rw[ha0]; simp only[putL,Act.put,sA_,sZ_,sS_]),?_,?_,?_,?_,trivial⟩
  · obtain⟨h30,h31,h32,h33,h5,_⟩:=hR.out;exact Lib.hid ⟨h30,h31,h32,fun _=>rfl,fun _=>rfl,trivial⟩
  · exact hX
  · exact⟨_,_,_,hPB4.out,fun h=>hPT4.out (by simpa using h),fun h=>(hPF4.out (by simpa using h))⟩
  · exact fun h=>(by have h1:=hQ4 (by simpa using h); simp[h1])
 intro s a' w4 hall hI;try dsimp only at hI
 obtain⟨v30,v31,v32,v33,v5,hact,hR,hXR,hP4,hQ4,_⟩:=hI;subst hact;obtain⟨h30,h31,h32,h33,h5,_⟩:=hR.out;clear hR;have e30:=h30 (hall 0 (by decide));subst e30;clear h30;have e31:=h31 (hall 1 (by decide));subst e31;clear h31;have e32:=h32 (hall 2 (by decide));subst e32;clear h32;have e33:=h33 (hall 3 (by decide));subst e33;clear h33;have e5:=h5 (hall 5 (by decide));subst e5;clear h5;obtain⟨c0,c1,c2,pblkR4,hpt,_⟩:=hP4;clear hQ4;obtain⟨es0,es1,es2⟩:=hpt (hall 4 (by decide));subst es0;subst es1;subst es2;clear hpt;try clear pblk4
 have pblk4:=pblkR4;clear pblkR4;clear hall;rw[ha0]; simp only[putL,Act.put,sA_,sZ_,sS_];clear ha0;have B4:Below w.heap.size w w4:=hXR.below B3 (by have:=blk_lt hB3; omega) (by simp);have d0:w4.cell? ⟨w.heap.size+1,0,none⟩=some (.int .i64 s0):=cell_of_row w4 _ 0 _ _ _ pblk4;have d1:w4.cell? ⟨w.heap.size+1,1,none⟩=some (.int .i64 s1):=cell_of_row w4 _ 1 _ _ _ pblk4;have d2:w4.cell? ⟨w.heap.size+1,2,none⟩=some (.int .i64 s2):=cell_of_row w4 _ 2 _ _ _ pblk4;clear hXR pblk4 e0 e1 e2;go_wp2_with fail;exact bodyPost_ret (v:=.tuple #[.agg #[.int .i64 s0,.int .i64 s1,.int .i64 s2],.bool (decide (s2<=1000000000))]) (by simp[results,Tryz.results57,go_sem, *]) rfl ⟨rfl,B4⟩
theorem exch2 {a b c s0 s1 s2:Int} (w:World) (ha:0<=a/\a<=1000000000) (hb:0<=b/\b<=1000000000) (hc:0<=c/\c<=1000000000) (hm:0<=3 * a * b/\3 * a * b<=4000000000000000000) (hp : [a,b,3 * a * b-c].Perm [s0,s1,s2]) (h1:s0<=s1) (h2:s1<=s2) :
  Calls Tryz.prog 57 #[.agg #[.int .i64 a,.int .i64 b,.int .i64 c],.int .i64 2] w fun e w'=>e=.returned (.tuple #[.agg #[.int .i64 s0,.int .i64 s1,.int .i64 s2],.bool (decide (s2<=1000000000))])/\Below w.heap.size w w':=by
 have hu:=ha;have hv:=hb;have hx:=hc;clear hu hv hx;go_enter Tryz.func57,Tryz.ntmps57;go_upto_region 1 with fail;obtain⟨W0,h0⟩:∃W0,W0=((w.alloc (.cells #[.int .i64 a,.int .i64 b,.int .i64 c] 79)).alloc (.cells #[.int .i64 0,.int .i64 0,.int .i64 0] 79)):=⟨_,rfl⟩
 rw[<-h0];have hA:W0.heap[w.heap.size]?=some (.cells #[.int .i64 a,.int .i64 b,.int .i64 c] 79 (0,0)):=by rw[h0]; exact blk_old (blk_new _ _)
 have hB:W0.heap[w.heap.size+1]?=some (.cells #[.int .i64 0,.int .i64 0,.int .i64 0] 79 (0,0)):=by rw[h0]; exact blk_new' _ _ (by simp)
 have B0:Below w.heap.size w W0:=by rw[h0]; exact(by repeat (first | exact Below.refl _ _ | exact Nat.le_refl _ | refine Below.alloc ?_ ?_ _ | refine Below.setCell ?_ ?_ _ | refine Below.drew ?_ | refine bl_drewN ?_ _ | (assumption) | refine bl_call ?_ (by assumption) ?_ | omega | (simp <;> omega)))
 have hsz:W0.heap.size=w.heap.size+2:=by rw[h0]; simp
 clear h0;have k0:W0.cell? ⟨w.heap.size,0,none⟩=some (.int .i64 a):=cell_of_row W0 _ 0 _ _ _ hA;have k1:W0.cell? ⟨w.heap.size,1,none⟩=some (.int .i64 b):=cell_of_row W0 _ 1 _ _ _ hA;have k2:W0.cell? ⟨w.heap.size,2,none⟩=some (.int .i64 c):=cell_of_row W0 _ 2 _ _ _ hA;have HA:=Lib.hid hA;have HB:=Lib.hid hB;have HP:=Lib.hid hp;clear hA hB hp;refine with_act fun a0 ha0=>?_;have hsz0:a0.tmps.size=34:=by rw[ha0]; rfl
 refine wp_region_vals (W0:=W0) (by kernel_rfl) (by kernel_rfl) [(8,.int .i64 2),(9,.int .i64 3),(10,.int .i64 0),(11,.pointer (some ⟨w.heap.size,0,none⟩)),(12,.int .i64 a),(13,.int .i64 2),(14,.int .i64 4),(15,.int .i64 1),(16,.pointer (some ⟨w.heap.size,1,none⟩)),(17,.int .i64 b),(6,.int .i64 a),(7,.int .i64 b)] rfl (by show([8,9,10,11,12,13,14,15,16,17,6,7]:List Nat).Nodup; decide) _ hsz0 (by kernel_rfl) (BelX.start _ _) ⟨⟨rfl,?y6v0⟩,⟨rfl,?y6v1⟩,⟨rfl,?y6v2⟩,⟨rfl,?y6v3⟩,⟨rfl,?y6v4⟩,⟨rfl,?y6v5⟩,⟨rfl,?y6v6⟩,⟨rfl,?y6v7⟩,⟨rfl,?y6v8⟩,⟨rfl,?y6v9⟩,⟨rfl,?y6v10⟩,⟨rfl,?y6v11⟩,trivial⟩ ?y6done
 case y6v0 =>
  exact mvVi rfl rfl rfl (by kernel_rfl) (by rw[ha0]; rfl)
 case y6v1 =>
  intro a' w' hA hdep hX K hK;obtain⟨r8,q8⟩:=dpv hdep ⟨0,.data⟩ (by simp) rfl rfl;clear hdep ha0 hA;refine StepG.value (wanted_none rfl) rfl ?_ (hK _ hX)
  (simp[go_sem, *] <;> decide)
 case y6v2 =>
  intro a' w' hA hdep hX K hK;obtain⟨r9,q9⟩:=dpv hdep ⟨1,.data⟩ (by simp) rfl rfl;clear hdep ha0 hA;refine StepG.value (wanted_none rfl) rfl ?_ (hK _ hX)
  (simp[go_sem, *] <;> decide)
 case y6v3 =>
  intro a' w' hA hdep hX K hK;obtain⟨r10,q10⟩:=dpv hdep ⟨2,.data⟩ (by simp) rfl rfl;obtain⟨r2,q2⟩:=dpi hA 2 (.pointer (some ⟨w.heap.size,0,none⟩)) (by kernel_rfl) (by rw[ha0]; rfl);clear hdep ha0 hA;refine StepG.value (wanted_none rfl) rfl ?_ (hK _ hX)
  (simp[go_sem, *] <;> decide)
 case y6v4 =>
  intro a' w' hA hdep hX K hK;obtain⟨r11,q11⟩:=dpv hdep ⟨3,.data⟩ (by simp) rfl rfl;have kc0:w'.cell? ⟨w.heap.size,0,none⟩=some (.int .i64 a):=hX.cell (by simp) (by first | assumption | (go_simp; done) | (simp; done));have kc1:w'.cell? ⟨w.heap.size,1,none⟩=some (.int .i64 b):=hX.cell (by simp) (by first | assumption | (go_simp; done) | (simp; done));have kc2:w'.cell? ⟨w.heap.size,2,none⟩=some (.int .i64 c):=hX.cell (by simp) (by first | assumption | (go_simp; done) | (simp; done));clear hdep ha0 hA;refine StepG.value (wanted_none rfl) rfl ?_ (hK _ hX)
  (simp[go_sem, *] <;> decide)
 case y6v5 =>
  exact mvVi rfl rfl rfl (by kernel_rfl) (by rw[ha0]; rfl)
 case y6v6 =>
  intro a' w' hA hdep hX K hK;obtain⟨r13,q13⟩:=dpv hdep ⟨5,.data⟩ (by simp) rfl rfl;clear hdep ha0 hA;refine StepG.value (wanted_none rfl) rfl ?_ (hK _ hX)
  (simp[go_sem, *] <;> decide)
 case y6v7 =>
  intro a' w' hA hdep hX K hK;obtain⟨r14,q14⟩:=dpv hdep ⟨6,.data⟩ (by simp) rfl rfl;clear hdep ha0 hA;refine StepG.value (wanted_none rfl) rfl ?_ (hK _ hX)
  (simp[go_sem, *] <;> decide)
 case y6v8 =>
  intro a' w' hA hdep hX K hK;obtain⟨r15,q15⟩:=dpv hdep ⟨7,.data⟩ (by simp) rfl rfl;obtain⟨r2,q2⟩:=dpi hA 2 (.pointer (some ⟨w.heap.size,0,none⟩)) (by kernel_rfl) (by rw[ha0]; rfl);clear hdep ha0 hA;refine StepG.value (wanted_none rfl) rfl ?_ (hK _ hX)
  (simp[go_sem, *] <;> decide)
 case y6v9 =>
  intro a' w' hA hdep hX K hK;obtain⟨r16,q16⟩:=dpv hdep ⟨8,.data⟩ (by simp) rfl rfl;have kc0:w'.cell? ⟨w.heap.size,0,none⟩=some (.int .i64 a):=hX.cell (by simp) (by first | assumption | (go_simp; done) | (simp; done));have kc1:w'.cell? ⟨w.heap.size,1,none⟩=some (.int .i64 b):=hX.cell (by simp) (by first | assumption | (go_simp; done) | (simp; done));have kc2:w'.cell? ⟨w.heap.size,2,none⟩=some (.int .i64 c):=hX.cell (by simp) (by first | assumption | (go_simp; done) | (simp; done));clear hdep ha0 hA;refine StepG.value (wanted_none rfl) rfl ?_ (hK _ hX)
  (simp[go_sem, *] <;> decide)
 case y6v10 =>
  intro a' w' hA hdep hX K hK;obtain⟨r12,q12⟩:=dpv hdep ⟨4,.data⟩ (by simp) rfl rfl;clear hdep ha0 hA;refine StepG.value (wanted_none rfl) rfl ?_ (hK _ hX)
  (simp[go_sem, *] <;> decide)
 case y6v11 =>
  intro a' w' hA hdep hX K hK;obtain⟨r17,q17⟩:=dpv hdep ⟨9,.data⟩ (by simp) rfl rfl;clear hdep ha0 hA;refine StepG.value (wanted_none rfl) rfl ?_ (hK _ hX)
  (simp[go_sem, *] <;> decide)
 intro w1 hXR;rw[ha0]; simp only[putL,Act.put,sA_,sZ_,sS_];clear ha0 hsz0;have B1:Below w.heap.size w w1:=hXR.below B0 (by omega) (by simp);have hA1:=(hXR.block _ (blk_lt HA.out) (by simp)).trans HA.out;have hB1:=(hXR.block _ (blk_lt HB.out) (by simp)).trans HB.out;have hs1:=hXR.size;have c0:w1.cell? ⟨w.heap.size,0,none⟩=some (.int .i64 a):=cell_of_row w1 _ 0 _ _ _ hA1;have c1:w1.cell? ⟨w.heap.size,1,none⟩=some (.int .i64 b):=cell_of_row w1 _ 1 _ _ _ hA1;have c2:w1.cell? ⟨w.heap.size,2,none⟩=some (.int .i64 c):=cell_of_row w1 _ 2 _ _ _ hA1;have fA:=row_f hA1;have HA1:=Lib.hid hA1;have HB1:=Lib.hid hB1;clear hXR k0 k1 k2 HA HB hA1 hB1;go_upto_region 3 with fail;obtain⟨W2,h0⟩:∃W2,W2=w1.setCell ⟨w.heap.size,2,none⟩ (.int .i64 (3 * a * b-c)):=⟨_,rfl⟩
 rw[<-h0];have hA2:W2.heap[w.heap.size]?=some (.cells #[.int .i64 a,.int .i64 b,.int .i64 (3 * a * b-c)] 79 (0,0)):=by rw[h0,blk_setI 2 _ HA1.out]; rfl
 have hB2:W2.heap[w.heap.size+1]?=some (.cells #[.int .i64 0,.int .i64 0,.int .i64 0] 79 (0,0)):=by rw[h0]; exact blk_farI 2 _ (by omega) HB1.out
 have B2:Below w.heap.size w W2:=by rw[h0]; exact(by repeat (first | exact Below.refl _ _ | exact Nat.le_refl _ | refine Below.alloc ?_ ?_ _ | refine Below.setCell ?_ ?_ _ | refine Below.drew ?_ | refine bl_drewN ?_ _ | (assumption) | refine bl_call ?_ (by assumption) ?_ | omega | (simp <;> omega)))
 have HB2:=Lib.hid hB2;have HA2:=Lib.hid hA2;clear h0 HA1 HB1 c0 c1 c2 fA hA2 hB2;go_upto_region 4 with (go_at_call 84; refine(sort3 HA2.out HP.out h1 h2).mono ?_; rintro e w3 ⟨rfl,hA3,hX3⟩)
 have hB3:=(hX3.block _ (blk_lt HB2.out) (by simp)).trans HB2.out;have B3:Below w.heap.size w w3:=hX3.below B2 (by have:=blk_lt HA2.out; omega) (by simp);have e0:w3.cell? ⟨w.heap.size,0,none⟩=some (.int .i64 s0):=cell_of_row w3 _ 0 _ _ _ hA3;have e1:w3.cell? ⟨w.heap.size,1,none⟩=some (.int .i64 s1):=cell_of_row w3 _ 1 _ _ _ hA3;have e2:w3.cell? ⟨w.heap.size,2,none⟩=some (.int .i64 s2):=cell_of_row w3 _ 2 _ _ _ hA3;clear hX3 hA3 HA2 HB2 HP;have pblk4:w3.heap[w.heap.size+1]?=some (.cells #[.int .i64 0,.int .i64 0,.int .i64 0] 79 (0,0)):=by first | assumption | exact hblk4
 refine with_act fun a0 ha0=>?_;refine wp_region_inv (by kernel_rfl) (by kernel_rfl) (fun s a' w'=>∃v30 v31 v32 v33 v5:Value,a'=putL a0 [(30,v30),(31,v31),(32,v32),(33,v33),(5,v5)]/\Hid ((s 0=true->v30=.agg #[.int .i64 s0,.int .i64 s1,.int .i64 s2])/\(s 1=true->v31=.pointer (some ⟨w.heap.size,2,none⟩))/\(s 2=true->v32=.int .i64 s2)/\(s 3=true->v33=.bool (decide (s2<=1000000000)))/\(s 5=true->v5=.bool (decide (s2<=1000000000)))/\True)/\BelX [w.heap.size+1] w3 w'/\(∃(c0 c1 c2:Value),w'.heap[w.heap.size+1]?=some (.cells #[c0,c1,c2] 79 (0,0))/\(s 4=true->c0=.int .i64 s0/\c1=.int .i64 s1/\c2=.int .i64 s2)/\(s 4=false->c0=.int .i64 0/\c1=.int .i64 0/\c2=.int .i64 0))/\(s 4=true->s 0=true/\True)/\True) ?x3hzero ⟨?x3hs0,?x3hs1,?x3hs2,?x3hs3,?x3hs4,?x3hs5,trivial⟩ ?x3hdone
 case x3hzero =>
  refine⟨a0.tmps.getD 30 undef,a0.tmps.getD 31 undef,a0.tmps.getD 32 undef,a0.tmps.getD 33 undef,a0.tmps.getD 5 undef,?_,?_,?_,?_,?_,trivial⟩
  · simp only[putL,put_self]
  · exact Lib.hid ⟨fun h=>(by simp at h),fun h=>(by simp at h),fun h=>(by simp at h),fun h=>(by simp at h),fun h=>(by simp at h),trivial⟩
  · exact BelX.start _ _
  · exact⟨.int .i64 0,.int .i64 0,.int .i64 0,pblk4,fun h=>(by simp at h),fun _=>⟨rfl,rfl,rfl⟩⟩
  · exact fun h=>(by simp at h)
 case x3hs0 =>
  intro s a' w' hsk hdep hI K hK;try dsimp only at hI hK
  obtain⟨v30,v31,v32,v33,v5,hact,hR,hX,hP4,hQ4,_⟩:=hI;subst hact;have HK:=Lib.hid hK;clear hK;have kc0:w'.cell? ⟨w.heap.size,0,none⟩=some (.int .i64 s0):=hX.cell (by first | (simp; done) | (simp; omega)) (by first | assumption | (go_simp; done) | (simp; done));have kc1:w'.cell? ⟨w.heap.size,1,none⟩=some (.int .i64 s1):=hX.cell (by first | (simp; done) | (simp; omega)) (by first | assumption | (go_simp; done) | (simp; done));have kc2:w'.cell? ⟨w.heap.size,2,none⟩=some (.int .i64 s2):=hX.cell (by first | (simp; done) | (simp; omega)) (by first | assumption | (go_simp; done) | (simp; done));obtain⟨b4_0,b4_1,b4_2,pb4,pt4,pf4⟩:=hP4;have hs0:s 4=false:=Bool.eq_false_iff.2 fun h=>(by have:=hQ4 h; simp[hsk]at this)
  obtain⟨q4_0,q4_1,q4_2⟩:=pf4 hs0;subst q4_0;subst q4_1;subst q4_2;clear hs0;have kp4_0:=cell_of_row w' (w.heap.size+1) 0 _ _ _ pb4;have kp4_1:=cell_of_row w' (w.heap.size+1) 1 _ _ _ pb4;have kp4_2:=cell_of_row w' (w.heap.size+1) 2 _ _ _ pb4;simp only[List.getElem?_toArray,List.getElem?_cons_zero,List.getElem?_cons_succ]at kp4_0 kp4_1 kp4_2;have kq4:∀o,w'.frozen? ⟨w.heap.size+1,o,none⟩=false:=fun o=>frozen_of_row w' _ o _ _ pb4;have hPB4:=Lib.hid pb4;clear pb4;have hPT4:=Lib.hid pt4;clear pt4;have hPF4:=Lib.hid pf4;clear pf4;clear hdep;refine StepG.mk rfl ?_; rw[ha0]; simp only[putL,Act.put,sA_,sZ_,sS_];go_wp2_with fail;refine HK.out _ _ ?_;refine⟨(.agg #[.int .i64 s0,.int .i64 s1,.int .i64 s2]),v31,v32,v33,v5,(by rw[ha0]; simp only[putL,Act.put,sA_,sZ_,sS_]),?_,?_,?_,?_,trivial⟩
  · obtain⟨h30,h31,h32,h33,h5,_⟩:=hR.out;exact Lib.hid ⟨fun _=>rfl,h31,h32,h33,h5,trivial⟩
  · exact hX
  · exact⟨_,_,_,hPB4.out,fun h=>hPT4.out (by simpa using h),fun h=>⟨rfl,rfl,rfl⟩⟩
  · exact fun h=>(by have h1:=hQ4 (by simpa using h); simp[h1])
 case x3hs1 =>
  intro s a' w' hsk hdep hI K hK;try dsimp only at hI hK
  obtain⟨v30,v31,v32,v33,v5,hact,hR,hX,hP4,hQ4,_⟩:=hI;subst hact;have HK:=Lib.hid hK;clear hK;obtain⟨b4_0,b4_1,b4_2,pb4,pt4,pf4⟩:=hP4;have kp4_0:=cell_of_row w' (w.heap.size+1) 0 _ _ _ pb4;have kp4_1:=cell_of_row w' (w.heap.size+1) 1 _ _ _ pb4;have kp4_2:=cell_of_row w' (w.heap.size+1) 2 _ _ _ pb4;simp only[List.getElem?_toArray,List.getElem?_cons_zero,List.getElem?_cons_succ]at kp4_0 kp4_1 kp4_2;have kq4:∀o,w'.frozen? ⟨w.heap.size+1,o,none⟩=false:=fun o=>frozen_of_row w' _ o _ _ pb4;have hPB4:=Lib.hid pb4;clear pb4;have hPT4:=Lib.hid pt4;clear pt4;have hPF4:=Lib.hid pf4;clear pf4;clear hdep;refine StepG.mk rfl ?_; rw[ha0]; simp only[putL,Act.put,sA_,sZ_,sS_];go_wp2_with fail;refine HK.out _ _ ?_;refine⟨v30,(.pointer (some ⟨w.heap.size,2,none⟩)),v32,v33,v5,(by rw[ha0]; simp only[putL,Act.put,sA_,sZ_,sS_]),?_,?_,?_,?_,trivial⟩
  · obtain⟨h30,h31,h32,h33,h5,_⟩:=hR.out;exact Lib.hid ⟨h30,fun _=>rfl,h32,h33,h5,trivial⟩
  · exact hX
  · exact⟨_,_,_,hPB4.out,fun h=>hPT4.out (by simpa using h),fun h=>(hPF4.out (by simpa using h))⟩
  · exact fun h=>(by have h1:=hQ4 (by simpa using h); simp[h1])
 case x3hs2 =>
  intro s a' w' hsk hdep hI K hK;try dsimp only at hI hK
  obtain⟨v30,v31,v32,v33,v5,hact,hR,hX,hP4,hQ4,_⟩:=hI;subst hact;have HK:=Lib.hid hK;clear hK;have e31:=hR.out.2.1 (hdep ⟨1,.data⟩ (by simp) rfl);subst e31;have kc0:w'.cell? ⟨w.heap.size,0,none⟩=some (.int .i64 s0):=hX.cell (by first | (simp; done) | (simp; omega)) (by first | assumption | (go_simp; done) | (simp; done));have kc1:w'.cell? ⟨w.heap.size,1,none⟩=some (.int .i64 s1):=hX.cell (by first | (simp; done) | (simp; omega)) (by first | assumption | (go_simp; done) | (simp; done));have kc2:w'.cell? ⟨w.heap.size,2,none⟩=some (.int .i64 s2):=hX.cell (by first | (simp; done) | (simp; omega)) (by first | assumption | (go_simp; done) | (simp; done));obtain⟨b4_0,b4_1,b4_2,pb4,pt4,pf4⟩:=hP4;have kp4_0:=cell_of_row w' (w.heap.size+1) 0 _ _ _ pb4;have kp4_1:=cell_of_row w' (w.heap.size+1) 1 _ _ _ pb4;have kp4_2:=cell_of_row w' (w.heap.size+1) 2 _ _ _ pb4;simp only[List.getElem?_toArray,List.getElem?_cons_zero,List.getElem?_cons_succ]at kp4_0 kp4_1 kp4_2;have kq4:∀o,w'.frozen? ⟨w.heap.size+1,o,none⟩=false:=fun o=>frozen_of_row w' _ o _ _ pb4;have hPB4:=Lib.hid pb4;clear pb4;have hPT4:=Lib.hid pt4;clear pt4;have hPF4:=Lib.hid pf4;clear pf4;clear hdep;refine StepG.mk rfl ?_; rw[ha0]; simp only[putL,Act.put,sA_,sZ_,sS_];go_wp2_with fail;refine HK.out _ _ ?_;refine⟨v30,(.pointer (some ⟨w.heap.size,2,none⟩)),(.int .i64 s2),v33,v5,(by rw[ha0]; simp only[putL,Act.put,sA_,sZ_,sS_]),?_,?_,?_,?_,trivial⟩
  · obtain⟨h30,h31,h32,h33,h5,_⟩:=hR.out;exact Lib.hid ⟨h30,fun _=>rfl,fun _=>rfl,h33,h5,trivial⟩
  · exact hX
  · exact⟨_,_,_,hPB4.out,fun h=>hPT4.out (by simpa using h),fun h=>(hPF4.out (by simpa using h))⟩
  · exact fun h=>(by have h1:=hQ4 (by simpa using h); simp[h1])
 case x3hs3 =>
  intro s a' w' hsk hdep hI K hK;try dsimp only at hI hK
  obtain⟨v30,v31,v32,v33,v5,hact,hR,hX,hP4,hQ4,_⟩:=hI;subst hact;have HK:=Lib.hid hK;clear hK;have e32:=hR.out.2.2.1 (hdep ⟨2,.data⟩ (by simp) rfl);subst e32;obtain⟨b4_0,b4_1,b4_2,pb4,pt4,pf4⟩:=hP4;have kp4_0:=cell_of_row w' (w.heap.size+1) 0 _ _ _ pb4;have kp4_1:=cell_of_row w' (w.heap.size+1) 1 _ _ _ pb4;have kp4_2:=cell_of_row w' (w.heap.size+1) 2 _ _ _ pb4;simp only[List.getElem?_toArray,List.getElem?_cons_zero,List.getElem?_cons_succ]at kp4_0 kp4_1 kp4_2;have kq4:∀o,w'.frozen? ⟨w.heap.size+1,o,none⟩=false:=fun o=>frozen_of_row w' _ o _ _ pb4;have hPB4:=Lib.hid pb4;clear pb4;have hPT4:=Lib.hid pt4;clear pt4;have hPF4:=Lib.hid pf4;clear pf4;clear hdep;refine StepG.mk rfl ?_; rw[ha0]; simp only[putL,Act.put,sA_,sZ_,sS_];go_wp2_with fail;refine HK.out _ _ ?_;refine⟨v30,v31,(.int .i64 s2),(.bool (decide (s2<=1000000000))),v5,(by rw[ha0]; simp only[putL,Act.put,sA_,sZ_,sS_]),?_,?_,?_,?_,trivial⟩
  · obtain⟨h30,h31,h32,h33,h5,_⟩:=hR.out;exact Lib.hid ⟨h30,h31,fun _=>rfl,fun _=>rfl,h5,trivial⟩
  · exact hX
  · exact⟨_,_,_,hPB4.out,fun h=>hPT4.out (by simpa using h),fun h=>(hPF4.out (by simpa using h))⟩
  · exact fun h=>(by have h1:=hQ4 (by simpa using h); simp[h1])
 case x3hs4 =>
  intro s a' w' hsk hdep hI K hK;try dsimp only at hI hK
  obtain⟨v30,v31,v32,v33,v5,hact,hR,hX,hP4,hQ4,_⟩:=hI;subst hact;have HK:=Lib.hid hK;clear hK;have e30:=hR.out.1 (hdep ⟨0,.data⟩ (by simp) rfl);subst e30;have kc0:w'.cell? ⟨w.heap.size,0,none⟩=some (.int .i64 s0):=hX.cell (by first | (simp; done) | (simp; omega)) (by first | assumption | (go_simp; done) | (simp; done));have kc1:w'.cell? ⟨w.heap.size,1,none⟩=some (.int .i64 s1):=hX.cell (by first | (simp; done) | (simp; omega)) (by first | assumption | (go_simp; done) | (simp; done));have kc2:w'.cell? ⟨w.heap.size,2,none⟩=some (.int .i64 s2):=hX.cell (by first | (simp; done) | (simp; omega)) (by first | assumption | (go_simp; done) | (simp; done));obtain⟨b4_0,b4_1,b4_2,pb4,pt4,pf4⟩:=hP4;have hs0:s 4=false:=hsk;obtain⟨q4_0,q4_1,q4_2⟩:=pf4 hs0;subst q4_0;subst q4_1;subst q4_2;clear hs0;have kp4_0:=cell_of_row w' (w.heap.size+1) 0 _ _ _ pb4;have kp4_1:=cell_of_row w' (w.heap.size+1) 1 _ _ _ pb4;have kp4_2:=cell_of_row w' (w.heap.size+1) 2 _ _ _ pb4;simp only[List.getElem?_toArray,List.getElem?_cons_zero,List.getElem?_cons_succ]at kp4_0 kp4_1 kp4_2;have kq4:∀o,w'.frozen? ⟨w.heap.size+1,o,none⟩=false:=fun o=>frozen_of_row w' _ o _ _ pb4;have hPB4:=Lib.hid pb4;clear pb4;have hPT4:=Lib.hid pt4;clear pt4;have hPF4:=Lib.hid pf4;clear pf4;have hd0:s 0=true:=hdep ⟨0,.data⟩ (by simp) rfl;clear hdep;refine StepG.mk rfl ?_; rw[ha0]; simp only[putL,Act.put,sA_,sZ_,sS_];go_wp2_with fail;refine HK.out _ _ ?_;refine⟨(.agg #[.int .i64 s0,.int .i64 s1,.int .i64 s2]),v31,v32,v33,v5,(by rw[ha0]; simp only[putL,Act.put,sA_,sZ_,sS_]),?_,?_,?_,?_,trivial⟩
  · obtain⟨h30,h31,h32,h33,h5,_⟩:=hR.out;exact Lib.hid ⟨fun _=>rfl,h31,h32,h33,h5,trivial⟩
  · exact(((hX.setOld (p:=⟨w.heap.size+1,0,none⟩) (by simp) _).setOld (p:=⟨w.heap.size+1,1,none⟩) (by simp) _).setOld (p:=⟨w.heap.size+1,2,none⟩) (by simp) _)
  · exact⟨_,_,_,blk_set3 hPB4.out,fun _=>⟨rfl,rfl,rfl⟩,fun h=>(by simp at h)⟩
  · exact fun _=>(by simp[hd0])
 case x3hs5 =>
  intro s a' w' hsk hdep hI K hK;try dsimp only at hI hK
  obtain⟨v30,v31,v32,v33,v5,hact,hR,hX,hP4,hQ4,_⟩:=hI;subst hact;have HK:=Lib.hid hK;clear hK;have e33:=hR.out.2.2.2.1 (hdep ⟨3,.data⟩ (by simp) rfl);subst e33;obtain⟨b4_0,b4_1,b4_2,pb4,pt4,pf4⟩:=hP4;have kp4_0:=cell_of_row w' (w.heap.size+1) 0 _ _ _ pb4;have kp4_1:=cell_of_row w' (w.heap.size+1) 1 _ _ _ pb4;have kp4_2:=cell_of_row w' (w.heap.size+1) 2 _ _ _ pb4;simp only[List.getElem?_toArray,List.getElem?_cons_zero,List.getElem?_cons_succ]at kp4_0 kp4_1 kp4_2;have kq4:∀o,w'.frozen? ⟨w.heap.size+1,o,none⟩=false:=fun o=>frozen_of_row w' _ o _ _ pb4;have hPB4:=Lib.hid pb4;clear pb4;have hPT4:=Lib.hid pt4;clear pt4;have hPF4:=Lib.hid pf4;clear pf4;clear hdep;refine StepG.mk rfl ?_; rw[ha0]; simp only[putL,Act.put,sA_,sZ_,sS_];go_wp2_with fail;refine HK.out _ _ ?_;refine⟨v30,v31,v32,(.bool (decide (s2<=1000000000))),(.bool (decide (s2<=1000000000))),(by rw[ha0]; simp only[putL,Act.put,sA_,sZ_,sS_]),?_,?_,?_,?_,trivial⟩
  · obtain⟨h30,h31,h32,h33,h5,_⟩:=hR.out;exact Lib.hid ⟨h30,h31,h32,fun _=>rfl,fun _=>rfl,trivial⟩
  · exact hX
  · exact⟨_,_,_,hPB4.out,fun h=>hPT4.out (by simpa using h),fun h=>(hPF4.out (by simpa using h))⟩
  · exact fun h=>(by have h1:=hQ4 (by simpa using h); simp[h1])
 intro s a' w4 hall hI;try dsimp only at hI
 obtain⟨v30,v31,v32,v33,v5,hact,hR,hXR,hP4,hQ4,_⟩:=hI;subst hact;obtain⟨h30,h31,h32,h33,h5,_⟩:=hR.out;clear hR;have e30:=h30 (hall 0 (by decide));subst e30;clear h30;have e31:=h31 (hall 1 (by decide));subst e31;clear h31;have e32:=h32 (hall 2 (by decide));subst e32;clear h32;have e33:=h33 (hall 3 (by decide));subst e33;clear h33;have e5:=h5 (hall 5 (by decide));subst e5;clear h5;obtain⟨c0,c1,c2,pblkR4,hpt,_⟩:=hP4;clear hQ4;obtain⟨es0,es1,es2⟩:=hpt (hall 4 (by decide));subst es0;subst es1;subst es2;clear hpt;try clear pblk4
 have pblk4:=pblkR4;clear pblkR4;clear hall;rw[ha0]; simp only[putL,Act.put,sA_,sZ_,sS_];clear ha0;have B4:Below w.heap.size w w4:=hXR.below B3 (by have:=blk_lt hB3; omega) (by simp);have d0:w4.cell? ⟨w.heap.size+1,0,none⟩=some (.int .i64 s0):=cell_of_row w4 _ 0 _ _ _ pblk4;have d1:w4.cell? ⟨w.heap.size+1,1,none⟩=some (.int .i64 s1):=cell_of_row w4 _ 1 _ _ _ pblk4;have d2:w4.cell? ⟨w.heap.size+1,2,none⟩=some (.int .i64 s2):=cell_of_row w4 _ 2 _ _ _ pblk4;clear hXR pblk4 e0 e1 e2;go_wp2_with fail;exact bodyPost_ret (v:=.tuple #[.agg #[.int .i64 s0,.int .i64 s1,.int .i64 s2],.bool (decide (s2<=1000000000))]) (by simp[results,Tryz.results57,go_sem, *]) rfl ⟨rfl,B4⟩
end Go.Proofs.YtaffkceklkdokaaGreatDoor
