/- The rack's plain functions: within, places, ends. -/
import Derived.Test.YtaffkceklkdokaaGreatDoorProg
import Derived.WalkKit
import Derived.Below
import Derived.Lib.Hide
import Derived.Deep.QuietTactic
import Derived.BigQuiet
import Derived.WalkLawsBesides
import Derived.Deep.DrawnRows
import Derived.Deep.DeepCutAuto
import Derived.WalkSpells
import Derived.Laws.Strings3
import Derived.Lib.IndexLaws
import Derived.Lib.Strings
import Derived.Test.YtaffkceklkdokaaGreatDoorZ1
set_option maxRecDepth 100000
set_option maxHeartbeats 4000000
namespace Go.Proofs.YtaffkceklkdokaaGreatDoor
open Go.RowKit
attribute [local go_sem ↓] Go.wp_at_zero Go.wp_at_succ
theorem bl_drewN {B:Nat} {a w:World} (h:Below B a w) (n:Nat):Below B a (w.drewN n):=h.trans ⟨rfl,rfl,rfl,Nat.le_refl _,fun _ _=>rfl⟩
theorem bl_call {B n:Nat} {w a w1:World} (h:Below B w a) (hb:Below n a w1) (hn:B<=n):Below B w w1:=h.trans (hb.mono hn)
abbrev ty:Ty:=⟨154,163,164,168⟩
theorem within_any (n lo hi : Int) (w : World) :
    Calls Tryz.prog 74 #[.int .i64 n, .int .i64 lo, .int .i64 hi] w fun e w' => e = .returned (.bool (decide (lo <= n) && decide (n <= hi))) /\ w = w' := by
  by_cases h1 : lo <= n
  · by_cases h2 : n <= hi
    all_goals
      go_enter Tryz.func74, Tryz.ntmps74
      go_wp2
      go_ret
      exact ⟨by simp [h1, h2], rfl⟩
  · go_enter Tryz.func74, Tryz.ntmps74
    go_wp2
    go_ret
    exact ⟨by have : ¬ lo <= n := by omega
              simp [this], rfl⟩
theorem places_any (o:Int) (k:Nat) (w:World) (ho:o=k) (hk:k<=3) :
  Calls Tryz.prog 93 #[.int .i64 o] w fun e w'=>e=.returned (.int .i64 (RK.R k))/\w=w':=by
 subst ho;rcases (by omega:k=0∨k=1∨k=2∨k=3) with rfl | rfl | rfl | rfl;all_goals
  go_enter Tryz.func93,Tryz.ntmps93;go_wp2
  go_ret
  exact⟨by rfl,rfl⟩
theorem ta_pe (x:Value) (w:World):(Instr.typeAssert (.iface 154 x) 136 163 true).run Tryz.prog w=.ok (.tuple #[.agg #[.int .i64 0,.int .i64 0],.bool false]) w:=by kernel_rfl
theorem ta_pp (x:Value) (w:World):(Instr.typeAssert (.iface 163 x) 136 163 true).run Tryz.prog w=.ok (.tuple #[x,.bool true]) w:=by kernel_rfl
theorem ta_pt (x:Value) (w:World):(Instr.typeAssert (.iface 164 x) 136 163 true).run Tryz.prog w=.ok (.tuple #[.agg #[.int .i64 0,.int .i64 0],.bool false]) w:=by kernel_rfl
theorem ta_te (x:Value) (w:World):(Instr.typeAssert (.iface 154 x) 136 164 true).run Tryz.prog w=.ok (.tuple #[.pointer none,.bool false]) w:=by kernel_rfl
theorem ta_tt (x:Value) (w:World):(Instr.typeAssert (.iface 164 x) 136 164 true).run Tryz.prog w=.ok (.tuple #[x,.bool true]) w:=by kernel_rfl
/-- the cells of a tree -/
theorem row5 {w:World} {g t:Nat} {c0 c1 c2 c3 c4:Value} (h:w.heap[g]?=some (.cells #[c0,c1,c2,c3,c4] t (0,0))) :
  w.cell? ⟨g,0,none⟩=some c0/\w.cell? ⟨g,1,none⟩=some c1/\w.cell? ⟨g,2,none⟩=some c2/\w.cell? ⟨g,3,none⟩=some c3/\w.cell? ⟨g,4,none⟩=some c4 :=
 ⟨cell_of_row w g 0 _ _ _ h,cell_of_row w g 1 _ _ _ h,cell_of_row w g 2 _ _ _ h,cell_of_row w g 3 _ _ _ h,cell_of_row w g 4 _ _ _ h⟩
open Go.RowKit
attribute [local go_sem ↓] Go.wp_at_zero Go.wp_at_succ
theorem pair_mem {m:RK.S} (hs:RK.Supp 0 m) {a b x:Nat} (ha:RK.IsMin m a) (hb:RK.IsMax m b):m x=true↔x=a∨x=b:=by
 have r0:RK.R 0=2:=rfl;have a2:=hs a ha.1;have b2:=hs b hb.1;rw[r0]at a2 b2;constructor
 · intro h;have:=ha.2 x h;have:=hb.2 x h;omega
 ·
  rintro (rfl | rfl)
  · exact ha.1
  · exact hb.1
/-- quotient and rest of a place -/
theorem wrap_small {n:Nat} (h:n < 256):IntKind.i64.wrap (n:Int)=n:=by
 simp[IntKind.wrap,IntKind.signed,IntKind.bits];omega
theorem quo_facts {k x:Nat} (hx:x < RK.R (k+1)) (hk:k+1<=3):∃q r p:Nat,x / RK.R k=q/\x % RK.R k=r/\RK.R k=p/\(x:Int).tdiv (p:Int)=q/\(x:Int).tmod (p:Int)=r/\q < 256/\r < 256/\p<=256/\2<=p/\q < p/\r < p/\x < 256:=by
 have h1:=RK.split_lt hx;have h2:=RK.R_le (k:=k) (by omega);have h3:=RK.R_le hk;have h4:=RK.R_pos k;refine⟨x / RK.R k,x % RK.R k,RK.R k,rfl,rfl,rfl,?_,?_,by omega,by omega,h2,h4,h1.1,h1.2,by omega⟩
 · rw[Int.tdiv_eq_ediv_of_nonneg (by omega)]; rfl
 · rw[Int.tmod_eq_emod_of_nonneg (by omega)]; rfl
theorem zero_shape (w:World):(zeroValue 136).run Tryz.prog w=.ok .nilIface w:=by kernel_rfl
theorem spotsF_in {k:Nat} {m:RK.S} {a s:Nat} {sp:Nat->Value} (h:RK.shelves k m a s=true):spotsF k m a sp (s:Int)=some (sp s):=by
 unfold spotsF;rw[Int.toNat_natCast,if_pos ⟨Int.natCast_nonneg _,h⟩]
theorem spotsF_out {k:Nat} {m:RK.S} {a s:Nat} {sp:Nat->Value} (h:¬RK.shelves k m a s=true):spotsF k m a sp (s:Int)=none:=by
 unfold spotsF;rw[Int.toNat_natCast,if_neg (fun q=>h q.2)]
theorem has_any:∀(k:Nat) (o:Int) (v:Value) (m:RK.S) (F:Nat->Prop) (x:Nat) (w:World),o=k->k<=3->Rep ty k w v m F->x < RK.R k ->
  Calls Tryz.prog 94 #[v,.int .i64 o,.int .i64 x] w fun e w'=>e=.returned (.bool (m x))/\Below w.heap.size w w':=by
 intro k
 induction k with
 | zero =>
  intro o v m F x w ho hk h hx;have t1:=ta_pe;have t2:=ta_pp;have t4:=ta_te;obtain⟨hs,-,⟨he,rfl⟩ | ⟨a,b,ha,hb,rfl⟩⟩:=h
  ·
   have HE:=Lib.hid (he x);clear he hs;unfold vE;go_enter Tryz.func94,Tryz.ntmps94;go_wp2_with fail
   go_ret
   exact⟨by rw[HE.out]; rfl,(by repeat (first | exact Below.refl _ _ | exact Nat.le_refl _ | refine Below.alloc ?_ ?_ _ | refine Below.setCell ?_ ?_ _ | refine Below.drew ?_ | refine bl_drewN ?_ _ | (assumption) | refine bl_call ?_ (by assumption) ?_ | omega | (simp <;> omega)))⟩
  ·
   have hm:=pair_mem hs ha hb (x:=x);clear ha hb hs;unfold vP
   by_cases h1:x=a
   ·
    have HE:=Lib.hid (hm.2 (.inl h1));clear hm;go_enter Tryz.func94,Tryz.ntmps94;go_wp2_with fail
    go_ret
    exact⟨by rw[HE.out]; rfl,(by repeat (first | exact Below.refl _ _ | exact Nat.le_refl _ | refine Below.alloc ?_ ?_ _ | refine Below.setCell ?_ ?_ _ | refine Below.drew ?_ | refine bl_drewN ?_ _ | (assumption) | refine bl_call ?_ (by assumption) ?_ | omega | (simp <;> omega)))⟩
   ·
    by_cases h2:x=b
    ·
     have HE:=Lib.hid (hm.2 (.inr h2));clear hm;go_enter Tryz.func94,Tryz.ntmps94;go_wp2_with fail
     go_ret
     exact⟨by rw[HE.out]; rfl,(by repeat (first | exact Below.refl _ _ | exact Nat.le_refl _ | refine Below.alloc ?_ ?_ _ | refine Below.setCell ?_ ?_ _ | refine Below.drew ?_ | refine bl_drewN ?_ _ | (assumption) | refine bl_call ?_ (by assumption) ?_ | omega | (simp <;> omega)))⟩
    ·
     have HE:Hid (m x=false):=Lib.hid (by
      cases hq:m x
      · rfl
      ·
       rcases hm.1 hq with h | h
       · exact absurd h h1
       · exact absurd h h2)
     have hne:((x:Int) == (a:Int) || (x:Int) == (b:Int))=false:=by simp; omega
     have HNE:=Lib.hid hne;clear hm hne;go_enter Tryz.func94,Tryz.ntmps94;go_wp2_with fail
     go_ret
     exact⟨by rw[HE.out]; show Ending.returned (.bool ((x:Int) == (a:Int) || (x:Int) == (b:Int)))=_; rw[HNE.out],(by repeat (first | exact Below.refl _ _ | exact Nat.le_refl _ | refine Below.alloc ?_ ?_ _ | refine Below.setCell ?_ ?_ _ | refine Below.drew ?_ | refine bl_drewN ?_ _ | (assumption) | refine bl_call ?_ (by assumption) ?_ | omega | (simp <;> omega)))⟩
 | succ k ih =>
  intro o v m F x w ho hk h hx;have t1:=ta_pe;have t3:=ta_pt;have t4:=ta_te;have t5:=ta_tt;obtain⟨hs,⟨he,rfl,-⟩ | ⟨a,b,g,bm,sv,Fs,sp,Fp,ha,hb,rfl,hg,hmap,-,hsp,-⟩⟩:=h
  ·
   have HE:=Lib.hid (he x);clear he hs ih;unfold vE;go_enter Tryz.func94,Tryz.ntmps94;go_wp2_with fail
   go_ret
   exact⟨by rw[HE.out]; rfl,(by repeat (first | exact Below.refl _ _ | exact Nat.le_refl _ | refine Below.alloc ?_ ?_ _ | refine Below.setCell ?_ ?_ _ | refine Below.drew ?_ | refine bl_drewN ?_ _ | (assumption) | refine bl_call ?_ (by assumption) ?_ | omega | (simp <;> omega)))⟩
  ·
   have hgs:=blk_lt hg;have hbs:=hmap.lt;obtain⟨c0,c1,c2,c3,c4⟩:=row5 hg;have hk1:o-1=(k:Int):=by omega
   have HM:=Lib.hid hmap;have hpl:=fun wx=>places_any (k:Int) k wx rfl (by omega);obtain⟨q,r,p,eq,er,ep,hq,hr,q1,r1,p1,p2,q2,r2,x2⟩:=quo_facts hx hk;rw[ep]at hpl;have HPL:=Lib.hid hpl;have hxa:=fun(h:x≠a)=>RK.mem_iff hs h;rw[eq,er]at hxa;have HXA:=Lib.hid hxa;have HA:=Lib.hid ha.1;have HSP:=Lib.hid hsp;have HEP:=Lib.hid ep;have hp0:¬p=0:=by omega
   have hwq:=wrap_small q1;have hwr:=wrap_small r1;have hin:InInt (q:Int):=⟨by omega,by omega⟩
   clear hpl hmap hg hxa ha hb hsp eq er ep hs;unfold vT;go_enter Tryz.func94,Tryz.ntmps94;go_wp2_with fail;refine(HPL.out _).mono ?_;rintro e w1 ⟨rfl,rfl⟩
   by_cases hsh:RK.shelves k m a q=true
   ·
    have hlk:=spotsF_in (sp:=sp) hsh;have HSH:=Lib.hid hsh;have hR:=HSP.out q hsh;obtain⟨sv1,hsv⟩:∃s,sp q=s:=⟨_,rfl⟩
    rw[hsv]at hlk hR;have HR:=Lib.hid hR;have HLK:=Lib.hid hlk;clear hsh hR hsv hlk;go_upto_region 8 with fail;refine with_act fun a0 ha0=>?_;have hsz0:a0.tmps.size=62:=by rw[ha0]; rfl
    refine wp_region_vals (W0:=w) (by kernel_rfl) (by kernel_rfl) [(33,.pointer (some ⟨g,0,none⟩)),(34,.pointer (some ⟨g,0,none⟩)),(35,.pointer (some ⟨g,4,none⟩)),(36,.map (some bm)),(37,.int .i64 x),(38,.int .i64 p),(39,.int .i64 q),(40,.tuple #[sv1,.bool true]),(32,.tuple #[sv1,.bool true]),(41,sv1),(42,.bool true),(10,sv1),(11,.bool true)] rfl (by show([33,34,35,36,37,38,39,40,32,41,42,10,11]:List Nat).Nodup; decide) _ hsz0 (by kernel_rfl) (BelX.start _ _) ⟨⟨rfl,?y1v0⟩,⟨rfl,?y1v1⟩,⟨rfl,?y1v2⟩,⟨rfl,?y1v3⟩,⟨rfl,?y1v4⟩,⟨rfl,?y1v5⟩,⟨rfl,?y1v6⟩,⟨rfl,?y1v7⟩,⟨rfl,?y1v8⟩,⟨rfl,?y1v9⟩,⟨rfl,?y1v10⟩,⟨rfl,?y1v11⟩,⟨rfl,?y1v12⟩,trivial⟩ ?y1done
    case y1v0 =>
     exact mvVi rfl rfl rfl (by kernel_rfl) (by rw[ha0]; rfl)
    case y1v1 =>
     intro a' w' hA hdep hX K hK;obtain⟨r33,q33⟩:=dpv hdep ⟨0,.data⟩ (by simp) rfl rfl;clear hdep ha0 hA;refine StepG.value (wanted_none rfl) rfl ?_ (hK _ hX);simp[go_sem, *]
    case y1v2 =>
     intro a' w' hA hdep hX K hK;obtain⟨r34,q34⟩:=dpv hdep ⟨1,.data⟩ (by simp) rfl rfl;clear hdep ha0 hA;refine StepG.value (wanted_none rfl) rfl ?_ (hK _ hX);simp[go_sem, *]
    case y1v3 =>
     intro a' w' hA hdep hX K hK;obtain⟨r35,q35⟩:=dpv hdep ⟨2,.data⟩ (by simp) rfl rfl;have kc0:w'.cell? ⟨g,4,none⟩=some (.map (some bm)):=hX.cell (by simp) (by first | assumption | (go_simp; done) | (simp; done));clear hdep ha0 hA;refine StepG.value (wanted_none rfl) rfl ?_ (hK _ hX);simp[go_sem, *]
    case y1v4 =>
     exact mvVi rfl rfl rfl (by kernel_rfl) (by rw[ha0]; rfl)
    case y1v5 =>
     exact mvVi rfl rfl rfl (by kernel_rfl) (by rw[ha0]; rfl)
    case y1v6 =>
     intro a' w' hA hdep hX K hK;obtain⟨r37,q37⟩:=dpv hdep ⟨4,.data⟩ (by simp) rfl rfl;obtain⟨r38,q38⟩:=dpv hdep ⟨5,.data⟩ (by simp) rfl rfl;clear hdep ha0 hA;refine StepG.value (wanted_none rfl) rfl ?_ (hK _ hX);simp[go_sem, *]
    case y1v7 =>
     intro a' w' hA hdep hX K hK;obtain⟨r36,q36⟩:=dpv hdep ⟨3,.data⟩ (by simp) rfl rfl;obtain⟨r39,q39⟩:=dpv hdep ⟨6,.data⟩ (by simp) rfl rfl;have kx0:=(show(Instr.lookup 166 (.map (some bm)) (.int .i64 (q:Int)) true).run Tryz.prog w'=.ok (.tuple #[sv1,.bool true]) w' by have h:=(HM.out.of_block (hX.block bm hbs (by simp))).look Tryz.underlying3 Tryz.underlying166 (zero_shape _) hin true; rw[HLK.out]at h; exact h)
     clear hdep ha0 hA;refine StepG.value (wanted_none rfl) rfl ?_ (hK _ hX);simp[go_sem, *]
    case y1v8 =>
     exact mvV ⟨7,.data⟩ (by simp) rfl rfl rfl rfl rfl
    case y1v9 =>
     intro a' w' hA hdep hX K hK;obtain⟨r32,q32⟩:=dpv hdep ⟨8,.data⟩ (by simp) rfl rfl;clear hdep ha0 hA;refine StepG.value (wanted_none rfl) rfl ?_ (hK _ hX);simp[go_sem, *]
    case y1v10 =>
     intro a' w' hA hdep hX K hK;obtain⟨r32,q32⟩:=dpv hdep ⟨8,.data⟩ (by simp) rfl rfl;clear hdep ha0 hA;refine StepG.value (wanted_none rfl) rfl ?_ (hK _ hX);simp[go_sem, *]
    case y1v11 =>
     intro a' w' hA hdep hX K hK;obtain⟨r41,q41⟩:=dpv hdep ⟨9,.data⟩ (by simp) rfl rfl;clear hdep ha0 hA;refine StepG.value (wanted_none rfl) rfl ?_ (hK _ hX);simp[go_sem, *]
    case y1v12 =>
     intro a' w' hA hdep hX K hK;obtain⟨r42,q42⟩:=dpv hdep ⟨10,.data⟩ (by simp) rfl rfl;clear hdep ha0 hA;refine StepG.value (wanted_none rfl) rfl ?_ (hK _ hX);simp[go_sem, *]
    intro w2 hXR;rw[ha0]; simp only[putL,Act.put,sA_,sZ_,sS_];clear ha0 hsz0;have B2:Below w.heap.size w w2:=hXR.below (by first | assumption | exact(by repeat (first | exact Below.refl _ _ | exact Nat.le_refl _ | refine Below.alloc ?_ ?_ _ | refine Below.setCell ?_ ?_ _ | refine Below.drew ?_ | refine bl_drewN ?_ _ | (assumption) | refine bl_call ?_ (by assumption) ?_ | omega | (simp <;> omega)))) (by first | omega | (simp <;> omega)) (by simp)
    by_cases hxa:x=a
    ·
     have HE:=Lib.hid (show m x=true by rw[hxa]; exact HA.out);have c0':w2.cell? ⟨g,0,none⟩=some (.int .i64 a):=(hXR.cell (by simp) c0)
     go_wp2_with fail
     go_ret
     exact⟨by rw[HE.out]; rfl,(by repeat (first | exact Below.refl _ _ | exact Nat.le_refl _ | refine Below.alloc ?_ ?_ _ | refine Below.setCell ?_ ?_ _ | refine Below.drew ?_ | refine bl_drewN ?_ _ | (assumption) | refine bl_call ?_ (by assumption) ?_ | omega | (simp <;> omega)))⟩
    ·
     have hiff:=HXA.out hxa;rw[HSH.out]at hiff;have hR2:=HR.out.kept (BelP.ofX hXR) (fun b _ h=>by simp at h);have HC:=Lib.hid (ih (k:Int) sv1 _ _ r w2 rfl (by omega) hR2 (by rw[HEP.out]; omega));have hmx:m x=RK.spot k m a q r:=by
      cases h1:m x
      ·
       cases h2:RK.spot k m a q r
       · rfl
       · rw[hiff.2 ⟨rfl,h2⟩]at h1; cases h1
      · exact(hiff.1 h1).2.symm
     have HMX:=Lib.hid hmx;have HNE:Hid (((x:Int) == (a:Int))=false):=Lib.hid (by simp; omega);have hsz2:=B2.size;have c0':w2.cell? ⟨g,0,none⟩=some (.int .i64 a):=(hXR.cell (by simp) c0)
     clear hiff hR2 hmx hXR;go_wp2_with fail;refine HC.out.mono ?_;rintro e w3 ⟨rfl,hb3⟩;go_wp2_with fail
     go_ret
     exact⟨by rw[HMX.out]; show Ending.returned (.bool ((x:Int) == (a:Int) || RK.spot k m a q r))=_; rw[HNE.out,Bool.false_or],(by repeat (first | exact Below.refl _ _ | exact Nat.le_refl _ | refine Below.alloc ?_ ?_ _ | refine Below.setCell ?_ ?_ _ | refine Below.drew ?_ | refine bl_drewN ?_ _ | (assumption) | refine bl_call ?_ (by assumption) ?_ | omega | (simp <;> omega)))⟩
   ·
    have hlk:=spotsF_out (sp:=sp) hsh;have HSH:=Lib.hid hsh;have HLK:=Lib.hid hlk;clear hsh hlk;go_upto_region 8 with fail;refine with_act fun a0 ha0=>?_;have hsz0:a0.tmps.size=62:=by rw[ha0]; rfl
    refine wp_region_vals (W0:=w) (by kernel_rfl) (by kernel_rfl) [(33,.pointer (some ⟨g,0,none⟩)),(34,.pointer (some ⟨g,0,none⟩)),(35,.pointer (some ⟨g,4,none⟩)),(36,.map (some bm)),(37,.int .i64 x),(38,.int .i64 p),(39,.int .i64 q),(40,.tuple #[.nilIface,.bool false]),(32,.tuple #[.nilIface,.bool false]),(41,.nilIface),(42,.bool false),(10,.nilIface),(11,.bool false)] rfl (by show([33,34,35,36,37,38,39,40,32,41,42,10,11]:List Nat).Nodup; decide) _ hsz0 (by kernel_rfl) (BelX.start _ _) ⟨⟨rfl,?y2v0⟩,⟨rfl,?y2v1⟩,⟨rfl,?y2v2⟩,⟨rfl,?y2v3⟩,⟨rfl,?y2v4⟩,⟨rfl,?y2v5⟩,⟨rfl,?y2v6⟩,⟨rfl,?y2v7⟩,⟨rfl,?y2v8⟩,⟨rfl,?y2v9⟩,⟨rfl,?y2v10⟩,⟨rfl,?y2v11⟩,⟨rfl,?y2v12⟩,trivial⟩ ?y2done
    case y2v0 =>
     exact mvVi rfl rfl rfl (by kernel_rfl) (by rw[ha0]; rfl)
    case y2v1 =>
     intro a' w' hA hdep hX K hK;obtain⟨r33,q33⟩:=dpv hdep ⟨0,.data⟩ (by simp) rfl rfl;clear hdep ha0 hA;refine StepG.value (wanted_none rfl) rfl ?_ (hK _ hX);simp[go_sem, *]
    case y2v2 =>
     intro a' w' hA hdep hX K hK;obtain⟨r34,q34⟩:=dpv hdep ⟨1,.data⟩ (by simp) rfl rfl;clear hdep ha0 hA;refine StepG.value (wanted_none rfl) rfl ?_ (hK _ hX);simp[go_sem, *]
    case y2v3 =>
     intro a' w' hA hdep hX K hK;obtain⟨r35,q35⟩:=dpv hdep ⟨2,.data⟩ (by simp) rfl rfl;have kc0:w'.cell? ⟨g,4,none⟩=some (.map (some bm)):=hX.cell (by simp) (by first | assumption | (go_simp; done) | (simp; done));clear hdep ha0 hA;refine StepG.value (wanted_none rfl) rfl ?_ (hK _ hX);simp[go_sem, *]
    case y2v4 =>
     exact mvVi rfl rfl rfl (by kernel_rfl) (by rw[ha0]; rfl)
    case y2v5 =>
     exact mvVi rfl rfl rfl (by kernel_rfl) (by rw[ha0]; rfl)
    case y2v6 =>
     intro a' w' hA hdep hX K hK;obtain⟨r37,q37⟩:=dpv hdep ⟨4,.data⟩ (by simp) rfl rfl;obtain⟨r38,q38⟩:=dpv hdep ⟨5,.data⟩ (by simp) rfl rfl;clear hdep ha0 hA;refine StepG.value (wanted_none rfl) rfl ?_ (hK _ hX);simp[go_sem, *]
    case y2v7 =>
     intro a' w' hA hdep hX K hK;obtain⟨r36,q36⟩:=dpv hdep ⟨3,.data⟩ (by simp) rfl rfl;obtain⟨r39,q39⟩:=dpv hdep ⟨6,.data⟩ (by simp) rfl rfl;have kx0:=(show(Instr.lookup 166 (.map (some bm)) (.int .i64 (q:Int)) true).run Tryz.prog w'=.ok (.tuple #[.nilIface,.bool false]) w' by have h:=(HM.out.of_block (hX.block bm hbs (by simp))).look Tryz.underlying3 Tryz.underlying166 (zero_shape _) hin true; rw[HLK.out]at h; exact h)
     clear hdep ha0 hA;refine StepG.value (wanted_none rfl) rfl ?_ (hK _ hX);simp[go_sem, *]
    case y2v8 =>
     exact mvV ⟨7,.data⟩ (by simp) rfl rfl rfl rfl rfl
    case y2v9 =>
     intro a' w' hA hdep hX K hK;obtain⟨r32,q32⟩:=dpv hdep ⟨8,.data⟩ (by simp) rfl rfl;clear hdep ha0 hA;refine StepG.value (wanted_none rfl) rfl ?_ (hK _ hX);simp[go_sem, *]
    case y2v10 =>
     intro a' w' hA hdep hX K hK;obtain⟨r32,q32⟩:=dpv hdep ⟨8,.data⟩ (by simp) rfl rfl;clear hdep ha0 hA;refine StepG.value (wanted_none rfl) rfl ?_ (hK _ hX);simp[go_sem, *]
    case y2v11 =>
     intro a' w' hA hdep hX K hK;obtain⟨r41,q41⟩:=dpv hdep ⟨9,.data⟩ (by simp) rfl rfl;clear hdep ha0 hA;refine StepG.value (wanted_none rfl) rfl ?_ (hK _ hX);simp[go_sem, *]
    case y2v12 =>
     intro a' w' hA hdep hX K hK;obtain⟨r42,q42⟩:=dpv hdep ⟨10,.data⟩ (by simp) rfl rfl;clear hdep ha0 hA;refine StepG.value (wanted_none rfl) rfl ?_ (hK _ hX);simp[go_sem, *]
    intro w2 hXR;rw[ha0]; simp only[putL,Act.put,sA_,sZ_,sS_];clear ha0 hsz0;have B2:Below w.heap.size w w2:=hXR.below (by first | assumption | exact(by repeat (first | exact Below.refl _ _ | exact Nat.le_refl _ | refine Below.alloc ?_ ?_ _ | refine Below.setCell ?_ ?_ _ | refine Below.drew ?_ | refine bl_drewN ?_ _ | (assumption) | refine bl_call ?_ (by assumption) ?_ | omega | (simp <;> omega)))) (by first | omega | (simp <;> omega)) (by simp);have c0':w2.cell? ⟨g,0,none⟩=some (.int .i64 a):=(hXR.cell (by simp) c0)
    clear hXR
    by_cases hxa:x=a
    ·
     have HE:=Lib.hid (show m x=true by rw[hxa]; exact HA.out);go_wp2_with fail
     go_ret
     exact⟨by rw[HE.out]; rfl,(by repeat (first | exact Below.refl _ _ | exact Nat.le_refl _ | refine Below.alloc ?_ ?_ _ | refine Below.setCell ?_ ?_ _ | refine Below.drew ?_ | refine bl_drewN ?_ _ | (assumption) | refine bl_call ?_ (by assumption) ?_ | omega | (simp <;> omega)))⟩
    ·
     have HE:Hid (m x=false):=Lib.hid (by
      cases h1:m x
      · rfl
      · exact absurd ((HXA.out hxa).1 h1).1 HSH.out)
     have HNE:Hid (((x:Int) == (a:Int))=false):=Lib.hid (by simp; omega);go_wp2_with fail
     go_ret
     exact⟨by rw[HE.out]; show Ending.returned (.bool ((x:Int) == (a:Int)))=_; rw[HNE.out],(by repeat (first | exact Below.refl _ _ | exact Nat.le_refl _ | refine Below.alloc ?_ ?_ _ | refine Below.setCell ?_ ?_ _ | refine Below.drew ?_ | refine bl_drewN ?_ _ | (assumption) | refine bl_call ?_ (by assumption) ?_ | omega | (simp <;> omega)))⟩
open Go.RowKit Go.ChangeMaps
attribute [local go_sem ↓] Go.wp_at_zero Go.wp_at_succ
end Go.Proofs.YtaffkceklkdokaaGreatDoor
