/- The rack's plain functions: within, places, ends. -/
import Derived.Test.YtpnfmbeccjehiabGreatDoorProg
import Derived.WalkKit
import Derived.Below
import Derived.Lib.Hide
import Derived.Deep.QuietTactic
import Derived.BigQuiet
import Derived.WalkLawsBesides
import Derived.Deep.DrawnRows
import Derived.Deep.DeepCutAuto
import Derived.WalkSpells
import Derived.Laws.Strings3
import Derived.Lib.IndexLaws
import Derived.Lib.Strings
import Derived.Test.YtpnfmbeccjehiabGreatDoorZ1
set_option maxRecDepth 100000
set_option maxHeartbeats 8000000
namespace Go.Proofs.YtpnfmbeccjehiabGreatDoor
open Go.RowKit
attribute [local go_sem ↓] Go.wp_at_zero Go.wp_at_succ
theorem bl_drewN {B:Nat} {a w:World} (h:Below B a w) (n:Nat):Below B a (w.drewN n):=h.trans ⟨rfl,rfl,rfl,Nat.le_refl _,fun _ _=>rfl⟩
theorem bl_call {B n:Nat} {w a w1:World} (h:Below B w a) (hb:Below n a w1) (hn:B<=n):Below B w w1:=h.trans (hb.mono hn)
abbrev ty:Ty:=⟨40,78,81,84⟩
theorem within_any (n lo hi : Int) (w : World) :
    Calls Tryz.prog 13 #[.int .i64 n, .int .i64 lo, .int .i64 hi] w fun e w' => e = .returned (.bool (decide (lo <= n) && decide (n <= hi))) /\ w = w' := by
  by_cases h1 : lo <= n
  · by_cases h2 : n <= hi
    all_goals
      go_enter Tryz.func13, Tryz.ntmps13
      go_wp2
      go_ret
      exact ⟨by simp [h1, h2], rfl⟩
  · go_enter Tryz.func13, Tryz.ntmps13
    go_wp2
    go_ret
    exact ⟨by have : ¬ lo <= n := by omega
              simp [this], rfl⟩
theorem places_any (o:Int) (k:Nat) (w:World) (ho:o=k) (hk:k<=3) :
  Calls Tryz.prog 46 #[.int .i64 o] w fun e w'=>e=.returned (.int .i64 (RK.R k))/\w=w':=by
 subst ho;rcases (by omega:k=0∨k=1∨k=2∨k=3) with rfl | rfl | rfl | rfl;all_goals
  go_enter Tryz.func46,Tryz.ntmps46;go_wp2
  go_ret
  exact⟨by rfl,rfl⟩
theorem ta_pe (x:Value) (w:World):(Instr.typeAssert (.iface 40 x) 42 78 true).run Tryz.prog w=.ok (.tuple #[.agg #[.int .i64 0,.int .i64 0],.bool false]) w:=by kernel_rfl
theorem ta_pp (x:Value) (w:World):(Instr.typeAssert (.iface 78 x) 42 78 true).run Tryz.prog w=.ok (.tuple #[x,.bool true]) w:=by kernel_rfl
theorem ta_pt (x:Value) (w:World):(Instr.typeAssert (.iface 81 x) 42 78 true).run Tryz.prog w=.ok (.tuple #[.agg #[.int .i64 0,.int .i64 0],.bool false]) w:=by kernel_rfl
theorem ta_te (x:Value) (w:World):(Instr.typeAssert (.iface 40 x) 42 81 true).run Tryz.prog w=.ok (.tuple #[.pointer none,.bool false]) w:=by kernel_rfl
theorem ta_tp (x:Value) (w:World):(Instr.typeAssert (.iface 78 x) 42 81 true).run Tryz.prog w=.ok (.tuple #[.pointer none,.bool false]) w:=by kernel_rfl
theorem ta_tt (x:Value) (w:World):(Instr.typeAssert (.iface 81 x) 42 81 true).run Tryz.prog w=.ok (.tuple #[x,.bool true]) w:=by kernel_rfl
/-- the cells of a tree -/
theorem row5 {w:World} {g t:Nat} {c0 c1 c2 c3 c4:Value} (h:w.heap[g]?=some (.cells #[c0,c1,c2,c3,c4] t (0,0))) :
  w.cell? ⟨g,0,none⟩=some c0/\w.cell? ⟨g,1,none⟩=some c1/\w.cell? ⟨g,2,none⟩=some c2/\w.cell? ⟨g,3,none⟩=some c3/\w.cell? ⟨g,4,none⟩=some c4 :=
 ⟨cell_of_row w g 0 _ _ _ h,cell_of_row w g 1 _ _ _ h,cell_of_row w g 2 _ _ _ h,cell_of_row w g 3 _ _ _ h,cell_of_row w g 4 _ _ _ h⟩
/-- what ends hands back -/
def EndsOf (m:RK.S) (a b:Nat) (c:Bool):Prop:=(RK.Emp m/\a=0/\b=0/\c=false)∨(RK.IsMin m a/\RK.IsMax m b/\c=true)
theorem ends_any {k:Nat} {v:Value} {m:RK.S} {F:Nat->Prop} (w:World) (h:Rep ty k w v m F) :
  Calls Tryz.prog 49 #[v] w fun e w'=>∃(a b:Nat) (c:Bool),e=.returned (.tuple #[.agg #[.int .i64 a,.int .i64 b],.bool c])/\EndsOf m a b c/\Below w.heap.size w w':=by
 have t1:=ta_pe;have t2:=ta_pp;have t3:=ta_pt;have t4:=ta_te;have t5:=ta_tt;rcases h.cases with ⟨he,rfl⟩ | ⟨a,b,ha,hb,⟨-,rfl⟩ | ⟨g,o,c,d,rfl,hg⟩⟩
 · have HE:=Lib.hid he;clear he h;unfold vE;go_enter Tryz.func49,Tryz.ntmps49;go_wp2_with fail;exact bodyPost_ret (v:=.tuple #[.agg #[.int .i64 0,.int .i64 0],.bool false]) (by simp[results,Tryz.results49,go_sem]) rfl ⟨0,0,false,rfl,.inl ⟨HE.out,rfl,rfl,rfl⟩,(by repeat (first | exact Below.refl _ _ | exact Nat.le_refl _ | refine Below.alloc ?_ ?_ _ | refine Below.setCell ?_ ?_ _ | refine Below.drew ?_ | refine bl_drewN ?_ _ | (assumption) | refine bl_call ?_ (by assumption) ?_ | omega | (simp <;> omega)))⟩
 · have HA:=Lib.hid ha;have HB:=Lib.hid hb;clear ha hb h;unfold vP;go_enter Tryz.func49,Tryz.ntmps49;go_wp2_with fail;exact bodyPost_ret (v:=.tuple #[.agg #[.int .i64 a,.int .i64 b],.bool true]) (by simp[results,Tryz.results49,go_sem]) rfl ⟨a,b,true,rfl,.inr ⟨HA.out,HB.out,rfl⟩,(by repeat (first | exact Below.refl _ _ | exact Nat.le_refl _ | refine Below.alloc ?_ ?_ _ | refine Below.setCell ?_ ?_ _ | refine Below.drew ?_ | refine bl_drewN ?_ _ | (assumption) | refine bl_call ?_ (by assumption) ?_ | omega | (simp <;> omega)))⟩
 · have HA:=Lib.hid ha;have HB:=Lib.hid hb;have hgs:=blk_lt hg;obtain⟨c0,c1,-⟩:=row5 hg;clear ha hb h hg;unfold vT;go_enter Tryz.func49,Tryz.ntmps49;go_wp2_with fail;exact bodyPost_ret (v:=.tuple #[.agg #[.int .i64 a,.int .i64 b],.bool true]) (by simp[results,Tryz.results49,go_sem, *]) rfl ⟨a,b,true,rfl,.inr ⟨HA.out,HB.out,rfl⟩,(by repeat (first | exact Below.refl _ _ | exact Nat.le_refl _ | refine Below.alloc ?_ ?_ _ | refine Below.setCell ?_ ?_ _ | refine Below.drew ?_ | refine bl_drewN ?_ _ | (assumption) | refine bl_call ?_ (by assumption) ?_ | omega | (simp <;> omega)))⟩
open Go.RowKit
attribute [local go_sem ↓] Go.wp_at_zero Go.wp_at_succ
theorem pair_mem {m:RK.S} (hs:RK.Supp 0 m) {a b x:Nat} (ha:RK.IsMin m a) (hb:RK.IsMax m b):m x=true↔x=a∨x=b:=by
 have r0:RK.R 0=2:=rfl;have a2:=hs a ha.1;have b2:=hs b hb.1;rw[r0]at a2 b2;constructor
 · intro h;have:=ha.2 x h;have:=hb.2 x h;omega
 ·
  rintro (rfl | rfl)
  · exact ha.1
  · exact hb.1
/-- quotient and rest of a place -/
theorem wrap_small {n:Nat} (h:n < 256):IntKind.i64.wrap (n:Int)=n:=by
 simp[IntKind.wrap,IntKind.signed,IntKind.bits];omega
theorem quo_facts {k x:Nat} (hx:x < RK.R (k+1)) (hk:k+1<=3):∃q r p:Nat,x / RK.R k=q/\x % RK.R k=r/\RK.R k=p/\(x:Int).tdiv (p:Int)=q/\(x:Int).tmod (p:Int)=r/\q < 256/\r < 256/\p<=256/\2<=p/\q < p/\r < p/\x < 256:=by
 have h1:=RK.split_lt hx;have h2:=RK.R_le (k:=k) (by omega);have h3:=RK.R_le hk;have h4:=RK.R_pos k;refine⟨x / RK.R k,x % RK.R k,RK.R k,rfl,rfl,rfl,?_,?_,by omega,by omega,h2,h4,h1.1,h1.2,by omega⟩
 · rw[Int.tdiv_eq_ediv_of_nonneg (by omega)]; rfl
 · rw[Int.tmod_eq_emod_of_nonneg (by omega)]; rfl
theorem zero_shape (w:World):(zeroValue 42).run Tryz.prog w=.ok .nilIface w:=by kernel_rfl
theorem spotsF_in {k:Nat} {m:RK.S} {a s:Nat} {sp:Nat->Value} (h:RK.shelves k m a s=true):spotsF k m a sp (s:Int)=some (sp s):=by
 unfold spotsF;rw[Int.toNat_natCast,if_pos ⟨Int.natCast_nonneg _,h⟩]
theorem spotsF_out {k:Nat} {m:RK.S} {a s:Nat} {sp:Nat->Value} (h:¬RK.shelves k m a s=true):spotsF k m a sp (s:Int)=none:=by
 unfold spotsF;rw[Int.toNat_natCast,if_neg (fun q=>h q.2)]
theorem has_any:∀(k:Nat) (o:Int) (v:Value) (m:RK.S) (F:Nat->Prop) (x:Nat) (w:World),o=k->k<=3->Rep ty k w v m F->x < RK.R k ->
  Calls Tryz.prog 47 #[v,.int .i64 o,.int .i64 x] w fun e w'=>e=.returned (.bool (m x))/\Below w.heap.size w w':=by
 intro k
 induction k with
 | zero =>
  intro o v m F x w ho hk h hx;have t1:=ta_pe;have t2:=ta_pp;have t4:=ta_te;obtain⟨hs,-,⟨he,rfl⟩ | ⟨a,b,ha,hb,rfl⟩⟩:=h
  ·
   have HE:=Lib.hid (he x);clear he hs;unfold vE;go_enter Tryz.func47,Tryz.ntmps47;go_wp2_with fail
   go_ret
   exact⟨by rw[HE.out]; rfl,(by repeat (first | exact Below.refl _ _ | exact Nat.le_refl _ | refine Below.alloc ?_ ?_ _ | refine Below.setCell ?_ ?_ _ | refine Below.drew ?_ | refine bl_drewN ?_ _ | (assumption) | refine bl_call ?_ (by assumption) ?_ | omega | (simp <;> omega)))⟩
  ·
   have hm:=pair_mem hs ha hb (x:=x);clear ha hb hs;unfold vP
   by_cases h1:x=a
   ·
    have HE:=Lib.hid (hm.2 (.inl h1));clear hm;go_enter Tryz.func47,Tryz.ntmps47;go_wp2_with fail
    go_ret
    exact⟨by rw[HE.out]; rfl,(by repeat (first | exact Below.refl _ _ | exact Nat.le_refl _ | refine Below.alloc ?_ ?_ _ | refine Below.setCell ?_ ?_ _ | refine Below.drew ?_ | refine bl_drewN ?_ _ | (assumption) | refine bl_call ?_ (by assumption) ?_ | omega | (simp <;> omega)))⟩
   ·
    by_cases h2:x=b
    ·
     have HE:=Lib.hid (hm.2 (.inr h2));clear hm;go_enter Tryz.func47,Tryz.ntmps47;go_wp2_with fail
     go_ret
     exact⟨by rw[HE.out]; rfl,(by repeat (first | exact Below.refl _ _ | exact Nat.le_refl _ | refine Below.alloc ?_ ?_ _ | refine Below.setCell ?_ ?_ _ | refine Below.drew ?_ | refine bl_drewN ?_ _ | (assumption) | refine bl_call ?_ (by assumption) ?_ | omega | (simp <;> omega)))⟩
    ·
     have HE:Hid (m x=false):=Lib.hid (by
      cases hq:m x
      · rfl
      ·
       rcases hm.1 hq with h | h
       · exact absurd h h1
       · exact absurd h h2)
     have hne:((x:Int) == (a:Int) || (x:Int) == (b:Int))=false:=by simp; omega
     have HNE:=Lib.hid hne;clear hm hne;go_enter Tryz.func47,Tryz.ntmps47;go_wp2_with fail
     go_ret
     exact⟨by rw[HE.out]; show Ending.returned (.bool ((x:Int) == (a:Int) || (x:Int) == (b:Int)))=_; rw[HNE.out],(by repeat (first | exact Below.refl _ _ | exact Nat.le_refl _ | refine Below.alloc ?_ ?_ _ | refine Below.setCell ?_ ?_ _ | refine Below.drew ?_ | refine bl_drewN ?_ _ | (assumption) | refine bl_call ?_ (by assumption) ?_ | omega | (simp <;> omega)))⟩
 | succ k ih =>
  intro o v m F x w ho hk h hx;have t1:=ta_pe;have t3:=ta_pt;have t4:=ta_te;have t5:=ta_tt;obtain⟨hs,⟨he,rfl,-⟩ | ⟨a,b,g,bm,sv,Fs,sp,Fp,ha,hb,rfl,hg,hmap,-,hsp,-⟩⟩:=h
  ·
   have HE:=Lib.hid (he x);clear he hs ih;unfold vE;go_enter Tryz.func47,Tryz.ntmps47;go_wp2_with fail
   go_ret
   exact⟨by rw[HE.out]; rfl,(by repeat (first | exact Below.refl _ _ | exact Nat.le_refl _ | refine Below.alloc ?_ ?_ _ | refine Below.setCell ?_ ?_ _ | refine Below.drew ?_ | refine bl_drewN ?_ _ | (assumption) | refine bl_call ?_ (by assumption) ?_ | omega | (simp <;> omega)))⟩
  ·
   have hgs:=blk_lt hg;have hbs:=hmap.lt;obtain⟨c0,c1,c2,c3,c4⟩:=row5 hg;have hk1:o-1=(k:Int):=by omega
   have HM:=Lib.hid hmap;have hpl:=fun wx=>places_any (k:Int) k wx rfl (by omega);obtain⟨q,r,p,eq,er,ep,hq,hr,q1,r1,p1,p2,q2,r2,x2⟩:=quo_facts hx hk;rw[ep]at hpl;have HPL:=Lib.hid hpl;have hxa:=fun(h:x≠a)=>RK.mem_iff hs h;rw[eq,er]at hxa;have HXA:=Lib.hid hxa;have HA:=Lib.hid ha.1;have HSP:=Lib.hid hsp;have HEP:=Lib.hid ep;have hp0:¬p=0:=by omega
   have hwq:=wrap_small q1;have hwr:=wrap_small r1;have hin:InInt (q:Int):=⟨by omega,by omega⟩
   clear hpl hmap hg hxa ha hb hsp eq er ep hs;unfold vT;go_enter Tryz.func47,Tryz.ntmps47;go_wp2_with fail;refine(HPL.out _).mono ?_;rintro e w1 ⟨rfl,rfl⟩
   by_cases hsh:RK.shelves k m a q=true
   ·
    have hlk:=spotsF_in (sp:=sp) hsh;have HSH:=Lib.hid hsh;have hR:=HSP.out q hsh;obtain⟨sv1,hsv⟩:∃s,sp q=s:=⟨_,rfl⟩
    rw[hsv]at hlk hR;have HR:=Lib.hid hR;have HLK:=Lib.hid hlk;clear hsh hR hsv hlk;go_upto_region 8 with fail;refine with_act fun a0 ha0=>?_;have hsz0:a0.tmps.size=62:=by rw[ha0]; rfl
    refine wp_region_vals (W0:=w) (by kernel_rfl) (by kernel_rfl) [(33,.pointer (some ⟨g,0,none⟩)),(34,.pointer (some ⟨g,0,none⟩)),(35,.pointer (some ⟨g,4,none⟩)),(36,.map (some bm)),(37,.int .i64 x),(38,.int .i64 p),(39,.int .i64 q),(40,.tuple #[sv1,.bool true]),(32,.tuple #[sv1,.bool true]),(41,sv1),(42,.bool true),(10,sv1),(11,.bool true)] rfl (by show([33,34,35,36,37,38,39,40,32,41,42,10,11]:List Nat).Nodup; decide) _ hsz0 (by kernel_rfl) (BelX.start _ _) ⟨⟨rfl,?y1v0⟩,⟨rfl,?y1v1⟩,⟨rfl,?y1v2⟩,⟨rfl,?y1v3⟩,⟨rfl,?y1v4⟩,⟨rfl,?y1v5⟩,⟨rfl,?y1v6⟩,⟨rfl,?y1v7⟩,⟨rfl,?y1v8⟩,⟨rfl,?y1v9⟩,⟨rfl,?y1v10⟩,⟨rfl,?y1v11⟩,⟨rfl,?y1v12⟩,trivial⟩ ?y1done
    case y1v0 =>
     exact mvVi rfl rfl rfl (by kernel_rfl) (by rw[ha0]; rfl)
    case y1v1 =>
     intro a' w' hA hdep hX K hK;obtain⟨r33,q33⟩:=dpv hdep ⟨0,.data⟩ (by simp) rfl rfl;clear hdep ha0 hA;refine StepG.value (wanted_none rfl) rfl ?_ (hK _ hX);simp[go_sem, *]
    case y1v2 =>
     intro a' w' hA hdep hX K hK;obtain⟨r34,q34⟩:=dpv hdep ⟨1,.data⟩ (by simp) rfl rfl;clear hdep ha0 hA;refine StepG.value (wanted_none rfl) rfl ?_ (hK _ hX);simp[go_sem, *]
    case y1v3 =>
     intro a' w' hA hdep hX K hK;obtain⟨r35,q35⟩:=dpv hdep ⟨2,.data⟩ (by simp) rfl rfl;have kc0:w'.cell? ⟨g,4,none⟩=some (.map (some bm)):=hX.cell (by simp) (by first | assumption | (go_simp; done) | (simp; done));clear hdep ha0 hA;refine StepG.value (wanted_none rfl) rfl ?_ (hK _ hX);simp[go_sem, *]
    case y1v4 =>
     exact mvVi rfl rfl rfl (by kernel_rfl) (by rw[ha0]; rfl)
    case y1v5 =>
     exact mvVi rfl rfl rfl (by kernel_rfl) (by rw[ha0]; rfl)
    case y1v6 =>
     intro a' w' hA hdep hX K hK;obtain⟨r37,q37⟩:=dpv hdep ⟨4,.data⟩ (by simp) rfl rfl;obtain⟨r38,q38⟩:=dpv hdep ⟨5,.data⟩ (by simp) rfl rfl;clear hdep ha0 hA;refine StepG.value (wanted_none rfl) rfl ?_ (hK _ hX);simp[go_sem, *]
    case y1v7 =>
     intro a' w' hA hdep hX K hK;obtain⟨r36,q36⟩:=dpv hdep ⟨3,.data⟩ (by simp) rfl rfl;obtain⟨r39,q39⟩:=dpv hdep ⟨6,.data⟩ (by simp) rfl rfl;have kx0:=(show(Instr.lookup 82 (.map (some bm)) (.int .i64 (q:Int)) true).run Tryz.prog w'=.ok (.tuple #[sv1,.bool true]) w' by have h:=(HM.out.of_block (hX.block bm hbs (by simp))).look Tryz.underlying3 Tryz.underlying82 (zero_shape _) hin true; rw[HLK.out]at h; exact h)
     clear hdep ha0 hA;refine StepG.value (wanted_none rfl) rfl ?_ (hK _ hX);simp[go_sem, *]
    case y1v8 =>
     exact mvV ⟨7,.data⟩ (by simp) rfl rfl rfl rfl rfl
    case y1v9 =>
     intro a' w' hA hdep hX K hK;obtain⟨r32,q32⟩:=dpv hdep ⟨8,.data⟩ (by simp) rfl rfl;clear hdep ha0 hA;refine StepG.value (wanted_none rfl) rfl ?_ (hK _ hX);simp[go_sem, *]
    case y1v10 =>
     intro a' w' hA hdep hX K hK;obtain⟨r32,q32⟩:=dpv hdep ⟨8,.data⟩ (by simp) rfl rfl;clear hdep ha0 hA;refine StepG.value (wanted_none rfl) rfl ?_ (hK _ hX);simp[go_sem, *]
    case y1v11 =>
     intro a' w' hA hdep hX K hK;obtain⟨r41,q41⟩:=dpv hdep ⟨9,.data⟩ (by simp) rfl rfl;clear hdep ha0 hA;refine StepG.value (wanted_none rfl) rfl ?_ (hK _ hX);simp[go_sem, *]
    case y1v12 =>
     intro a' w' hA hdep hX K hK;obtain⟨r42,q42⟩:=dpv hdep ⟨10,.data⟩ (by simp) rfl rfl;clear hdep ha0 hA;refine StepG.value (wanted_none rfl) rfl ?_ (hK _ hX);simp[go_sem, *]
    intro w2 hXR;rw[ha0]; simp only[putL,Act.put,sA_,sZ_,sS_];clear ha0 hsz0;have B2:Below w.heap.size w w2:=hXR.below (by first | assumption | exact(by repeat (first | exact Below.refl _ _ | exact Nat.le_refl _ | refine Below.alloc ?_ ?_ _ | refine Below.setCell ?_ ?_ _ | refine Below.drew ?_ | refine bl_drewN ?_ _ | (assumption) | refine bl_call ?_ (by assumption) ?_ | omega | (simp <;> omega)))) (by first | omega | (simp <;> omega)) (by simp)
    by_cases hxa:x=a
    ·
     have HE:=Lib.hid (show m x=true by rw[hxa]; exact HA.out);have c0':w2.cell? ⟨g,0,none⟩=some (.int .i64 a):=(hXR.cell (by simp) c0)
     go_wp2_with fail
     go_ret
     exact⟨by rw[HE.out]; rfl,(by repeat (first | exact Below.refl _ _ | exact Nat.le_refl _ | refine Below.alloc ?_ ?_ _ | refine Below.setCell ?_ ?_ _ | refine Below.drew ?_ | refine bl_drewN ?_ _ | (assumption) | refine bl_call ?_ (by assumption) ?_ | omega | (simp <;> omega)))⟩
    ·
     have hiff:=HXA.out hxa;rw[HSH.out]at hiff;have hR2:=HR.out.kept (BelP.ofX hXR) (fun b _ h=>by simp at h);have HC:=Lib.hid (ih (k:Int) sv1 _ _ r w2 rfl (by omega) hR2 (by rw[HEP.out]; omega));have hmx:m x=RK.spot k m a q r:=by
      cases h1:m x
      ·
       cases h2:RK.spot k m a q r
       · rfl
       · rw[hiff.2 ⟨rfl,h2⟩]at h1; cases h1
      · exact(hiff.1 h1).2.symm
     have HMX:=Lib.hid hmx;have HNE:Hid (((x:Int) == (a:Int))=false):=Lib.hid (by simp; omega);have hsz2:=B2.size;have c0':w2.cell? ⟨g,0,none⟩=some (.int .i64 a):=(hXR.cell (by simp) c0)
     clear hiff hR2 hmx hXR;go_wp2_with fail;refine HC.out.mono ?_;rintro e w3 ⟨rfl,hb3⟩;go_wp2_with fail
     go_ret
     exact⟨by rw[HMX.out]; show Ending.returned (.bool ((x:Int) == (a:Int) || RK.spot k m a q r))=_; rw[HNE.out,Bool.false_or],(by repeat (first | exact Below.refl _ _ | exact Nat.le_refl _ | refine Below.alloc ?_ ?_ _ | refine Below.setCell ?_ ?_ _ | refine Below.drew ?_ | refine bl_drewN ?_ _ | (assumption) | refine bl_call ?_ (by assumption) ?_ | omega | (simp <;> omega)))⟩
   ·
    have hlk:=spotsF_out (sp:=sp) hsh;have HSH:=Lib.hid hsh;have HLK:=Lib.hid hlk;clear hsh hlk;go_upto_region 8 with fail;refine with_act fun a0 ha0=>?_;have hsz0:a0.tmps.size=62:=by rw[ha0]; rfl
    refine wp_region_vals (W0:=w) (by kernel_rfl) (by kernel_rfl) [(33,.pointer (some ⟨g,0,none⟩)),(34,.pointer (some ⟨g,0,none⟩)),(35,.pointer (some ⟨g,4,none⟩)),(36,.map (some bm)),(37,.int .i64 x),(38,.int .i64 p),(39,.int .i64 q),(40,.tuple #[.nilIface,.bool false]),(32,.tuple #[.nilIface,.bool false]),(41,.nilIface),(42,.bool false),(10,.nilIface),(11,.bool false)] rfl (by show([33,34,35,36,37,38,39,40,32,41,42,10,11]:List Nat).Nodup; decide) _ hsz0 (by kernel_rfl) (BelX.start _ _) ⟨⟨rfl,?y2v0⟩,⟨rfl,?y2v1⟩,⟨rfl,?y2v2⟩,⟨rfl,?y2v3⟩,⟨rfl,?y2v4⟩,⟨rfl,?y2v5⟩,⟨rfl,?y2v6⟩,⟨rfl,?y2v7⟩,⟨rfl,?y2v8⟩,⟨rfl,?y2v9⟩,⟨rfl,?y2v10⟩,⟨rfl,?y2v11⟩,⟨rfl,?y2v12⟩,trivial⟩ ?y2done
    case y2v0 =>
     exact mvVi rfl rfl rfl (by kernel_rfl) (by rw[ha0]; rfl)
    case y2v1 =>
     intro a' w' hA hdep hX K hK;obtain⟨r33,q33⟩:=dpv hdep ⟨0,.data⟩ (by simp) rfl rfl;clear hdep ha0 hA;refine StepG.value (wanted_none rfl) rfl ?_ (hK _ hX);simp[go_sem, *]
    case y2v2 =>
     intro a' w' hA hdep hX K hK;obtain⟨r34,q34⟩:=dpv hdep ⟨1,.data⟩ (by simp) rfl rfl;clear hdep ha0 hA;refine StepG.value (wanted_none rfl) rfl ?_ (hK _ hX);simp[go_sem, *]
    case y2v3 =>
     intro a' w' hA hdep hX K hK;obtain⟨r35,q35⟩:=dpv hdep ⟨2,.data⟩ (by simp) rfl rfl;have kc0:w'.cell? ⟨g,4,none⟩=some (.map (some bm)):=hX.cell (by simp) (by first | assumption | (go_simp; done) | (simp; done));clear hdep ha0 hA;refine StepG.value (wanted_none rfl) rfl ?_ (hK _ hX);simp[go_sem, *]
    case y2v4 =>
     exact mvVi rfl rfl rfl (by kernel_rfl) (by rw[ha0]; rfl)
    case y2v5 =>
     exact mvVi rfl rfl rfl (by kernel_rfl) (by rw[ha0]; rfl)
    case y2v6 =>
     intro a' w' hA hdep hX K hK;obtain⟨r37,q37⟩:=dpv hdep ⟨4,.data⟩ (by simp) rfl rfl;obtain⟨r38,q38⟩:=dpv hdep ⟨5,.data⟩ (by simp) rfl rfl;clear hdep ha0 hA;refine StepG.value (wanted_none rfl) rfl ?_ (hK _ hX);simp[go_sem, *]
    case y2v7 =>
     intro a' w' hA hdep hX K hK;obtain⟨r36,q36⟩:=dpv hdep ⟨3,.data⟩ (by simp) rfl rfl;obtain⟨r39,q39⟩:=dpv hdep ⟨6,.data⟩ (by simp) rfl rfl;have kx0:=(show(Instr.lookup 82 (.map (some bm)) (.int .i64 (q:Int)) true).run Tryz.prog w'=.ok (.tuple #[.nilIface,.bool false]) w' by have h:=(HM.out.of_block (hX.block bm hbs (by simp))).look Tryz.underlying3 Tryz.underlying82 (zero_shape _) hin true; rw[HLK.out]at h; exact h)
     clear hdep ha0 hA;refine StepG.value (wanted_none rfl) rfl ?_ (hK _ hX);simp[go_sem, *]
    case y2v8 =>
     exact mvV ⟨7,.data⟩ (by simp) rfl rfl rfl rfl rfl
    case y2v9 =>
     intro a' w' hA hdep hX K hK;obtain⟨r32,q32⟩:=dpv hdep ⟨8,.data⟩ (by simp) rfl rfl;clear hdep ha0 hA;refine StepG.value (wanted_none rfl) rfl ?_ (hK _ hX);simp[go_sem, *]
    case y2v10 =>
     intro a' w' hA hdep hX K hK;obtain⟨r32,q32⟩:=dpv hdep ⟨8,.data⟩ (by simp) rfl rfl;clear hdep ha0 hA;refine StepG.value (wanted_none rfl) rfl ?_ (hK _ hX);simp[go_sem, *]
    case y2v11 =>
     intro a' w' hA hdep hX K hK;obtain⟨r41,q41⟩:=dpv hdep ⟨9,.data⟩ (by simp) rfl rfl;clear hdep ha0 hA;refine StepG.value (wanted_none rfl) rfl ?_ (hK _ hX);simp[go_sem, *]
    case y2v12 =>
     intro a' w' hA hdep hX K hK;obtain⟨r42,q42⟩:=dpv hdep ⟨10,.data⟩ (by simp) rfl rfl;clear hdep ha0 hA;refine StepG.value (wanted_none rfl) rfl ?_ (hK _ hX);simp[go_sem, *]
    intro w2 hXR;rw[ha0]; simp only[putL,Act.put,sA_,sZ_,sS_];clear ha0 hsz0;have B2:Below w.heap.size w w2:=hXR.below (by first | assumption | exact(by repeat (first | exact Below.refl _ _ | exact Nat.le_refl _ | refine Below.alloc ?_ ?_ _ | refine Below.setCell ?_ ?_ _ | refine Below.drew ?_ | refine bl_drewN ?_ _ | (assumption) | refine bl_call ?_ (by assumption) ?_ | omega | (simp <;> omega)))) (by first | omega | (simp <;> omega)) (by simp);have c0':w2.cell? ⟨g,0,none⟩=some (.int .i64 a):=(hXR.cell (by simp) c0)
    clear hXR
    by_cases hxa:x=a
    ·
     have HE:=Lib.hid (show m x=true by rw[hxa]; exact HA.out);go_wp2_with fail
     go_ret
     exact⟨by rw[HE.out]; rfl,(by repeat (first | exact Below.refl _ _ | exact Nat.le_refl _ | refine Below.alloc ?_ ?_ _ | refine Below.setCell ?_ ?_ _ | refine Below.drew ?_ | refine bl_drewN ?_ _ | (assumption) | refine bl_call ?_ (by assumption) ?_ | omega | (simp <;> omega)))⟩
    ·
     have HE:Hid (m x=false):=Lib.hid (by
      cases h1:m x
      · rfl
      · exact absurd ((HXA.out hxa).1 h1).1 HSH.out)
     have HNE:Hid (((x:Int) == (a:Int))=false):=Lib.hid (by simp; omega);go_wp2_with fail
     go_ret
     exact⟨by rw[HE.out]; show Ending.returned (.bool ((x:Int) == (a:Int)))=_; rw[HNE.out],(by repeat (first | exact Below.refl _ _ | exact Nat.le_refl _ | refine Below.alloc ?_ ?_ _ | refine Below.setCell ?_ ?_ _ | refine Below.drew ?_ | refine bl_drewN ?_ _ | (assumption) | refine bl_call ?_ (by assumption) ?_ | omega | (simp <;> omega)))⟩
open Go.RowKit Go.ChangeMaps
attribute [local go_sem ↓] Go.wp_at_zero Go.wp_at_succ
theorem ends_emp {k:Nat} {v:Value} {m:RK.S} {F:Nat->Prop} (w:World) (h:Rep ty k w v m F) (he:RK.Emp m) :
  Calls Tryz.prog 49 #[v] w fun e w'=>e=.returned (.tuple #[.agg #[.int .i64 0,.int .i64 0],.bool false])/\Below w.heap.size w w':=by
 refine(ends_any w h).mono ?_;rintro e w' ⟨a,b,c,rfl,h1,h2⟩;rcases h1 with ⟨-,rfl,rfl,rfl⟩ | ⟨h3,-⟩
 · exact⟨rfl,h2⟩
 · have:=h3.1; rw[he a]at this; cases this
theorem ends_some {k:Nat} {v:Value} {m:RK.S} {F:Nat->Prop} (w:World) (h:Rep ty k w v m F) {a b:Nat} (ha:RK.IsMin m a) (hb:RK.IsMax m b) :
  Calls Tryz.prog 49 #[v] w fun e w'=>e=.returned (.tuple #[.agg #[.int .i64 a,.int .i64 b],.bool true])/\Below w.heap.size w w':=by
 refine(ends_any w h).mono ?_;rintro e w' ⟨a',b',c,rfl,h1,h2⟩;rcases h1 with ⟨he,-⟩ | ⟨h3,h4,rfl⟩
 · have:=ha.1; rw[he a]at this; cases this
 · rw[h3.unique ha,h4.unique hb];exact⟨rfl,h2⟩
theorem next_any:∀(k:Nat) (v:Value) (m:RK.S) (F:Nat->Prop) (x:Nat) (w:World),k<=3->Rep ty k w v m F->x < RK.R k ->
  Calls Tryz.prog 41 #[v,.int .i64 (k:Int),.int .i64 x] w fun e w'=>e=.returned (.tuple #[.int .i64 ((RK.nxv k m x).1:Int),.int .i64 (RK.wk k m x:Int),.bool (RK.nxv k m x).2])/\Below w.heap.size w w':=by
 intro k
 induction k with
 | zero =>
  intro v m F x w hk h hx;have t4:=ta_te;have t5:=ta_tp;have hsup:=h.supp;rcases RK.ends_or hsup with ⟨he,e1,e2⟩ | ⟨a,b,ha,hb,e1,e2⟩
  ·
   have hv:RK.nxv 0 m x=(0,false):=by rw[RK.nxv,e1,e2]
   have hw:RK.wk 0 m x=1:=rfl;rw[hv,hw];have HE:=Lib.hid (ends_emp w h he);clear e1 e2 hv hw he h hsup;go_enter Tryz.func41,Tryz.ntmps41;go_wp2_with fail;refine HE.out.mono ?_;rintro e w1 ⟨rfl,hb1⟩;have B1:Below w.heap.size w w1:=hb1;have z1:=hb1.size;go_wp2_with fail;exact bodyPost_ret (v:=.tuple #[.int .i64 (0:Nat),.int .i64 (1:Nat),.bool false]) (by simp[results,Tryz.results41,go_sem]) rfl ⟨rfl,(by repeat (first | exact Below.refl _ _ | exact Nat.le_refl _ | refine Below.alloc ?_ ?_ _ | refine Below.setCell ?_ ?_ _ | refine Below.drew ?_ | refine bl_drewN ?_ _ | (assumption) | refine bl_call ?_ (by assumption) ?_ | omega | (simp <;> omega)))⟩
  ·
   have hv:RK.nxv 0 m x=if x < a then (a,true) else (b,decide (x < b)):=by rw[RK.nxv,e1,e2]
   have hw:RK.wk 0 m x=1:=rfl;rw[hw];have HE:=Lib.hid (ends_some w h ha hb);obtain⟨-,-,⟨he,-⟩ | ⟨a',b',ha',hb',rfl⟩⟩:=h
   · have:=ha.1; rw[he a]at this; cases this
   clear ha' hb' e1 e2 ha hb;unfold vP at HE ⊢
   by_cases hxa:x < a
   · rw[if_pos hxa]at hv;rw[hv];clear hv hw;go_enter Tryz.func41,Tryz.ntmps41;go_wp2_with fail;refine HE.out.mono ?_;rintro e w1 ⟨rfl,hb1⟩;have B1:Below w.heap.size w w1:=hb1;have z1:=hb1.size;go_wp2_with fail;exact bodyPost_ret (v:=.tuple #[.int .i64 (a:Nat),.int .i64 (1:Nat),.bool true]) (by simp[results,Tryz.results41,go_sem]) rfl ⟨rfl,(by repeat (first | exact Below.refl _ _ | exact Nat.le_refl _ | refine Below.alloc ?_ ?_ _ | refine Below.setCell ?_ ?_ _ | refine Below.drew ?_ | refine bl_drewN ?_ _ | (assumption) | refine bl_call ?_ (by assumption) ?_ | omega | (simp <;> omega)))⟩
   ·
    rw[if_neg hxa]at hv;rw[hv];clear hv hw
    by_cases hxb:x < b
    ·
     have hd:decide (x < b)=true:=by simpa using hxb
     rw[hd];go_enter Tryz.func41,Tryz.ntmps41;go_wp2_with fail;refine HE.out.mono ?_;rintro e w1 ⟨rfl,hb1⟩;have B1:Below w.heap.size w w1:=hb1;have z1:=hb1.size;go_upto_region 6 with fail;refine with_act fun a0 ha0=>?_;have hsz0:a0.tmps.size=135:=by rw[ha0]; rfl
     refine wp_region_vals (W0:=(w1.alloc (.cells #[.int .i64 a,.int .i64 b] 78))) (by kernel_rfl) (by kernel_rfl) [(47,.pointer (some ⟨w1.heap.size,1,none⟩)),(48,.int .i64 b),(49,.int .i64 x),(50,.pointer (some ⟨w1.heap.size,1,none⟩)),(51,.int .i64 b),(52,.bool true),(6,.int .i64 b),(7,.int .i64 1),(8,.bool true)] rfl (by show([47,48,49,50,51,52,6,7,8]:List Nat).Nodup; decide) _ hsz0 (by kernel_rfl) (BelX.start _ _) ⟨⟨rfl,?y1v0⟩,⟨rfl,?y1v1⟩,⟨rfl,?y1v2⟩,⟨rfl,?y1v3⟩,⟨rfl,?y1v4⟩,⟨rfl,?y1v5⟩,⟨rfl,?y1v6⟩,⟨rfl,?y1v7⟩,⟨rfl,?y1v8⟩,trivial⟩ ?y1done
     case y1v0 =>
      intro a' w' hA hdep hX K hK;obtain⟨r9,q9⟩:=dpi hA 9 (.pointer (some ⟨w1.heap.size,0,none⟩)) (by kernel_rfl) (by rw[ha0]; rfl);clear hdep ha0 hA;refine StepG.value (wanted_none rfl) rfl ?_ (hK _ hX);simp[go_sem, *]
     case y1v1 =>
      intro a' w' hA hdep hX K hK;obtain⟨r47,q47⟩:=dpv hdep ⟨0,.data⟩ (by simp) rfl rfl;have kc0:w'.cell? ⟨w1.heap.size,1,none⟩=some (.int .i64 b):=hX.cell (by simp) (by first | assumption | (go_simp; done) | (simp; done));clear hdep ha0 hA;refine StepG.value (wanted_none rfl) rfl ?_ (hK _ hX);simp[go_sem, *]
     case y1v2 =>
      exact mvVi rfl rfl rfl (by kernel_rfl) (by rw[ha0]; rfl)
     case y1v3 =>
      intro a' w' hA hdep hX K hK;obtain⟨r9,q9⟩:=dpi hA 9 (.pointer (some ⟨w1.heap.size,0,none⟩)) (by kernel_rfl) (by rw[ha0]; rfl);clear hdep ha0 hA;refine StepG.value (wanted_none rfl) rfl ?_ (hK _ hX);simp[go_sem, *]
     case y1v4 =>
      intro a' w' hA hdep hX K hK;obtain⟨r50,q50⟩:=dpv hdep ⟨3,.data⟩ (by simp) rfl rfl;have kc0:w'.cell? ⟨w1.heap.size,1,none⟩=some (.int .i64 b):=hX.cell (by simp) (by first | assumption | (go_simp; done) | (simp; done));clear hdep ha0 hA;refine StepG.value (wanted_none rfl) rfl ?_ (hK _ hX);simp[go_sem, *]
     case y1v5 =>
      intro a' w' hA hdep hX K hK;obtain⟨r49,q49⟩:=dpv hdep ⟨2,.data⟩ (by simp) rfl rfl;obtain⟨r51,q51⟩:=dpv hdep ⟨4,.data⟩ (by simp) rfl rfl;clear hdep ha0 hA;refine StepG.value (wanted_none rfl) rfl ?_ (hK _ hX);simp[go_sem, *]
     case y1v6 =>
      intro a' w' hA hdep hX K hK;obtain⟨r48,q48⟩:=dpv hdep ⟨1,.data⟩ (by simp) rfl rfl;clear hdep ha0 hA;refine StepG.value (wanted_none rfl) rfl ?_ (hK _ hX);simp[go_sem, *]
     case y1v7 =>
      intro a' w' hA hdep hX K hK;clear hdep ha0 hA;refine StepG.value (wanted_none rfl) rfl ?_ (hK _ hX);simp[go_sem, *]
     case y1v8 =>
      intro a' w' hA hdep hX K hK;obtain⟨r52,q52⟩:=dpv hdep ⟨5,.data⟩ (by simp) rfl rfl;clear hdep ha0 hA;refine StepG.value (wanted_none rfl) rfl ?_ (hK _ hX);simp[go_sem, *]
     intro w2 hXR;rw[ha0]; simp only[putL,Act.put,sA_,sZ_,sS_];clear ha0 hsz0;have B2:Below w.heap.size w w2:=hXR.below (by first | assumption | exact(by repeat (first | exact Below.refl _ _ | exact Nat.le_refl _ | refine Below.alloc ?_ ?_ _ | refine Below.setCell ?_ ?_ _ | refine Below.drew ?_ | refine bl_drewN ?_ _ | (assumption) | refine bl_call ?_ (by assumption) ?_ | omega | (simp <;> omega)))) (by first | omega | (simp <;> omega)) (by simp);clear hXR;go_wp2_with fail;exact bodyPost_ret (v:=.tuple #[.int .i64 (b:Nat),.int .i64 (1:Nat),.bool true]) (by simp[results,Tryz.results41,go_sem]) rfl ⟨rfl,(by repeat (first | exact Below.refl _ _ | exact Nat.le_refl _ | refine Below.alloc ?_ ?_ _ | refine Below.setCell ?_ ?_ _ | refine Below.drew ?_ | refine bl_drewN ?_ _ | (assumption) | refine bl_call ?_ (by assumption) ?_ | omega | (simp <;> omega)))⟩
    ·
     have hd:decide (x < b)=false:=by simpa using hxb
     rw[hd];go_enter Tryz.func41,Tryz.ntmps41;go_wp2_with fail;refine HE.out.mono ?_;rintro e w1 ⟨rfl,hb1⟩;have B1:Below w.heap.size w w1:=hb1;have z1:=hb1.size;go_upto_region 6 with fail;refine with_act fun a0 ha0=>?_;have hsz0:a0.tmps.size=135:=by rw[ha0]; rfl
     refine wp_region_vals (W0:=(w1.alloc (.cells #[.int .i64 a,.int .i64 b] 78))) (by kernel_rfl) (by kernel_rfl) [(47,.pointer (some ⟨w1.heap.size,1,none⟩)),(48,.int .i64 b),(49,.int .i64 x),(50,.pointer (some ⟨w1.heap.size,1,none⟩)),(51,.int .i64 b),(52,.bool false),(6,.int .i64 b),(7,.int .i64 1),(8,.bool false)] rfl (by show([47,48,49,50,51,52,6,7,8]:List Nat).Nodup; decide) _ hsz0 (by kernel_rfl) (BelX.start _ _) ⟨⟨rfl,?y2v0⟩,⟨rfl,?y2v1⟩,⟨rfl,?y2v2⟩,⟨rfl,?y2v3⟩,⟨rfl,?y2v4⟩,⟨rfl,?y2v5⟩,⟨rfl,?y2v6⟩,⟨rfl,?y2v7⟩,⟨rfl,?y2v8⟩,trivial⟩ ?y2done
     case y2v0 =>
      intro a' w' hA hdep hX K hK;obtain⟨r9,q9⟩:=dpi hA 9 (.pointer (some ⟨w1.heap.size,0,none⟩)) (by kernel_rfl) (by rw[ha0]; rfl);clear hdep ha0 hA;refine StepG.value (wanted_none rfl) rfl ?_ (hK _ hX);simp[go_sem, *]
     case y2v1 =>
      intro a' w' hA hdep hX K hK;obtain⟨r47,q47⟩:=dpv hdep ⟨0,.data⟩ (by simp) rfl rfl;have kc0:w'.cell? ⟨w1.heap.size,1,none⟩=some (.int .i64 b):=hX.cell (by simp) (by first | assumption | (go_simp; done) | (simp; done));clear hdep ha0 hA;refine StepG.value (wanted_none rfl) rfl ?_ (hK _ hX);simp[go_sem, *]
     case y2v2 =>
      exact mvVi rfl rfl rfl (by kernel_rfl) (by rw[ha0]; rfl)
     case y2v3 =>
      intro a' w' hA hdep hX K hK;obtain⟨r9,q9⟩:=dpi hA 9 (.pointer (some ⟨w1.heap.size,0,none⟩)) (by kernel_rfl) (by rw[ha0]; rfl);clear hdep ha0 hA;refine StepG.value (wanted_none rfl) rfl ?_ (hK _ hX);simp[go_sem, *]
     case y2v4 =>
      intro a' w' hA hdep hX K hK;obtain⟨r50,q50⟩:=dpv hdep ⟨3,.data⟩ (by simp) rfl rfl;have kc0:w'.cell? ⟨w1.heap.size,1,none⟩=some (.int .i64 b):=hX.cell (by simp) (by first | assumption | (go_simp; done) | (simp; done));clear hdep ha0 hA;refine StepG.value (wanted_none rfl) rfl ?_ (hK _ hX);simp[go_sem, *]
     case y2v5 =>
      intro a' w' hA hdep hX K hK;obtain⟨r49,q49⟩:=dpv hdep ⟨2,.data⟩ (by simp) rfl rfl;obtain⟨r51,q51⟩:=dpv hdep ⟨4,.data⟩ (by simp) rfl rfl;clear hdep ha0 hA;refine StepG.value (wanted_none rfl) rfl ?_ (hK _ hX);simp[go_sem, *]
     case y2v6 =>
      intro a' w' hA hdep hX K hK;obtain⟨r48,q48⟩:=dpv hdep ⟨1,.data⟩ (by simp) rfl rfl;clear hdep ha0 hA;refine StepG.value (wanted_none rfl) rfl ?_ (hK _ hX);simp[go_sem, *]
     case y2v7 =>
      intro a' w' hA hdep hX K hK;clear hdep ha0 hA;refine StepG.value (wanted_none rfl) rfl ?_ (hK _ hX);simp[go_sem, *]
     case y2v8 =>
      intro a' w' hA hdep hX K hK;obtain⟨r52,q52⟩:=dpv hdep ⟨5,.data⟩ (by simp) rfl rfl;clear hdep ha0 hA;refine StepG.value (wanted_none rfl) rfl ?_ (hK _ hX);simp[go_sem, *]
     intro w2 hXR;rw[ha0]; simp only[putL,Act.put,sA_,sZ_,sS_];clear ha0 hsz0;have B2:Below w.heap.size w w2:=hXR.below (by first | assumption | exact(by repeat (first | exact Below.refl _ _ | exact Nat.le_refl _ | refine Below.alloc ?_ ?_ _ | refine Below.setCell ?_ ?_ _ | refine Below.drew ?_ | refine bl_drewN ?_ _ | (assumption) | refine bl_call ?_ (by assumption) ?_ | omega | (simp <;> omega)))) (by first | omega | (simp <;> omega)) (by simp);clear hXR;go_wp2_with fail;exact bodyPost_ret (v:=.tuple #[.int .i64 (b:Nat),.int .i64 (1:Nat),.bool false]) (by simp[results,Tryz.results41,go_sem]) rfl ⟨rfl,(by repeat (first | exact Below.refl _ _ | exact Nat.le_refl _ | refine Below.alloc ?_ ?_ _ | refine Below.setCell ?_ ?_ _ | refine Below.drew ?_ | refine bl_drewN ?_ _ | (assumption) | refine bl_call ?_ (by assumption) ?_ | omega | (simp <;> omega)))⟩
 | succ k ih =>
  intro v m F x w hk h hx;have t4:=ta_te;have t5:=ta_tt;have hsup:=h.supp;rcases RK.ends_or hsup with ⟨he,e1,e2⟩ | ⟨a,b,ha,hb,e1,e2⟩
  ·
   have hv:RK.nxv (k+1) m x=(0,false):=by rw[RK.nxv,e1]
   have hw:RK.wk (k+1) m x=1:=RK.wk_one hsup (.inr (.inl he));rw[hv,hw];have HE:=Lib.hid (ends_emp w h he);clear e1 e2 hv hw he h hsup ih;go_enter Tryz.func41,Tryz.ntmps41;go_wp2_with fail;refine HE.out.mono ?_;rintro e w1 ⟨rfl,hb1⟩;have B1:Below w.heap.size w w1:=hb1;have z1:=hb1.size;go_wp2_with fail;exact bodyPost_ret (v:=.tuple #[.int .i64 (0:Nat),.int .i64 (1:Nat),.bool false]) (by simp[results,Tryz.results41,go_sem]) rfl ⟨rfl,(by repeat (first | exact Below.refl _ _ | exact Nat.le_refl _ | refine Below.alloc ?_ ?_ _ | refine Below.setCell ?_ ?_ _ | refine Below.drew ?_ | refine bl_drewN ?_ _ | (assumption) | refine bl_call ?_ (by assumption) ?_ | omega | (simp <;> omega)))⟩
  ·
   have HE:=Lib.hid (ends_some w h ha hb);obtain⟨-,⟨he,-⟩ | ⟨a',b',g,bm,sv,Fs,sp,Fp,ha',hb',rfl,hg,hmap,hsv,hsp,-⟩⟩:=h
   · have:=ha.1; rw[he a]at this; cases this
   obtain rfl:=ha'.unique ha;obtain rfl:=hb'.unique hb;unfold vT at HE ⊢
   by_cases hxa:x < a'
   · have hv:=RK.nxv_low e1 hxa;have hw:RK.wk (k+1) m x=1:=RK.wk_one hsup (.inr (.inr ⟨a',ha,hxa⟩));rw[hv,hw];clear hv hw e1 e2 ih ha hb ha' hb' hg hmap hsv hsp hsup;go_enter Tryz.func41,Tryz.ntmps41;go_wp2_with fail;refine HE.out.mono ?_;rintro e w1 ⟨rfl,hb1⟩;have B1:Below w.heap.size w w1:=hb1;have z1:=hb1.size;go_wp2_with fail;exact bodyPost_ret (v:=.tuple #[.int .i64 (a':Nat),.int .i64 (1:Nat),.bool true]) (by simp[results,Tryz.results41,go_sem]) rfl ⟨rfl,(by repeat (first | exact Below.refl _ _ | exact Nat.le_refl _ | refine Below.alloc ?_ ?_ _ | refine Below.setCell ?_ ?_ _ | refine Below.drew ?_ | refine bl_drewN ?_ _ | (assumption) | refine bl_call ?_ (by assumption) ?_ | omega | (simp <;> omega)))⟩
   ·
    have hvi:=RK.nxv_in e1 hxa;have hvo:=fun y=>RK.nxv_out e1 hxa (y:=y);have hvn:=RK.nxv_none e1 hxa;have hwi:=fun l=>RK.wk_in hsup ha hxa (l:=l);have hwo:=RK.wk_out hsup ha hxa;have hgs:=blk_lt hg;have hbs:=hmap.lt;obtain⟨q,r,p,eq,er,ep,hq,hr,q1,r1,p1,p2,q2,r2,x2⟩:=quo_facts hx hk;have hpl:=fun wx=>places_any (k:Int) k wx rfl (by omega);rw[ep]at hpl;rw[eq,er,ep]at hvi;rw[eq]at hvn;simp only[eq]at hvo;simp only[ep]at hvo;rw[eq,er]at hwo;have hwi':∀l,RK.IsMax (RK.spot k m a' q) l->r < l->RK.wk (k+1) m x=1+RK.wk k (RK.spot k m a' q) r:=by
     intro l h1 h2;have h3:=hwi l;rw[eq,er]at h3;exact h3 h1 h2
    have hib:RK.inb k m a' x=true↔∃l,RK.IsMax (RK.spot k m a' q) l/\r < l:=by
     have h3:=RK.inb_iff (k:=k) (m:=m) (a:=a') (x:=x);rw[eq,er]at h3;exact h3
    obtain⟨Z,hZ⟩:∃Z:Nat,q * p=Z:=⟨_,rfl⟩
    have hZb:Z<=65536:=by rw[<-hZ]; exact Nat.mul_le_mul (show q<=256 by omega) p1
    have hZi:(q:Int) * (p:Int)=(Z:Int):=by rw[<-hZ]; simp
    have HPL:=Lib.hid hpl;have HVI:=Lib.hid hvi;have HVO:=Lib.hid hvo;have HVN:=Lib.hid hvn;have HWI:=Lib.hid hwi';have HWO:=Lib.hid hwo;have HIB:=Lib.hid hib;have HEP:=Lib.hid ep;have HZ:=Lib.hid hZ;have HG:=Lib.hid hg;have HMP:=Lib.hid hmap;have HSV:=Lib.hid hsv;have HSP:=Lib.hid hsp;have hp0:¬p=0:=by omega
    have hwq:=wrap_small q1;have hwr:=wrap_small r1;have hwk:=wrap_small (n:=k) (by omega);have hin:InInt (q:Int):=⟨by omega,by omega⟩
    clear hpl hvi hvo hvn hwi hwi' hwo hib eq er ep hZ hg hmap hsv hsp e1 e2 ha hb ha' hb' hsup;go_enter Tryz.func41,Tryz.ntmps41;go_wp2_with fail;refine HE.out.mono ?_;rintro e w1 ⟨rfl,hb1⟩;have B1:Below w.heap.size w w1:=hb1;have z1:=hb1.size;go_upto_region 7 with fail;obtain⟨w2,h2⟩:∃wx:World,wx=w1.alloc (.cells #[.int .i64 a',.int .i64 b'] 78):=⟨_,rfl⟩
    rw[<-h2];have B2:Below w.heap.size w w2:=by rw[h2]; exact(by repeat (first | exact Below.refl _ _ | exact Nat.le_refl _ | refine Below.alloc ?_ ?_ _ | refine Below.setCell ?_ ?_ _ | refine Below.drew ?_ | refine bl_drewN ?_ _ | (assumption) | refine bl_call ?_ (by assumption) ?_ | omega | (simp <;> omega)))
    clear h2;go_wp2_with fail;refine(HPL.out _).mono ?_;rintro e w2' ⟨rfl,rfl⟩;have hsz2:=B2.size;have hg2:=(B2.block g hgs).trans HG.out;obtain⟨c0,c1,c2,c3,c4⟩:=row5 hg2;have HM1:=Lib.hid (HMP.out.of_block (B2.block bm hbs));have hbs1:=HM1.out.lt;clear hg2 B1
    by_cases hsh:RK.shelves k m a' q=true
    ·
     have hlk:=spotsF_in (sp:=sp) hsh;have HSH:=Lib.hid hsh;obtain⟨sv1,hsv1⟩:∃s,sp q=s:=⟨_,rfl⟩
     rw[hsv1]at hlk;have HSV1:=Lib.hid hsv1;have HLK:=Lib.hid hlk;clear hsh hsv1 hlk;go_upto_region 8 with fail;refine with_act fun a0 ha0=>?_;have hsz0:a0.tmps.size=135:=by rw[ha0]; rfl
     refine wp_region_vals (W0:=w2) (by kernel_rfl) (by kernel_rfl) [(57,.pointer (some ⟨g,0,none⟩)),(58,.pointer (some ⟨g,0,none⟩)),(59,.pointer (some ⟨g,4,none⟩)),(60,.map (some bm)),(61,.int .i64 x),(62,.int .i64 p),(63,.int .i64 q),(64,.tuple #[sv1,.bool true]),(56,.tuple #[sv1,.bool true]),(65,sv1),(66,.bool true),(13,sv1),(14,.bool true)] rfl (by show([57,58,59,60,61,62,63,64,56,65,66,13,14]:List Nat).Nodup; decide) _ hsz0 (by kernel_rfl) (BelX.start _ _) ⟨⟨rfl,?y3v0⟩,⟨rfl,?y3v1⟩,⟨rfl,?y3v2⟩,⟨rfl,?y3v3⟩,⟨rfl,?y3v4⟩,⟨rfl,?y3v5⟩,⟨rfl,?y3v6⟩,⟨rfl,?y3v7⟩,⟨rfl,?y3v8⟩,⟨rfl,?y3v9⟩,⟨rfl,?y3v10⟩,⟨rfl,?y3v11⟩,⟨rfl,?y3v12⟩,trivial⟩ ?y3done
     case y3v0 =>
      exact mvVi rfl rfl rfl (by kernel_rfl) (by rw[ha0]; rfl)
     case y3v1 =>
      intro a' w' hA hdep hX K hK;obtain⟨r57,q57⟩:=dpv hdep ⟨0,.data⟩ (by simp) rfl rfl;clear hdep ha0 hA;refine StepG.value (wanted_none rfl) rfl ?_ (hK _ hX);simp[go_sem, *]
     case y3v2 =>
      intro a' w' hA hdep hX K hK;obtain⟨r58,q58⟩:=dpv hdep ⟨1,.data⟩ (by simp) rfl rfl;clear hdep ha0 hA;refine StepG.value (wanted_none rfl) rfl ?_ (hK _ hX);simp[go_sem, *]
     case y3v3 =>
      intro a' w' hA hdep hX K hK;obtain⟨r59,q59⟩:=dpv hdep ⟨2,.data⟩ (by simp) rfl rfl;have kc0:w'.cell? ⟨g,4,none⟩=some (.map (some bm)):=hX.cell (by simp) (by first | assumption | (go_simp; done) | (simp; done));clear hdep ha0 hA;refine StepG.value (wanted_none rfl) rfl ?_ (hK _ hX);simp[go_sem, *]
     case y3v4 =>
      exact mvVi rfl rfl rfl (by kernel_rfl) (by rw[ha0]; rfl)
     case y3v5 =>
      exact mvVi rfl rfl rfl (by kernel_rfl) (by rw[ha0]; rfl)
     case y3v6 =>
      intro a' w' hA hdep hX K hK;obtain⟨r61,q61⟩:=dpv hdep ⟨4,.data⟩ (by simp) rfl rfl;obtain⟨r62,q62⟩:=dpv hdep ⟨5,.data⟩ (by simp) rfl rfl;clear hdep ha0 hA;refine StepG.value (wanted_none rfl) rfl ?_ (hK _ hX);simp[go_sem, *]
     case y3v7 =>
      intro a' w' hA hdep hX K hK;obtain⟨r60,q60⟩:=dpv hdep ⟨3,.data⟩ (by simp) rfl rfl;obtain⟨r63,q63⟩:=dpv hdep ⟨6,.data⟩ (by simp) rfl rfl;have kx0:=(show(Instr.lookup 82 (.map (some bm)) (.int .i64 (q:Int)) true).run Tryz.prog w'=.ok (.tuple #[sv1,.bool true]) w' by have h:=(HM1.out.of_block (hX.block bm hbs1 (by simp))).look Tryz.underlying3 Tryz.underlying82 (zero_shape _) hin true; rw[HLK.out]at h; exact h)
      clear hdep ha0 hA;refine StepG.value (wanted_none rfl) rfl ?_ (hK _ hX);simp[go_sem, *]
     case y3v8 =>
      exact mvV ⟨7,.data⟩ (by simp) rfl rfl rfl rfl rfl
     case y3v9 =>
      intro a' w' hA hdep hX K hK;obtain⟨r56,q56⟩:=dpv hdep ⟨8,.data⟩ (by simp) rfl rfl;clear hdep ha0 hA;refine StepG.value (wanted_none rfl) rfl ?_ (hK _ hX);simp[go_sem, *]
     case y3v10 =>
      intro a' w' hA hdep hX K hK;obtain⟨r56,q56⟩:=dpv hdep ⟨8,.data⟩ (by simp) rfl rfl;clear hdep ha0 hA;refine StepG.value (wanted_none rfl) rfl ?_ (hK _ hX);simp[go_sem, *]
     case y3v11 =>
      intro a' w' hA hdep hX K hK;obtain⟨r65,q65⟩:=dpv hdep ⟨9,.data⟩ (by simp) rfl rfl;clear hdep ha0 hA;refine StepG.value (wanted_none rfl) rfl ?_ (hK _ hX);simp[go_sem, *]
     case y3v12 =>
      intro a' w' hA hdep hX K hK;obtain⟨r66,q66⟩:=dpv hdep ⟨10,.data⟩ (by simp) rfl rfl;clear hdep ha0 hA;refine StepG.value (wanted_none rfl) rfl ?_ (hK _ hX);simp[go_sem, *]
     intro w3 hXR;rw[ha0]; simp only[putL,Act.put,sA_,sZ_,sS_];clear ha0 hsz0;have B3:Below w.heap.size w w3:=hXR.below (by first | assumption | exact(by repeat (first | exact Below.refl _ _ | exact Nat.le_refl _ | refine Below.alloc ?_ ?_ _ | refine Below.setCell ?_ ?_ _ | refine Below.drew ?_ | refine bl_drewN ?_ _ | (assumption) | refine bl_call ?_ (by assumption) ?_ | omega | (simp <;> omega)))) (by first | omega | (simp <;> omega)) (by simp);clear hXR;have hR3:Rep ty k w3 sv1 (RK.spot k m a' q) (Fp q):=by
      have h1:=HSP.out q HSH.out;rw[HSV1.out]at h1;exact h1.kept (BelP.mono (G:=fun _=>False) (⟨B3.os,B3.tape,B3.output,B3.size,fun j hj _=>B3.block j hj⟩:BelP (fun _=>False) w w3) (fun _ _ h=>h)) (fun _ _ h=>h)
     have hne:=RK.shelf_some HSH.out;obtain⟨mv,hmn⟩:=RK.exists_min hne;obtain⟨l,hl⟩:=RK.exists_max (RK.spot_supp k m a' q) hne;have hlb:l < 256:=by have:=RK.spot_supp k m a' q l hl.1; rw[HEP.out]at this; omega
     have HE2:=Lib.hid (ends_some w3 hR3 hmn hl);have HL:=Lib.hid hl;have hsz3:=B3.size;clear hR3 hne hmn hl c0 c1 c2 c3 c4;go_wp2_with fail;refine HE2.out.mono ?_;rintro e w4 ⟨rfl,hb4⟩;have B4:Below w.heap.size w w4:=bl_call B3 hb4 (by omega);have hsz4:=B4.size;go_upto_region 11 with fail;obtain⟨w5,h5⟩:∃wx:World,wx=w4.alloc (.cells #[.int .i64 mv,.int .i64 l] 78):=⟨_,rfl⟩
     rw[<-h5];have B5:Below w.heap.size w w5:=by rw[h5]; exact(by repeat (first | exact Below.refl _ _ | exact Nat.le_refl _ | refine Below.alloc ?_ ?_ _ | refine Below.setCell ?_ ?_ _ | refine Below.drew ?_ | refine bl_drewN ?_ _ | (assumption) | refine bl_call ?_ (by assumption) ?_ | omega | (simp <;> omega)))
     have hn5:w5.heap[w4.heap.size]?=some (.cells #[.int .i64 mv,.int .i64 l] 78 (0,0)):=by rw[h5]; exact blk_new _ _
     have n1:=row2_1 hn5;have hsz5:=B5.size;clear h5 hn5
     by_cases hrl:r < l
     ·
      skip
      skip
      refine with_act fun a0 ha0=>?_;have hsz0:a0.tmps.size=135:=by rw[ha0]; rfl
      refine wp_region_vals (W0:=w5) (by kernel_rfl) (by kernel_rfl) [(73,.int .i64 x),(74,.int .i64 p),(75,.int .i64 r),(76,.pointer (some ⟨w4.heap.size,1,none⟩)),(77,.int .i64 l),(78,.bool true)] rfl (by show([73,74,75,76,77,78]:List Nat).Nodup; decide) _ hsz0 (by kernel_rfl) (BelX.start _ _) ⟨⟨rfl,?y4v0⟩,⟨rfl,?y4v1⟩,⟨rfl,?y4v2⟩,⟨rfl,?y4v3⟩,⟨rfl,?y4v4⟩,⟨rfl,?y4v5⟩,trivial⟩ ?y4done
      case y4v0 =>
       exact mvVi rfl rfl rfl (by kernel_rfl) (by rw[ha0]; rfl)
      case y4v1 =>
       exact mvVi rfl rfl rfl (by kernel_rfl) (by rw[ha0]; rfl)
      case y4v2 =>
       intro a' w' hA hdep hX K hK;obtain⟨r73,q73⟩:=dpv hdep ⟨0,.data⟩ (by simp) rfl rfl;obtain⟨r74,q74⟩:=dpv hdep ⟨1,.data⟩ (by simp) rfl rfl;clear hdep ha0 hA;refine StepG.value (wanted_none rfl) rfl ?_ (hK _ hX);simp[go_sem, *]
      case y4v3 =>
       intro a' w' hA hdep hX K hK;obtain⟨r15,q15⟩:=dpi hA 15 (.pointer (some ⟨w4.heap.size,0,none⟩)) (by kernel_rfl) (by rw[ha0]; rfl);clear hdep ha0 hA;refine StepG.value (wanted_none rfl) rfl ?_ (hK _ hX);simp[go_sem, *]
      case y4v4 =>
       intro a' w' hA hdep hX K hK;obtain⟨r76,q76⟩:=dpv hdep ⟨3,.data⟩ (by simp) rfl rfl;have kc0:w'.cell? ⟨w4.heap.size,1,none⟩=some (.int .i64 l):=hX.cell (by simp) (by first | assumption | (go_simp; done) | (simp; done));clear hdep ha0 hA;refine StepG.value (wanted_none rfl) rfl ?_ (hK _ hX);simp[go_sem, *]
      case y4v5 =>
       intro a' w' hA hdep hX K hK;obtain⟨r75,q75⟩:=dpv hdep ⟨2,.data⟩ (by simp) rfl rfl;obtain⟨r77,q77⟩:=dpv hdep ⟨4,.data⟩ (by simp) rfl rfl;clear hdep ha0 hA;refine StepG.value (wanted_none rfl) rfl ?_ (hK _ hX);simp[go_sem, *]
      intro w6 hXR;rw[ha0]; simp only[putL,Act.put,sA_,sZ_,sS_];clear ha0 hsz0;have B6:Below w.heap.size w w6:=hXR.below (by first | assumption | exact(by repeat (first | exact Below.refl _ _ | exact Nat.le_refl _ | refine Below.alloc ?_ ?_ _ | refine Below.setCell ?_ ?_ _ | refine Below.drew ?_ | refine bl_drewN ?_ _ | (assumption) | refine bl_call ?_ (by assumption) ?_ | omega | (simp <;> omega)))) (by first | omega | (simp <;> omega)) (by simp);clear hXR;have hR6:Rep ty k w6 sv1 (RK.spot k m a' q) (Fp q):=by
       have h1:=HSP.out q HSH.out;rw[HSV1.out]at h1;exact h1.kept (⟨B6.os,B6.tape,B6.output,B6.size,fun j hj _=>B6.block j hj⟩:BelP (fun _=>False) w w6) (fun _ _ h=>h)
      have hN:=ih sv1 (RK.spot k m a' q) (Fp q) r w6 (by omega) hR6 (by rw[HEP.out]; exact r2);have hv:=HVI.out (HIB.out.2 ⟨l,HL.out,hrl⟩);have hw:=HWI.out l HL.out hrl;have hnb:=RK.nxv_bd k (RK.spot_supp k m a' q) r;have hwb:=RK.wk_bound k (RK.spot k m a' q) r;obtain⟨N1,hN1⟩:∃n,(RK.nxv k (RK.spot k m a' q) r).1=n:=⟨_,rfl⟩
      obtain⟨W1,hW1⟩:∃n,RK.wk k (RK.spot k m a' q) r=n:=⟨_,rfl⟩
      obtain⟨O1,hO1⟩:∃n,(RK.nxv k (RK.spot k m a' q) r).2=n:=⟨_,rfl⟩
      rw[hN1,hW1,hO1]at hN;rw[hN1]at hv;rw[hN1,HEP.out]at hnb;rw[hW1]at hw hwb;have HN:=Lib.hid hN;have HV:=Lib.hid hv;have HW:=Lib.hid hw;have hsz6:=B6.size;clear hN hv hw hN1 hW1 hO1 hR6 n1;go_wp2_with fail;refine HN.out.mono ?_;rintro e w7 ⟨rfl,hb7⟩;go_wp2_with fail;exact bodyPost_ret (v:=.tuple #[.int .i64 ((Z:Int)+N1),.int .i64 ((W1:Int)+1),.bool true]) (by simp[results,Tryz.results41,go_sem]) rfl ⟨by
       have e1:((q * p+N1:Nat):Int)=(Z:Int)+N1:=by rw[HZ.out]; simp
       rw[HV.out,HW.out,show((1+W1:Nat):Int)=(W1:Int)+1 by omega];dsimp only;rw[e1],(by repeat (first | exact Below.refl _ _ | exact Nat.le_refl _ | refine Below.alloc ?_ ?_ _ | refine Below.setCell ?_ ?_ _ | refine Below.drew ?_ | refine bl_drewN ?_ _ | (assumption) | refine bl_call ?_ (by assumption) ?_ | omega | (simp <;> omega)))⟩
     ·
      skip
      skip
      refine with_act fun a0 ha0=>?_;have hsz0:a0.tmps.size=135:=by rw[ha0]; rfl
      refine wp_region_vals (W0:=w5) (by kernel_rfl) (by kernel_rfl) [(73,.int .i64 x),(74,.int .i64 p),(75,.int .i64 r),(76,.pointer (some ⟨w4.heap.size,1,none⟩)),(77,.int .i64 l),(78,.bool false)] rfl (by show([73,74,75,76,77,78]:List Nat).Nodup; decide) _ hsz0 (by kernel_rfl) (BelX.start _ _) ⟨⟨rfl,?y5v0⟩,⟨rfl,?y5v1⟩,⟨rfl,?y5v2⟩,⟨rfl,?y5v3⟩,⟨rfl,?y5v4⟩,⟨rfl,?y5v5⟩,trivial⟩ ?y5done
      case y5v0 =>
       exact mvVi rfl rfl rfl (by kernel_rfl) (by rw[ha0]; rfl)
      case y5v1 =>
       exact mvVi rfl rfl rfl (by kernel_rfl) (by rw[ha0]; rfl)
      case y5v2 =>
       intro a' w' hA hdep hX K hK;obtain⟨r73,q73⟩:=dpv hdep ⟨0,.data⟩ (by simp) rfl rfl;obtain⟨r74,q74⟩:=dpv hdep ⟨1,.data⟩ (by simp) rfl rfl;clear hdep ha0 hA;refine StepG.value (wanted_none rfl) rfl ?_ (hK _ hX);simp[go_sem, *]
      case y5v3 =>
       intro a' w' hA hdep hX K hK;obtain⟨r15,q15⟩:=dpi hA 15 (.pointer (some ⟨w4.heap.size,0,none⟩)) (by kernel_rfl) (by rw[ha0]; rfl);clear hdep ha0 hA;refine StepG.value (wanted_none rfl) rfl ?_ (hK _ hX);simp[go_sem, *]
      case y5v4 =>
       intro a' w' hA hdep hX K hK;obtain⟨r76,q76⟩:=dpv hdep ⟨3,.data⟩ (by simp) rfl rfl;have kc0:w'.cell? ⟨w4.heap.size,1,none⟩=some (.int .i64 l):=hX.cell (by simp) (by first | assumption | (go_simp; done) | (simp; done));clear hdep ha0 hA;refine StepG.value (wanted_none rfl) rfl ?_ (hK _ hX);simp[go_sem, *]
      case y5v5 =>
       intro a' w' hA hdep hX K hK;obtain⟨r75,q75⟩:=dpv hdep ⟨2,.data⟩ (by simp) rfl rfl;obtain⟨r77,q77⟩:=dpv hdep ⟨4,.data⟩ (by simp) rfl rfl;clear hdep ha0 hA;refine StepG.value (wanted_none rfl) rfl ?_ (hK _ hX);simp[go_sem, *]
      intro w6 hXR;rw[ha0]; simp only[putL,Act.put,sA_,sZ_,sS_];clear ha0 hsz0;have B6:Below w.heap.size w w6:=hXR.below (by first | assumption | exact(by repeat (first | exact Below.refl _ _ | exact Nat.le_refl _ | refine Below.alloc ?_ ?_ _ | refine Below.setCell ?_ ?_ _ | refine Below.drew ?_ | refine bl_drewN ?_ _ | (assumption) | refine bl_call ?_ (by assumption) ?_ | omega | (simp <;> omega)))) (by first | omega | (simp <;> omega)) (by simp);clear hXR;have hib:¬RK.inb k m a' x=true:=fun h=>by
       obtain⟨l',hl',h'⟩:=HIB.out.1 h;rw[hl'.unique HL.out]at h'; exact hrl h'
      have hszW:=B6.size;have hgw:=(B6.block g hgs).trans HG.out;obtain⟨d0,d1,d2,d3,d4⟩:=row5 hgw;have HSVW:Hid (Rep ty k w6 sv (RK.shelves k m a') Fs):=Lib.hid (HSV.out.kept (⟨B6.os,B6.tape,B6.output,B6.size,fun j hj _=>B6.block j hj⟩:BelP (fun _=>False) w w6) (fun _ _ h=>h));have hN:=fun wx hR=>ih sv (RK.shelves k m a') Fs q wx (by omega) hR (by rw[HEP.out]; exact q2);have hnb:=RK.nxv_bd k (RK.shelves_supp k m a') q;have hvo:=HVO.out;have hvn:=HVN.out;have hwo:=HWO.out;have hokf:=RK.nxv_lt (RK.shelves_supp k m a') (x:=q);have hwb:=RK.wk_bound k (RK.shelves k m a') q;obtain⟨N2,hN2⟩:∃n,(RK.nxv k (RK.shelves k m a') q).1=n:=⟨_,rfl⟩
      obtain⟨W2,hW2⟩:∃n,RK.wk k (RK.shelves k m a') q=n:=⟨_,rfl⟩
      obtain⟨O2,hO2⟩:∃n,(RK.nxv k (RK.shelves k m a') q).2=n:=⟨_,rfl⟩
      simp only[hN2,hW2,hO2]at hN;rw[hN2,HEP.out]at hnb;rw[hW2]at hwo hwb;simp only[hN2,hO2]at hvo hvn hokf;have hw:RK.wk (k+1) m x=1+W2:=hwo (fun l' hl' h'=>by rw[hl'.unique HL.out]at h'; exact hrl h');have HW:=Lib.hid hw;have HN:=Lib.hid hN;have HVO2:=Lib.hid hvo;have HVN2:=Lib.hid hvn;have HOK:=Lib.hid hokf;have HMW:=Lib.hid (HMP.out.of_block (B6.block bm hbs));have hbW:=HMW.out.lt;clear hN hvo hvn hwo hN2 hW2 hO2 hgw hw hokf;go_upto_region 14 with fail;refine with_act fun a0 ha0=>?_;have hsz0:a0.tmps.size=135:=by rw[ha0]; rfl
      refine wp_region_vals (W0:=w6) (by kernel_rfl) (by kernel_rfl) [(100,.pointer (some ⟨g,0,none⟩)),(101,.pointer (some ⟨g,0,none⟩)),(102,.pointer (some ⟨g,3,none⟩)),(103,sv),(104,.int .i64 ((k:Int)+1)),(105,.int .i64 k),(106,.int .i64 x),(107,.int .i64 p),(108,.int .i64 q),(109,.tuple #[.int .i64 N2,.int .i64 W2,.bool O2]),(99,.tuple #[.int .i64 N2,.int .i64 W2,.bool O2]),(110,.int .i64 N2),(111,.int .i64 W2),(112,.bool O2),(20,.int .i64 N2),(21,.int .i64 W2),(10,.bool O2)] rfl (by show([100,101,102,103,104,105,106,107,108,109,99,110,111,112,20,21,10]:List Nat).Nodup; decide) _ hsz0 (by kernel_rfl) (BelX.start _ _) ⟨⟨rfl,?y6v0⟩,⟨rfl,?y6v1⟩,⟨rfl,?y6v2⟩,⟨rfl,?y6v3⟩,⟨rfl,?y6v4⟩,⟨rfl,?y6v5⟩,⟨rfl,?y6v6⟩,⟨rfl,?y6v7⟩,⟨rfl,?y6v8⟩,⟨rfl,?y6v9⟩,⟨rfl,?y6v10⟩,⟨rfl,?y6v11⟩,⟨rfl,?y6v12⟩,⟨rfl,?y6v13⟩,⟨rfl,?y6v14⟩,⟨rfl,?y6v15⟩,⟨rfl,?y6v16⟩,trivial⟩ ?y6done
      case y6v0 =>
       exact mvVi rfl rfl rfl (by kernel_rfl) (by rw[ha0]; rfl)
      case y6v1 =>
       intro a' w' hA hdep hX K hK;obtain⟨r100,q100⟩:=dpv hdep ⟨0,.data⟩ (by simp) rfl rfl;clear hdep ha0 hA;refine StepG.value (wanted_none rfl) rfl ?_ (hK _ hX);simp[go_sem, *]
      case y6v2 =>
       intro a' w' hA hdep hX K hK;obtain⟨r101,q101⟩:=dpv hdep ⟨1,.data⟩ (by simp) rfl rfl;clear hdep ha0 hA;refine StepG.value (wanted_none rfl) rfl ?_ (hK _ hX);simp[go_sem, *]
      case y6v3 =>
       intro a' w' hA hdep hX K hK;obtain⟨r102,q102⟩:=dpv hdep ⟨2,.data⟩ (by simp) rfl rfl;have kc0:w'.cell? ⟨g,3,none⟩=some (sv):=hX.cell (by simp) (by first | assumption | (go_simp; done) | (simp; done));clear hdep ha0 hA;refine StepG.value (wanted_none rfl) rfl ?_ (hK _ hX);simp[go_sem, *]
      case y6v4 =>
       exact mvVi rfl rfl rfl (by kernel_rfl) (by rw[ha0]; rfl)
      case y6v5 =>
       intro a' w' hA hdep hX K hK;obtain⟨r104,q104⟩:=dpv hdep ⟨4,.data⟩ (by simp) rfl rfl;clear hdep ha0 hA;refine StepG.value (wanted_none rfl) rfl ?_ (hK _ hX);simp[go_sem, *]
      case y6v6 =>
       exact mvVi rfl rfl rfl (by kernel_rfl) (by rw[ha0]; rfl)
      case y6v7 =>
       exact mvVi rfl rfl rfl (by kernel_rfl) (by rw[ha0]; rfl)
      case y6v8 =>
       intro a' w' hA hdep hX K hK;obtain⟨r106,q106⟩:=dpv hdep ⟨6,.data⟩ (by simp) rfl rfl;obtain⟨r107,q107⟩:=dpv hdep ⟨7,.data⟩ (by simp) rfl rfl;clear hdep ha0 hA;refine StepG.value (wanted_none rfl) rfl ?_ (hK _ hX);simp[go_sem, *]
      case y6v9 =>
       intro a' w' hA hdep hX K hK;obtain⟨r103,q103⟩:=dpv hdep ⟨3,.data⟩ (by simp) rfl rfl;obtain⟨r105,q105⟩:=dpv hdep ⟨5,.data⟩ (by simp) rfl rfl;obtain⟨r108,q108⟩:=dpv hdep ⟨8,.data⟩ (by simp) rfl rfl;clear hdep ha0 hA;refine StepG.call (wanted_none rfl) rfl ?_ ((HN.out w' (HSVW.out.kept (BelP.ofX hX) (fun _ _ h=>by simp at h)))) (fun w2 hb=>hK _ (hX.call hb));simp[go_sem, *]
      case y6v10 =>
       exact mvV ⟨9,.data⟩ (by simp) rfl rfl rfl rfl rfl
      case y6v11 =>
       intro a' w' hA hdep hX K hK;obtain⟨r99,q99⟩:=dpv hdep ⟨10,.data⟩ (by simp) rfl rfl;clear hdep ha0 hA;refine StepG.value (wanted_none rfl) rfl ?_ (hK _ hX);simp[go_sem, *]
      case y6v12 =>
       intro a' w' hA hdep hX K hK;obtain⟨r99,q99⟩:=dpv hdep ⟨10,.data⟩ (by simp) rfl rfl;clear hdep ha0 hA;refine StepG.value (wanted_none rfl) rfl ?_ (hK _ hX);simp[go_sem, *]
      case y6v13 =>
       intro a' w' hA hdep hX K hK;obtain⟨r99,q99⟩:=dpv hdep ⟨10,.data⟩ (by simp) rfl rfl;clear hdep ha0 hA;refine StepG.value (wanted_none rfl) rfl ?_ (hK _ hX);simp[go_sem, *]
      case y6v14 =>
       intro a' w' hA hdep hX K hK;obtain⟨r110,q110⟩:=dpv hdep ⟨11,.data⟩ (by simp) rfl rfl;clear hdep ha0 hA;refine StepG.value (wanted_none rfl) rfl ?_ (hK _ hX);simp[go_sem, *]
      case y6v15 =>
       intro a' w' hA hdep hX K hK;obtain⟨r111,q111⟩:=dpv hdep ⟨12,.data⟩ (by simp) rfl rfl;clear hdep ha0 hA;refine StepG.value (wanted_none rfl) rfl ?_ (hK _ hX);simp[go_sem, *]
      case y6v16 =>
       intro a' w' hA hdep hX K hK;obtain⟨r112,q112⟩:=dpv hdep ⟨13,.data⟩ (by simp) rfl rfl;clear hdep ha0 hA;refine StepG.value (wanted_none rfl) rfl ?_ (hK _ hX);simp[go_sem, *]
      intro w9 hXR;rw[ha0]; simp only[putL,Act.put,sA_,sZ_,sS_];clear ha0 hsz0;have B9:Below w.heap.size w w9:=hXR.below (by first | assumption | exact(by repeat (first | exact Below.refl _ _ | exact Nat.le_refl _ | refine Below.alloc ?_ ?_ _ | refine Below.setCell ?_ ?_ _ | refine Below.drew ?_ | refine bl_drewN ?_ _ | (assumption) | refine bl_call ?_ (by assumption) ?_ | omega | (simp <;> omega)))) (by first | omega | (simp <;> omega)) (by simp);cases O2 with
      | false =>
       have hv:RK.nxv (k+1) m x=(0,false):=HVN2.out hib (by simp);have HV:=Lib.hid hv;clear hv hXR;go_wp2_with fail;exact bodyPost_ret (v:=.tuple #[.int .i64 0,.int .i64 ((W2:Int)+1),.bool false]) (by simp[results,Tryz.results41,go_sem]) rfl ⟨by rw[HV.out,HW.out,show((1+W2:Nat):Int)=(W2:Int)+1 by omega]; rfl,(by repeat (first | exact Below.refl _ _ | exact Nat.le_refl _ | refine Below.alloc ?_ ?_ _ | refine Below.setCell ?_ ?_ _ | refine Below.drew ?_ | refine bl_drewN ?_ _ | (assumption) | refine bl_call ?_ (by assumption) ?_ | omega | (simp <;> omega)))⟩
      | true =>
       obtain⟨hsn,hsnb⟩:=HOK.out rfl;have hne2:=RK.shelf_some hsn;obtain⟨y,hy⟩:=RK.exists_min hne2;obtain⟨yl,hyl⟩:=RK.exists_max (RK.spot_supp _ _ _ _) hne2;have hyb:y < 256:=by have:=RK.spot_supp k m a' N2 y hy.1; rw[HEP.out]at this; omega
       have hv:RK.nxv (k+1) m x=(N2 * p+y,true):=HVO2.out y hib rfl hy;have HV:=Lib.hid hv;have hlk2:=spotsF_in (sp:=sp) hsn;have hin2:InInt (N2:Int):=⟨by omega,by omega⟩
       obtain⟨sv2,hsv2⟩:∃s,sp N2=s:=⟨_,rfl⟩
       have hR9:=HSP.out N2 hsn;rw[hsv2]at hlk2 hR9;have hb9:=hXR.block bm hbW (by simp);have hlook2:(Instr.lookup 82 (.map (some bm)) (.int .i64 (N2:Int)) false).run Tryz.prog w9=.ok sv2 w9:=by
        have h:=(HMW.out.of_block hb9).look Tryz.underlying3 Tryz.underlying82 (zero_shape _) hin2 false;rw[hlk2]at h;exact h
       have hR9':Rep ty k w9 sv2 (RK.spot k m a' N2) (Fp N2):=hR9.kept (⟨B9.os,B9.tape,B9.output,B9.size,fun j hj _=>B9.block j hj⟩:BelP (fun _=>False) w w9) (fun _ _ h=>h);have HE3:=Lib.hid (ends_some w9 hR9' hy hyl);have e4:w9.cell? ⟨g,4,none⟩=some (.map (some bm)):=hXR.cell (by simp) d4;obtain⟨Z2,hZ2⟩:∃Z:Nat,N2 * p=Z:=⟨_,rfl⟩
       have hZ2b:Z2<=65536:=by rw[<-hZ2]; exact Nat.mul_le_mul (show N2<=256 by omega) p1
       have hZ2i:(N2:Int) * (p:Int)=(Z2:Int):=by rw[<-hZ2]; simp
       have HZ2:=Lib.hid hZ2;have hsz9:=B9.size;clear hv hXR hlk2 hsv2 hR9 hR9' hb9 hZ2 hy hyl hne2 hsn d0 d1 d2 d3 d4;go_wp2_with fail;refine HE3.out.mono ?_;rintro e w10 ⟨rfl,hb10⟩;have hsz10:=hb10.size;have B10:Below w.heap.size w w10:=bl_call B9 hb10 (by omega);clear hlook2 e4;go_wp2_with fail;exact bodyPost_ret (v:=.tuple #[.int .i64 ((Z2:Int)+y),.int .i64 ((W2:Int)+1),.bool true]) (by simp[results,Tryz.results41,go_sem]) rfl ⟨by
        have e1:((N2 * p+y:Nat):Int)=(Z2:Int)+y:=by rw[HZ2.out]; simp
        rw[HV.out,HW.out,show((1+W2:Nat):Int)=(W2:Int)+1 by omega];dsimp only;rw[e1],(by repeat (first | exact Below.refl _ _ | exact Nat.le_refl _ | refine Below.alloc ?_ ?_ _ | refine Below.setCell ?_ ?_ _ | refine Below.drew ?_ | refine bl_drewN ?_ _ | (assumption) | refine bl_call ?_ (by assumption) ?_ | omega | (simp <;> omega)))⟩
    ·
     have hlk:=spotsF_out (sp:=sp) hsh;have HSH:=Lib.hid hsh;have HLK:=Lib.hid hlk;clear hsh hlk;go_upto_region 8 with fail;refine with_act fun a0 ha0=>?_;have hsz0:a0.tmps.size=135:=by rw[ha0]; rfl
     refine wp_region_vals (W0:=w2) (by kernel_rfl) (by kernel_rfl) [(57,.pointer (some ⟨g,0,none⟩)),(58,.pointer (some ⟨g,0,none⟩)),(59,.pointer (some ⟨g,4,none⟩)),(60,.map (some bm)),(61,.int .i64 x),(62,.int .i64 p),(63,.int .i64 q),(64,.tuple #[.nilIface,.bool false]),(56,.tuple #[.nilIface,.bool false]),(65,.nilIface),(66,.bool false),(13,.nilIface),(14,.bool false)] rfl (by show([57,58,59,60,61,62,63,64,56,65,66,13,14]:List Nat).Nodup; decide) _ hsz0 (by kernel_rfl) (BelX.start _ _) ⟨⟨rfl,?y7v0⟩,⟨rfl,?y7v1⟩,⟨rfl,?y7v2⟩,⟨rfl,?y7v3⟩,⟨rfl,?y7v4⟩,⟨rfl,?y7v5⟩,⟨rfl,?y7v6⟩,⟨rfl,?y7v7⟩,⟨rfl,?y7v8⟩,⟨rfl,?y7v9⟩,⟨rfl,?y7v10⟩,⟨rfl,?y7v11⟩,⟨rfl,?y7v12⟩,trivial⟩ ?y7done
     case y7v0 =>
      exact mvVi rfl rfl rfl (by kernel_rfl) (by rw[ha0]; rfl)
     case y7v1 =>
      intro a' w' hA hdep hX K hK;obtain⟨r57,q57⟩:=dpv hdep ⟨0,.data⟩ (by simp) rfl rfl;clear hdep ha0 hA;refine StepG.value (wanted_none rfl) rfl ?_ (hK _ hX);simp[go_sem, *]
     case y7v2 =>
      intro a' w' hA hdep hX K hK;obtain⟨r58,q58⟩:=dpv hdep ⟨1,.data⟩ (by simp) rfl rfl;clear hdep ha0 hA;refine StepG.value (wanted_none rfl) rfl ?_ (hK _ hX);simp[go_sem, *]
     case y7v3 =>
      intro a' w' hA hdep hX K hK;obtain⟨r59,q59⟩:=dpv hdep ⟨2,.data⟩ (by simp) rfl rfl;have kc0:w'.cell? ⟨g,4,none⟩=some (.map (some bm)):=hX.cell (by simp) (by first | assumption | (go_simp; done) | (simp; done));clear hdep ha0 hA;refine StepG.value (wanted_none rfl) rfl ?_ (hK _ hX);simp[go_sem, *]
     case y7v4 =>
      exact mvVi rfl rfl rfl (by kernel_rfl) (by rw[ha0]; rfl)
     case y7v5 =>
      exact mvVi rfl rfl rfl (by kernel_rfl) (by rw[ha0]; rfl)
     case y7v6 =>
      intro a' w' hA hdep hX K hK;obtain⟨r61,q61⟩:=dpv hdep ⟨4,.data⟩ (by simp) rfl rfl;obtain⟨r62,q62⟩:=dpv hdep ⟨5,.data⟩ (by simp) rfl rfl;clear hdep ha0 hA;refine StepG.value (wanted_none rfl) rfl ?_ (hK _ hX);simp[go_sem, *]
     case y7v7 =>
      intro a' w' hA hdep hX K hK;obtain⟨r60,q60⟩:=dpv hdep ⟨3,.data⟩ (by simp) rfl rfl;obtain⟨r63,q63⟩:=dpv hdep ⟨6,.data⟩ (by simp) rfl rfl;have kx0:=(show(Instr.lookup 82 (.map (some bm)) (.int .i64 (q:Int)) true).run Tryz.prog w'=.ok (.tuple #[.nilIface,.bool false]) w' by have h:=(HM1.out.of_block (hX.block bm hbs1 (by simp))).look Tryz.underlying3 Tryz.underlying82 (zero_shape _) hin true; rw[HLK.out]at h; exact h)
      clear hdep ha0 hA;refine StepG.value (wanted_none rfl) rfl ?_ (hK _ hX);simp[go_sem, *]
     case y7v8 =>
      exact mvV ⟨7,.data⟩ (by simp) rfl rfl rfl rfl rfl
     case y7v9 =>
      intro a' w' hA hdep hX K hK;obtain⟨r56,q56⟩:=dpv hdep ⟨8,.data⟩ (by simp) rfl rfl;clear hdep ha0 hA;refine StepG.value (wanted_none rfl) rfl ?_ (hK _ hX);simp[go_sem, *]
     case y7v10 =>
      intro a' w' hA hdep hX K hK;obtain⟨r56,q56⟩:=dpv hdep ⟨8,.data⟩ (by simp) rfl rfl;clear hdep ha0 hA;refine StepG.value (wanted_none rfl) rfl ?_ (hK _ hX);simp[go_sem, *]
     case y7v11 =>
      intro a' w' hA hdep hX K hK;obtain⟨r65,q65⟩:=dpv hdep ⟨9,.data⟩ (by simp) rfl rfl;clear hdep ha0 hA;refine StepG.value (wanted_none rfl) rfl ?_ (hK _ hX);simp[go_sem, *]
     case y7v12 =>
      intro a' w' hA hdep hX K hK;obtain⟨r66,q66⟩:=dpv hdep ⟨10,.data⟩ (by simp) rfl rfl;clear hdep ha0 hA;refine StepG.value (wanted_none rfl) rfl ?_ (hK _ hX);simp[go_sem, *]
     intro w3 hXR;rw[ha0]; simp only[putL,Act.put,sA_,sZ_,sS_];clear ha0 hsz0;have B3:Below w.heap.size w w3:=hXR.below (by first | assumption | exact(by repeat (first | exact Below.refl _ _ | exact Nat.le_refl _ | refine Below.alloc ?_ ?_ _ | refine Below.setCell ?_ ?_ _ | refine Below.drew ?_ | refine bl_drewN ?_ _ | (assumption) | refine bl_call ?_ (by assumption) ?_ | omega | (simp <;> omega)))) (by first | omega | (simp <;> omega)) (by simp);clear hXR;clear c0 c1 c2 c3 c4;have hem:∀l',¬RK.IsMax (RK.spot k m a' q) l':=fun l' hl'=>by
      have:=RK.shelf_none (by simpa using HSH.out) (by rw[HEP.out]; exact q2) l';rw[hl'.1]at this; cases this
     have hib:¬RK.inb k m a' x=true:=fun h=>by
      obtain⟨l',hl',h'⟩:=HIB.out.1 h;exact hem l' hl'
     have hszW:=B3.size;have hgw:=(B3.block g hgs).trans HG.out;obtain⟨d0,d1,d2,d3,d4⟩:=row5 hgw;have HSVW:Hid (Rep ty k w3 sv (RK.shelves k m a') Fs):=Lib.hid (HSV.out.kept (⟨B3.os,B3.tape,B3.output,B3.size,fun j hj _=>B3.block j hj⟩:BelP (fun _=>False) w w3) (fun _ _ h=>h));have hN:=fun wx hR=>ih sv (RK.shelves k m a') Fs q wx (by omega) hR (by rw[HEP.out]; exact q2);have hnb:=RK.nxv_bd k (RK.shelves_supp k m a') q;have hvo:=HVO.out;have hvn:=HVN.out;have hwo:=HWO.out;have hokf:=RK.nxv_lt (RK.shelves_supp k m a') (x:=q);have hwb:=RK.wk_bound k (RK.shelves k m a') q;obtain⟨N2,hN2⟩:∃n,(RK.nxv k (RK.shelves k m a') q).1=n:=⟨_,rfl⟩
     obtain⟨W2,hW2⟩:∃n,RK.wk k (RK.shelves k m a') q=n:=⟨_,rfl⟩
     obtain⟨O2,hO2⟩:∃n,(RK.nxv k (RK.shelves k m a') q).2=n:=⟨_,rfl⟩
     simp only[hN2,hW2,hO2]at hN;rw[hN2,HEP.out]at hnb;rw[hW2]at hwo hwb;simp only[hN2,hO2]at hvo hvn hokf;have hw:RK.wk (k+1) m x=1+W2:=hwo (fun l' hl' _=>hem l' hl');have HW:=Lib.hid hw;have HN:=Lib.hid hN;have HVO2:=Lib.hid hvo;have HVN2:=Lib.hid hvn;have HOK:=Lib.hid hokf;have HMW:=Lib.hid (HMP.out.of_block (B3.block bm hbs));have hbW:=HMW.out.lt;clear hN hvo hvn hwo hN2 hW2 hO2 hgw hw hokf;go_upto_region 14 with fail;refine with_act fun a0 ha0=>?_;have hsz0:a0.tmps.size=135:=by rw[ha0]; rfl
     refine wp_region_vals (W0:=w3) (by kernel_rfl) (by kernel_rfl) [(100,.pointer (some ⟨g,0,none⟩)),(101,.pointer (some ⟨g,0,none⟩)),(102,.pointer (some ⟨g,3,none⟩)),(103,sv),(104,.int .i64 ((k:Int)+1)),(105,.int .i64 k),(106,.int .i64 x),(107,.int .i64 p),(108,.int .i64 q),(109,.tuple #[.int .i64 N2,.int .i64 W2,.bool O2]),(99,.tuple #[.int .i64 N2,.int .i64 W2,.bool O2]),(110,.int .i64 N2),(111,.int .i64 W2),(112,.bool O2),(20,.int .i64 N2),(21,.int .i64 W2),(10,.bool O2)] rfl (by show([100,101,102,103,104,105,106,107,108,109,99,110,111,112,20,21,10]:List Nat).Nodup; decide) _ hsz0 (by kernel_rfl) (BelX.start _ _) ⟨⟨rfl,?y8v0⟩,⟨rfl,?y8v1⟩,⟨rfl,?y8v2⟩,⟨rfl,?y8v3⟩,⟨rfl,?y8v4⟩,⟨rfl,?y8v5⟩,⟨rfl,?y8v6⟩,⟨rfl,?y8v7⟩,⟨rfl,?y8v8⟩,⟨rfl,?y8v9⟩,⟨rfl,?y8v10⟩,⟨rfl,?y8v11⟩,⟨rfl,?y8v12⟩,⟨rfl,?y8v13⟩,⟨rfl,?y8v14⟩,⟨rfl,?y8v15⟩,⟨rfl,?y8v16⟩,trivial⟩ ?y8done
     case y8v0 =>
      exact mvVi rfl rfl rfl (by kernel_rfl) (by rw[ha0]; rfl)
     case y8v1 =>
      intro a' w' hA hdep hX K hK;obtain⟨r100,q100⟩:=dpv hdep ⟨0,.data⟩ (by simp) rfl rfl;clear hdep ha0 hA;refine StepG.value (wanted_none rfl) rfl ?_ (hK _ hX);simp[go_sem, *]
     case y8v2 =>
      intro a' w' hA hdep hX K hK;obtain⟨r101,q101⟩:=dpv hdep ⟨1,.data⟩ (by simp) rfl rfl;clear hdep ha0 hA;refine StepG.value (wanted_none rfl) rfl ?_ (hK _ hX);simp[go_sem, *]
     case y8v3 =>
      intro a' w' hA hdep hX K hK;obtain⟨r102,q102⟩:=dpv hdep ⟨2,.data⟩ (by simp) rfl rfl;have kc0:w'.cell? ⟨g,3,none⟩=some (sv):=hX.cell (by simp) (by first | assumption | (go_simp; done) | (simp; done));clear hdep ha0 hA;refine StepG.value (wanted_none rfl) rfl ?_ (hK _ hX);simp[go_sem, *]
     case y8v4 =>
      exact mvVi rfl rfl rfl (by kernel_rfl) (by rw[ha0]; rfl)
     case y8v5 =>
      intro a' w' hA hdep hX K hK;obtain⟨r104,q104⟩:=dpv hdep ⟨4,.data⟩ (by simp) rfl rfl;clear hdep ha0 hA;refine StepG.value (wanted_none rfl) rfl ?_ (hK _ hX);simp[go_sem, *]
     case y8v6 =>
      exact mvVi rfl rfl rfl (by kernel_rfl) (by rw[ha0]; rfl)
     case y8v7 =>
      exact mvVi rfl rfl rfl (by kernel_rfl) (by rw[ha0]; rfl)
     case y8v8 =>
      intro a' w' hA hdep hX K hK;obtain⟨r106,q106⟩:=dpv hdep ⟨6,.data⟩ (by simp) rfl rfl;obtain⟨r107,q107⟩:=dpv hdep ⟨7,.data⟩ (by simp) rfl rfl;clear hdep ha0 hA;refine StepG.value (wanted_none rfl) rfl ?_ (hK _ hX);simp[go_sem, *]
     case y8v9 =>
      intro a' w' hA hdep hX K hK;obtain⟨r103,q103⟩:=dpv hdep ⟨3,.data⟩ (by simp) rfl rfl;obtain⟨r105,q105⟩:=dpv hdep ⟨5,.data⟩ (by simp) rfl rfl;obtain⟨r108,q108⟩:=dpv hdep ⟨8,.data⟩ (by simp) rfl rfl;clear hdep ha0 hA;refine StepG.call (wanted_none rfl) rfl ?_ ((HN.out w' (HSVW.out.kept (BelP.ofX hX) (fun _ _ h=>by simp at h)))) (fun w2 hb=>hK _ (hX.call hb));simp[go_sem, *]
     case y8v10 =>
      exact mvV ⟨9,.data⟩ (by simp) rfl rfl rfl rfl rfl
     case y8v11 =>
      intro a' w' hA hdep hX K hK;obtain⟨r99,q99⟩:=dpv hdep ⟨10,.data⟩ (by simp) rfl rfl;clear hdep ha0 hA;refine StepG.value (wanted_none rfl) rfl ?_ (hK _ hX);simp[go_sem, *]
     case y8v12 =>
      intro a' w' hA hdep hX K hK;obtain⟨r99,q99⟩:=dpv hdep ⟨10,.data⟩ (by simp) rfl rfl;clear hdep ha0 hA;refine StepG.value (wanted_none rfl) rfl ?_ (hK _ hX);simp[go_sem, *]
     case y8v13 =>
      intro a' w' hA hdep hX K hK;obtain⟨r99,q99⟩:=dpv hdep ⟨10,.data⟩ (by simp) rfl rfl;clear hdep ha0 hA;refine StepG.value (wanted_none rfl) rfl ?_ (hK _ hX);simp[go_sem, *]
     case y8v14 =>
      intro a' w' hA hdep hX K hK;obtain⟨r110,q110⟩:=dpv hdep ⟨11,.data⟩ (by simp) rfl rfl;clear hdep ha0 hA;refine StepG.value (wanted_none rfl) rfl ?_ (hK _ hX);simp[go_sem, *]
     case y8v15 =>
      intro a' w' hA hdep hX K hK;obtain⟨r111,q111⟩:=dpv hdep ⟨12,.data⟩ (by simp) rfl rfl;clear hdep ha0 hA;refine StepG.value (wanted_none rfl) rfl ?_ (hK _ hX);simp[go_sem, *]
     case y8v16 =>
      intro a' w' hA hdep hX K hK;obtain⟨r112,q112⟩:=dpv hdep ⟨13,.data⟩ (by simp) rfl rfl;clear hdep ha0 hA;refine StepG.value (wanted_none rfl) rfl ?_ (hK _ hX);simp[go_sem, *]
     intro w9 hXR;rw[ha0]; simp only[putL,Act.put,sA_,sZ_,sS_];clear ha0 hsz0;have B9:Below w.heap.size w w9:=hXR.below (by first | assumption | exact(by repeat (first | exact Below.refl _ _ | exact Nat.le_refl _ | refine Below.alloc ?_ ?_ _ | refine Below.setCell ?_ ?_ _ | refine Below.drew ?_ | refine bl_drewN ?_ _ | (assumption) | refine bl_call ?_ (by assumption) ?_ | omega | (simp <;> omega)))) (by first | omega | (simp <;> omega)) (by simp);cases O2 with
     | false =>
      have hv:RK.nxv (k+1) m x=(0,false):=HVN2.out hib (by simp);have HV:=Lib.hid hv;clear hv hXR;go_wp2_with fail;exact bodyPost_ret (v:=.tuple #[.int .i64 0,.int .i64 ((W2:Int)+1),.bool false]) (by simp[results,Tryz.results41,go_sem]) rfl ⟨by rw[HV.out,HW.out,show((1+W2:Nat):Int)=(W2:Int)+1 by omega]; rfl,(by repeat (first | exact Below.refl _ _ | exact Nat.le_refl _ | refine Below.alloc ?_ ?_ _ | refine Below.setCell ?_ ?_ _ | refine Below.drew ?_ | refine bl_drewN ?_ _ | (assumption) | refine bl_call ?_ (by assumption) ?_ | omega | (simp <;> omega)))⟩
     | true =>
      obtain⟨hsn,hsnb⟩:=HOK.out rfl;have hne2:=RK.shelf_some hsn;obtain⟨y,hy⟩:=RK.exists_min hne2;obtain⟨yl,hyl⟩:=RK.exists_max (RK.spot_supp _ _ _ _) hne2;have hyb:y < 256:=by have:=RK.spot_supp k m a' N2 y hy.1; rw[HEP.out]at this; omega
      have hv:RK.nxv (k+1) m x=(N2 * p+y,true):=HVO2.out y hib rfl hy;have HV:=Lib.hid hv;have hlk2:=spotsF_in (sp:=sp) hsn;have hin2:InInt (N2:Int):=⟨by omega,by omega⟩
      obtain⟨sv2,hsv2⟩:∃s,sp N2=s:=⟨_,rfl⟩
      have hR9:=HSP.out N2 hsn;rw[hsv2]at hlk2 hR9;have hb9:=hXR.block bm hbW (by simp);have hlook2:(Instr.lookup 82 (.map (some bm)) (.int .i64 (N2:Int)) false).run Tryz.prog w9=.ok sv2 w9:=by
       have h:=(HMW.out.of_block hb9).look Tryz.underlying3 Tryz.underlying82 (zero_shape _) hin2 false;rw[hlk2]at h;exact h
      have hR9':Rep ty k w9 sv2 (RK.spot k m a' N2) (Fp N2):=hR9.kept (⟨B9.os,B9.tape,B9.output,B9.size,fun j hj _=>B9.block j hj⟩:BelP (fun _=>False) w w9) (fun _ _ h=>h);have HE3:=Lib.hid (ends_some w9 hR9' hy hyl);have e4:w9.cell? ⟨g,4,none⟩=some (.map (some bm)):=hXR.cell (by simp) d4;obtain⟨Z2,hZ2⟩:∃Z:Nat,N2 * p=Z:=⟨_,rfl⟩
      have hZ2b:Z2<=65536:=by rw[<-hZ2]; exact Nat.mul_le_mul (show N2<=256 by omega) p1
      have hZ2i:(N2:Int) * (p:Int)=(Z2:Int):=by rw[<-hZ2]; simp
      have HZ2:=Lib.hid hZ2;have hsz9:=B9.size;clear hv hXR hlk2 hsv2 hR9 hR9' hb9 hZ2 hy hyl hne2 hsn d0 d1 d2 d3 d4;go_wp2_with fail;refine HE3.out.mono ?_;rintro e w10 ⟨rfl,hb10⟩;have hsz10:=hb10.size;have B10:Below w.heap.size w w10:=bl_call B9 hb10 (by omega);clear hlook2 e4;go_wp2_with fail;exact bodyPost_ret (v:=.tuple #[.int .i64 ((Z2:Int)+y),.int .i64 ((W2:Int)+1),.bool true]) (by simp[results,Tryz.results41,go_sem]) rfl ⟨by
       have e1:((N2 * p+y:Nat):Int)=(Z2:Int)+y:=by rw[HZ2.out]; simp
       rw[HV.out,HW.out,show((1+W2:Nat):Int)=(W2:Int)+1 by omega];dsimp only;rw[e1],(by repeat (first | exact Below.refl _ _ | exact Nat.le_refl _ | refine Below.alloc ?_ ?_ _ | refine Below.setCell ?_ ?_ _ | refine Below.drew ?_ | refine bl_drewN ?_ _ | (assumption) | refine bl_call ?_ (by assumption) ?_ | omega | (simp <;> omega)))⟩
end Go.Proofs.YtpnfmbeccjehiabGreatDoor
