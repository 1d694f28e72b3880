/- The rack's methods: New, usable, check, found. -/
import Derived.Test.YtpnfmbeccjehiabGreatDoorZ2
import Derived.Test.YtpnfmbeccjehiabGreatDoorZ3
import Derived.Shelf.LaysM
import Derived.Shelf.Strconv.Itoa3
import Derived.Lib.ItoaLen
set_option maxHeartbeats 8000000
set_option maxRecDepth 100000
namespace Go.Proofs.YtpnfmbeccjehiabGreatDoor
open Go.RowKit
attribute [local go_sem ↓] Go.wp_at_zero Go.wp_at_succ
/-- a rack in memory -/
def RackIs (w:World) (rb k:Nat) (m:RK.S) (v:Value) (F:Nat->Prop):Prop :=
 w.heap[rb]?=some (.cells #[.int .i64 ((k:Int)+1),v] 44 (0,0))/\Rep ty k w v m F/\¬F rb
theorem RackIs.below {w w':World} {rb k:Nat} {m:RK.S} {v:Value} {F:Nat->Prop} (h:RackIs w rb k m v F) (hb:Below w.heap.size w w'):RackIs w' rb k m v F :=
 ⟨(hb.block rb (blk_lt h.1)).trans h.1,h.2.1.below hb,h.2.2⟩
theorem row2 {w:World} {g t:Nat} {c0 c1:Value} (h:w.heap[g]?=some (.cells #[c0,c1] t (0,0))) :
  w.cell? ⟨g,0,none⟩=some c0/\w.cell? ⟨g,1,none⟩=some c1 :=
 ⟨cell_of_row w g 0 _ _ _ h,cell_of_row w g 1 _ _ _ h⟩
theorem new_ok (k:Nat) (w:World) (hk:k<=3) :
  Calls Tryz.prog 4 #[.int .i64 k] w fun e w'=>∃rb,e=.returned (.pointer (some ⟨rb,0,none⟩))/\RackIs w' rb k (fun _=>false) (vE ty) (fun _=>False)/\w.heap.size<=rb/\Below w.heap.size w w':=by
 have HW:=Lib.hid (fun wx=>within_any (k:Int) 0 3 wx);go_enter Tryz.func4,Tryz.ntmps4;go_wp2_with fail;refine(HW.out _).mono ?_;rintro e w1 ⟨rfl,rfl⟩;rw[show(decide ((0:Int)<=(k:Int)) && decide ((k:Int)<=3))=true by simp; omega];go_wp2_with fail
 go_ret
 exact⟨w.heap.size,rfl,⟨blk_new w _,rep_empty _ _ _ (fun _=>rfl),fun h=>h⟩,Nat.le_refl _,(by repeat (first | exact Below.refl _ _ | exact Nat.le_refl _ | refine Below.alloc ?_ ?_ _ | refine Below.setCell ?_ ?_ _ | refine Below.drew ?_ | refine bl_drewN ?_ _ | (assumption) | refine bl_call ?_ (by assumption) ?_ | omega | (simp <;> omega)))⟩
theorem new_bad (n:Int) (w:World) (h:¬(0<=n/\n<=3)) :
  Calls Tryz.prog 4 #[.int .i64 n] w fun e w'=>e=.returned (.pointer none)/\w=w':=by
 have HW:=Lib.hid (fun wx=>within_any n 0 3 wx);have HN:=Lib.hid h;clear h;go_enter Tryz.func4,Tryz.ntmps4;go_wp2_with fail;refine(HW.out _).mono ?_;rintro e w1 ⟨rfl,rfl⟩;rw[show(decide ((0:Int)<=n) && decide (n<=3))=false by have:=HN.out; simp; omega];go_wp2_with fail
 go_ret
 exact⟨rfl,rfl⟩
theorem usable_ok (k rb:Nat) (w:World) (h:w.cell? ⟨rb,0,none⟩=some (.int .i64 ((k:Int)+1))) :
  Calls Tryz.prog 17 #[.pointer (some ⟨rb,0,none⟩)] w fun e w'=>e=.returned (.bool true)/\w=w':=by
 have hk:(0:Int) < (k:Int)+1:=by omega
 go_enter Tryz.func17,Tryz.ntmps17;go_wp2_with fail
 go_ret
 exact⟨rfl,rfl⟩
theorem found_ok (x:Int) (w:World) :
  Calls Tryz.prog 42 #[.int .i64 x,.bool true] w fun e w'=>e=.returned (.tuple #[.int .i64 x,.int .i64 0])/\w=w':=by
 go_enter Tryz.func42,Tryz.ntmps42;go_wp2_with fail;exact bodyPost_ret (v:=.tuple #[.int .i64 x,.int .i64 0]) (by simp[results,Tryz.results42,go_sem]) rfl ⟨rfl,rfl⟩
theorem found_no (x:Int) (w:World) :
  Calls Tryz.prog 42 #[.int .i64 x,.bool false] w fun e w'=>e=.returned (.tuple #[.int .i64 0,.int .i64 6])/\w=w':=by
 go_enter Tryz.func42,Tryz.ntmps42;go_wp2_with fail;exact bodyPost_ret (v:=.tuple #[.int .i64 0,.int .i64 6]) (by simp[results,Tryz.results42,go_sem]) rfl ⟨rfl,rfl⟩
theorem check_one (k rb sb cap : Nat) (x : Int) (w : World) (hk : k <= 3) (h : w.cell? ⟨rb, 0, none⟩ = some (.int .i64 ((k : Int) + 1))) (hs : w.cell? ⟨sb, 0, none⟩ = some (.int .i64 x)) :
    Calls Tryz.prog 40 #[.pointer (some ⟨rb, 0, none⟩), .slice (some ⟨sb, 0, none⟩) 1 cap] w fun e w' => e = .returned (.int .i64 (if 0 <= x /\ x < RK.R k then 0 else 2)) /\ w = w' := by
  have HU := Lib.hid (fun wx h => usable_ok k rb wx h)
  have HP := Lib.hid (fun o wx ho => places_any o k wx ho hk)
  have HW := Lib.hid (fun a b c wx => within_any a b c wx)
  have hR := RK.R_le hk
  have hR0 := RK.R_pos k
  obtain ⟨p, hp⟩ : ∃ p, RK.R k = p := ⟨_, rfl⟩
  rw [hp] at hR hR0 HP
  rw [hp]
  go_enter Tryz.func40, Tryz.ntmps40
  go_wp2_with fail
  refine (HU.out _ h).mono ?_
  rintro e w1 ⟨rfl, rfl⟩
  go_upto_region 4 with fail
  go_loopw [12, 6] (fun i _ wr => ∃ j : Nat, i = .int .i64 j /\ j <= 1 /\ Hid (j = 1 -> 0 <= x /\ x < p) /\ w = wr) (fun i _ _ => 1 - (intOf i).toNat)
  case atStart => exact ⟨0, rfl, by omega, Lib.hid (fun h => by cases h), rfl⟩
  case round =>
    obtain ⟨j, rfl, hj, HJ, rfl⟩ := hrel
    rcases (by omega : j = 0 ∨ j = 1) with rfl | rfl
    · go_wp2_with fail
      refine (HP.out _ _ (by omega)).mono ?_
      rintro e w1 ⟨rfl, rfl⟩
      go_wp2_with fail
      refine (HW.out _ _ _ _).mono ?_
      rintro e w1 ⟨rfl, rfl⟩
      by_cases hx : 0 <= x /\ x < p
      · rw [show (decide ((0 : Int) <= x) && decide (x <= (p : Int) - 1)) = true by simp; omega]
        have HX := Lib.hid hx
        clear hx
        go_wp2_with fail
        go_roundw
        case rel => exact ⟨1, by simp [*], by omega, Lib.hid (fun _ => HX.out), by first | rfl | trivial⟩
        case measure => simp [intOf]
      · rw [show (decide ((0 : Int) <= x) && decide (x <= (p : Int) - 1)) = false by simp; omega]
        have HX := Lib.hid hx
        clear hx
        go_wp2_with fail
        go_ret
        exact ⟨by first | rfl | (rw [if_neg HX.out]; rfl) | (have := HX.out; simp; omega), rfl⟩
    · have HX := Lib.hid (HJ.out rfl)
      clear HJ
      go_wp2_with fail
      go_ret
      exact ⟨by have h := HX.out
                simp, rfl⟩
open Go.RowKit
attribute [local go_sem ↓] Go.wp_at_zero Go.wp_at_succ
theorem cell_lit (w:World) (x:Value) (t:TypeId):(w.alloc (.cells #[x] t)).cell? ⟨w.heap.size,0,none⟩=some x:=by
 exact cell_of_row _ _ 0 _ _ _ (blk_new w _)
theorem has_in (k rb:Nat) (m:RK.S) (v:Value) (F:Nat->Prop) (x:Nat) (w:World) (hk:k<=3) (h:RackIs w rb k m v F) (hx:x < RK.R k) :
  Calls Tryz.prog 25 #[.pointer (some ⟨rb,0,none⟩),.int .i64 x] w fun e w'=>e=.returned (.tuple #[.bool (m x),.int .i64 0])/\Below w.heap.size w w':=by
 have HC:=Lib.hid (fun cap sb wx h hs=>check_one k rb sb cap (x:Int) wx hk h hs);have HH:=Lib.hid (fun wx h=>has_any k (k:Int) v m F x wx rfl hk h hx);have HR:=Lib.hid h;have hrs:=blk_lt h.1;have hwk:=wrap_small (n:=k) (by omega);have hif:(if (0:Int)<=(x:Int)/\(x:Int) < RK.R k then (0:Int) else 2)=0:=if_pos ⟨by omega,by omega⟩;obtain⟨M,hM⟩:∃b,m x=b:=⟨_,rfl⟩
 rw[hM]at HH ⊢;simp only[hif]at HC;clear h hM hif;go_enter Tryz.func25,Tryz.ntmps25;go_wp2_with fail;refine(HC.out _ _ _ (row2 (blk_old HR.out.1)).1 (cell_lit _ _ _)).mono ?_;rintro e w1 ⟨rfl,rfl⟩;obtain⟨w2,h2⟩:∃wx:World,wx=w.alloc (.cells #[.int .i64 x] 3):=⟨_,rfl⟩
 rw[<-h2];have HR2:=Lib.hid (show RackIs w2 rb k m v F by rw[h2]; exact HR.out.below (by repeat (first | exact Below.refl _ _ | exact Nat.le_refl _ | refine Below.alloc ?_ ?_ _ | refine Below.setCell ?_ ?_ _ | refine Below.drew ?_ | refine bl_drewN ?_ _ | (assumption) | refine bl_call ?_ (by assumption) ?_ | omega | (simp <;> omega))));have B2:Below w.heap.size w w2:=by rw[h2]; exact(by repeat (first | exact Below.refl _ _ | exact Nat.le_refl _ | refine Below.alloc ?_ ?_ _ | refine Below.setCell ?_ ?_ _ | refine Below.drew ?_ | refine bl_drewN ?_ _ | (assumption) | refine bl_call ?_ (by assumption) ?_ | omega | (simp <;> omega)))
 obtain⟨c0,c1⟩:=row2 HR2.out.1;have hrs2:=blk_lt HR2.out.1;have hsz2:=B2.size;clear h2;go_upto_region 4 with fail;refine with_act fun a0 ha0=>?_;have hsz0:a0.tmps.size=25:=by rw[ha0]; rfl
 refine wp_region_vals (W0:=w2) (by kernel_rfl) (by kernel_rfl) [(14,.pointer (some ⟨rb,0,none⟩)),(15,.pointer (some ⟨rb,0,none⟩)),(16,.pointer (some ⟨rb,1,none⟩)),(17,v),(18,.pointer (some ⟨rb,0,none⟩)),(19,.pointer (some ⟨rb,0,none⟩)),(20,.pointer (some ⟨rb,0,none⟩)),(21,.int .i64 ((k:Int)+1)),(22,.int .i64 k),(23,.int .i64 x),(24,.bool M),(4,.bool M),(5,.int .i64 0)] rfl (by show([14,15,16,17,18,19,20,21,22,23,24,4,5]:List Nat).Nodup; decide) _ hsz0 (by kernel_rfl) (BelX.start _ _) ⟨⟨rfl,?y1v0⟩,⟨rfl,?y1v1⟩,⟨rfl,?y1v2⟩,⟨rfl,?y1v3⟩,⟨rfl,?y1v4⟩,⟨rfl,?y1v5⟩,⟨rfl,?y1v6⟩,⟨rfl,?y1v7⟩,⟨rfl,?y1v8⟩,⟨rfl,?y1v9⟩,⟨rfl,?y1v10⟩,⟨rfl,?y1v11⟩,⟨rfl,?y1v12⟩,trivial⟩ ?y1done
 case y1v0 =>
  exact mvVi rfl rfl rfl (by kernel_rfl) (by rw[ha0]; rfl)
 case y1v1 =>
  intro a' w' hA hdep hX K hK;obtain⟨r14,q14⟩:=dpv hdep ⟨0,.data⟩ (by simp) rfl rfl;clear hdep ha0 hA;refine StepG.value (wanted_none rfl) rfl ?_ (hK _ hX);simp[go_sem, *]
 case y1v2 =>
  intro a' w' hA hdep hX K hK;obtain⟨r15,q15⟩:=dpv hdep ⟨1,.data⟩ (by simp) rfl rfl;clear hdep ha0 hA;refine StepG.value (wanted_none rfl) rfl ?_ (hK _ hX);simp[go_sem, *]
 case y1v3 =>
  intro a' w' hA hdep hX K hK;obtain⟨r16,q16⟩:=dpv hdep ⟨2,.data⟩ (by simp) rfl rfl;have kc0:w'.cell? ⟨rb,0,none⟩=some (.int .i64 ((k:Int)+1)):=hX.cell (by simp) (by first | assumption | (go_simp; done) | (simp; done));have kc1:w'.cell? ⟨rb,1,none⟩=some (v):=hX.cell (by simp) (by first | assumption | (go_simp; done) | (simp; done));clear hdep ha0 hA;refine StepG.value (wanted_none rfl) rfl ?_ (hK _ hX);simp[go_sem, *]
 case y1v4 =>
  exact mvVi rfl rfl rfl (by kernel_rfl) (by rw[ha0]; rfl)
 case y1v5 =>
  intro a' w' hA hdep hX K hK;obtain⟨r18,q18⟩:=dpv hdep ⟨4,.data⟩ (by simp) rfl rfl;clear hdep ha0 hA;refine StepG.value (wanted_none rfl) rfl ?_ (hK _ hX);simp[go_sem, *]
 case y1v6 =>
  intro a' w' hA hdep hX K hK;obtain⟨r19,q19⟩:=dpv hdep ⟨5,.data⟩ (by simp) rfl rfl;clear hdep ha0 hA;refine StepG.value (wanted_none rfl) rfl ?_ (hK _ hX);simp[go_sem, *]
 case y1v7 =>
  intro a' w' hA hdep hX K hK;obtain⟨r20,q20⟩:=dpv hdep ⟨6,.data⟩ (by simp) rfl rfl;have kc0:w'.cell? ⟨rb,0,none⟩=some (.int .i64 ((k:Int)+1)):=hX.cell (by simp) (by first | assumption | (go_simp; done) | (simp; done));have kc1:w'.cell? ⟨rb,1,none⟩=some (v):=hX.cell (by simp) (by first | assumption | (go_simp; done) | (simp; done));clear hdep ha0 hA;refine StepG.value (wanted_none rfl) rfl ?_ (hK _ hX);simp[go_sem, *]
 case y1v8 =>
  intro a' w' hA hdep hX K hK;obtain⟨r21,q21⟩:=dpv hdep ⟨7,.data⟩ (by simp) rfl rfl;clear hdep ha0 hA;refine StepG.value (wanted_none rfl) rfl ?_ (hK _ hX);simp[go_sem, *]
 case y1v9 =>
  exact mvVi rfl rfl rfl (by kernel_rfl) (by rw[ha0]; rfl)
 case y1v10 =>
  intro a' w' hA hdep hX K hK;obtain⟨r17,q17⟩:=dpv hdep ⟨3,.data⟩ (by simp) rfl rfl;obtain⟨r22,q22⟩:=dpv hdep ⟨8,.data⟩ (by simp) rfl rfl;obtain⟨r23,q23⟩:=dpv hdep ⟨9,.data⟩ (by simp) rfl rfl;clear hdep ha0 hA;refine StepG.call (wanted_none rfl) rfl ?_ ((HH.out w' (HR2.out.2.1.kept (BelP.ofX hX) (fun _ _ h=>by simp at h)))) (fun w2 hb=>hK _ (hX.call hb));simp[go_sem, *]
 case y1v11 =>
  intro a' w' hA hdep hX K hK;obtain⟨r24,q24⟩:=dpv hdep ⟨10,.data⟩ (by simp) rfl rfl;clear hdep ha0 hA;refine StepG.value (wanted_none rfl) rfl ?_ (hK _ hX);simp[go_sem, *]
 case y1v12 =>
  intro a' w' hA hdep hX K hK;clear hdep ha0 hA;refine StepG.value (wanted_none rfl) rfl ?_ (hK _ hX);simp[go_sem, *]
 intro w3 hXR;rw[ha0]; simp only[putL,Act.put,sA_,sZ_,sS_];clear ha0 hsz0;have B3:Below w.heap.size w w3:=hXR.below (by first | assumption | exact(by repeat (first | exact Below.refl _ _ | exact Nat.le_refl _ | refine Below.alloc ?_ ?_ _ | refine Below.setCell ?_ ?_ _ | refine Below.drew ?_ | refine bl_drewN ?_ _ | (assumption) | refine bl_call ?_ (by assumption) ?_ | omega | (simp <;> omega)))) (by first | omega | (simp <;> omega)) (by simp);go_wp2_with fail;exact bodyPost_ret (v:=.tuple #[.bool M,.int .i64 0]) (by simp[results,Tryz.results25,go_sem]) rfl ⟨rfl,(by repeat (first | exact Below.refl _ _ | exact Nat.le_refl _ | refine Below.alloc ?_ ?_ _ | refine Below.setCell ?_ ?_ _ | refine Below.drew ?_ | refine bl_drewN ?_ _ | (assumption) | refine bl_call ?_ (by assumption) ?_ | omega | (simp <;> omega)))⟩
theorem has_out (k rb:Nat) (m:RK.S) (v:Value) (F:Nat->Prop) (x:Int) (w:World) (hk:k<=3) (h:RackIs w rb k m v F) (hx:¬(0<=x/\x < RK.R k)) :
  Calls Tryz.prog 25 #[.pointer (some ⟨rb,0,none⟩),.int .i64 x] w fun e w'=>e=.returned (.tuple #[.bool false,.int .i64 2])/\Below w.heap.size w w':=by
 have HC:=Lib.hid (fun cap sb wx h hs=>check_one k rb sb cap x wx hk h hs);have HR:=Lib.hid h;have hrs:=blk_lt h.1;simp only[if_neg hx]at HC;clear h hx;go_enter Tryz.func25,Tryz.ntmps25;go_wp2_with fail;refine(HC.out _ _ _ (row2 (blk_old HR.out.1)).1 (cell_lit _ _ _)).mono ?_;rintro e w1 ⟨rfl,rfl⟩;go_wp2_with fail;exact bodyPost_ret (v:=.tuple #[.bool false,.int .i64 2]) (by simp[results,Tryz.results25,go_sem]) rfl ⟨rfl,(by repeat (first | exact Below.refl _ _ | exact Nat.le_refl _ | refine Below.alloc ?_ ?_ _ | refine Below.setCell ?_ ?_ _ | refine Below.drew ?_ | refine bl_drewN ?_ _ | (assumption) | refine bl_call ?_ (by assumption) ?_ | omega | (simp <;> omega)))⟩
open Go.RowKit
attribute [local go_sem ↓] Go.wp_at_zero Go.wp_at_succ
theorem RackIs.kept {w w':World} {rb k:Nat} {m:RK.S} {v:Value} {F G:Nat->Prop} (h:RackIs w rb k m v F) (hb:BelP G w w') (hr:¬G rb) (hd:∀c,F c->¬G c):RackIs w' rb k m v F :=
 ⟨(hb.block rb (blk_lt h.1) hr).trans h.1,h.2.1.kept hb hd,h.2.2⟩
theorem insert_old (k rb:Nat) (m:RK.S) (v:Value) (F:Nat->Prop) (x:Nat) (w:World) (hk:k<=3) (h:RackIs w rb k m v F) (hx:x < RK.R k) (hm:m x=true) :
  Calls Tryz.prog 14 #[.pointer (some ⟨rb,0,none⟩),.int .i64 x] w fun e w'=>e=.returned (.tuple #[.bool false,.int .i64 0])/\Below w.heap.size w w':=by
 have hH:=has_in k rb m v F x w hk h hx;rw[hm]at hH;have HH:=Lib.hid hH;clear hH h hm;go_enter Tryz.func14,Tryz.ntmps14;go_wp2_with fail;refine HH.out.mono ?_;rintro e w1 ⟨rfl,hb1⟩;go_wp2_with fail;exact bodyPost_ret (v:=.tuple #[.bool false,.int .i64 0]) (by simp[results,Tryz.results14,go_sem]) rfl ⟨rfl,(by repeat (first | exact Below.refl _ _ | exact Nat.le_refl _ | refine Below.alloc ?_ ?_ _ | refine Below.setCell ?_ ?_ _ | refine Below.drew ?_ | refine bl_drewN ?_ _ | (assumption) | refine bl_call ?_ (by assumption) ?_ | omega | (simp <;> omega)))⟩
theorem insert_out (k rb:Nat) (m:RK.S) (v:Value) (F:Nat->Prop) (x:Int) (w:World) (hk:k<=3) (h:RackIs w rb k m v F) (hx:¬(0<=x/\x < RK.R k)) :
  Calls Tryz.prog 14 #[.pointer (some ⟨rb,0,none⟩),.int .i64 x] w fun e w'=>e=.returned (.tuple #[.bool false,.int .i64 2])/\Below w.heap.size w w':=by
 have HH:=Lib.hid (has_out k rb m v F x w hk h hx);clear h hx;go_enter Tryz.func14,Tryz.ntmps14;go_wp2_with fail;refine HH.out.mono ?_;rintro e w1 ⟨rfl,hb1⟩;go_wp2_with fail;exact bodyPost_ret (v:=.tuple #[.bool false,.int .i64 2]) (by simp[results,Tryz.results14,go_sem]) rfl ⟨rfl,(by repeat (first | exact Below.refl _ _ | exact Nat.le_refl _ | refine Below.alloc ?_ ?_ _ | refine Below.setCell ?_ ?_ _ | refine Below.drew ?_ | refine bl_drewN ?_ _ | (assumption) | refine bl_call ?_ (by assumption) ?_ | omega | (simp <;> omega)))⟩
theorem insert_new (k rb:Nat) (m:RK.S) (v:Value) (F:Nat->Prop) (x:Nat) (w:World) (hk:k<=3) (h:RackIs w rb k m v F) (hx:x < RK.R k) (hm:m x=false) :
  Calls Tryz.prog 14 #[.pointer (some ⟨rb,0,none⟩),.int .i64 x] w fun e w'=>e=.returned (.tuple #[.bool true,.int .i64 0])/\∃v' F',RackIs w' rb k (RK.ins m x) v' F'/\BelP (fun c=>c=rb∨F c) w w'/\∀c,F' c->F c∨w.heap.size<=c:=by
 have hH:=has_in k rb m v F x w hk h hx;rw[hm]at hH;have HH:=Lib.hid hH;have HR:=Lib.hid h;have hrs:=blk_lt h.1;have HM:=Lib.hid hm;have hwk:=wrap_small (n:=k) (by omega);clear hH h hm;go_enter Tryz.func14,Tryz.ntmps14;go_wp2_with fail;refine HH.out.mono ?_;rintro e w2 ⟨rfl,hb2⟩;have HR2:=Lib.hid (HR.out.below hb2);obtain⟨c0,c1⟩:=row2 HR2.out.1;have hrs2:=blk_lt HR2.out.1;have hsz2:=hb2.size;have hRd:Rep ty k w2.drew v m F:=HR2.out.2.1.frame k (fun c hc=>rfl);have HC1:=Lib.hid ((insert_any k v m F x w2.drew hk hRd hx HM.out).mono (R':=fun e w'=>∃y,e=.returned y/\∃F',Rep ty k w' y (RK.ins m x) F'/\BelP F w2.drew w'/\∀c,F' c->F c∨w2.heap.size<=c) (fun e w' ⟨v',F',h1,h2⟩=>⟨v',h1,F',h2⟩));clear hRd;go_upto_region 4 with fail;refine with_act fun a0 ha0=>?_;have hsz0:a0.tmps.size=34:=by rw[ha0]; rfl
 refine wp_region_call1 (by kernel_rfl) (by kernel_rfl) [(20,.pointer (some ⟨rb,0,none⟩)),(21,.pointer (some ⟨rb,0,none⟩)),(22,.pointer (some ⟨rb,0,none⟩)),(23,.pointer (some ⟨rb,1,none⟩)),(24,v),(25,.pointer (some ⟨rb,0,none⟩)),(26,.pointer (some ⟨rb,0,none⟩)),(27,.pointer (some ⟨rb,0,none⟩)),(28,.int .i64 ((k:Int)+1)),(29,.int .i64 k),(30,.int .i64 x),(31,.nilIface),(32,.pointer (some ⟨rb,0,none⟩)),(33,.pointer (some ⟨rb,1,none⟩))] 11 31 (.nilIface) _ rfl rfl rfl (by kernel_rfl) rfl (by show([20,21,22,23,24,25,26,27,28,29,30,31,32,33]:List Nat).Nodup; decide) _ hsz0 (by kernel_rfl) (fun wx:World=>wx.cell? ⟨rb,0,none⟩=some (.int .i64 ((k:Int)+1))/\wx.cell? ⟨rb,1,none⟩=some (v)/\True) (fun y w'=>∃F',Rep ty k w' y (RK.ins m x) F'/\BelP F w2.drew w'/\∀c,F' c->F c∨w2.heap.size<=c) ⟨(by first | assumption | exact(show w2.cell? ⟨rb,0,none⟩=some (.int .i64 ((k:Int)+1)) from by assumption)),(by first | assumption | exact(show w2.cell? ⟨rb,1,none⟩=some (v) from by assumption)),trivial⟩ ?z1keep ⟨⟨rfl,?z1v0⟩,⟨rfl,?z1v1⟩,⟨rfl,?z1v2⟩,⟨rfl,?z1v3⟩,⟨rfl,?z1v4⟩,⟨rfl,?z1v5⟩,⟨rfl,?z1v6⟩,⟨rfl,?z1v7⟩,⟨rfl,?z1v8⟩,⟨rfl,?z1v9⟩,⟨rfl,?z1v10⟩,⟨rfl,?z1v11⟩,⟨rfl,?z1v12⟩,⟨rfl,?z1v13⟩,trivial⟩ ?z1done
 case z1keep=>exact(fun y w' ⟨F',_,hB,_⟩=>⟨(World.cell?_of_block (hB.block rb hrs2 HR2.out.2.2)).trans c0,(World.cell?_of_block (hB.block rb hrs2 HR2.out.2.2)).trans c1,trivial⟩)
 case z1v0 =>
  exact mvCi (by decide) rfl rfl rfl (by kernel_rfl) (by rw[ha0]; rfl)
 case z1v1 =>
  exact mvCi (by decide) rfl rfl rfl (by kernel_rfl) (by rw[ha0]; rfl)
 case z1v2 =>
  rw[if_neg (by decide)];intro a' w' hA hdep hS K hK;obtain⟨r21,q21⟩:=dpc hdep ⟨1,.data⟩ (by simp) (by decide) rfl rfl;clear hdep ha0 hA;refine StepG.value (wanted_none rfl) rfl ?_ hK;simp[go_sem, *]
 case z1v3 =>
  rw[if_neg (by decide)];intro a' w' hA hdep hS K hK;obtain⟨r22,q22⟩:=dpc hdep ⟨2,.data⟩ (by simp) (by decide) rfl rfl;clear hdep ha0 hA;refine StepG.value (wanted_none rfl) rfl ?_ hK;simp[go_sem, *]
 case z1v4 =>
  rw[if_neg (by decide)];intro a' w' hA hdep hS K hK;obtain⟨r23,q23⟩:=dpc hdep ⟨3,.data⟩ (by simp) (by decide) rfl rfl;obtain⟨kc0,kc1,_⟩:=hS;clear hdep ha0 hA;refine StepG.value (wanted_none rfl) rfl ?_ hK;simp[go_sem, *]
 case z1v5 =>
  exact mvCi (by decide) rfl rfl rfl (by kernel_rfl) (by rw[ha0]; rfl)
 case z1v6 =>
  rw[if_neg (by decide)];intro a' w' hA hdep hS K hK;obtain⟨r25,q25⟩:=dpc hdep ⟨5,.data⟩ (by simp) (by decide) rfl rfl;clear hdep ha0 hA;refine StepG.value (wanted_none rfl) rfl ?_ hK;simp[go_sem, *]
 case z1v7 =>
  rw[if_neg (by decide)];intro a' w' hA hdep hS K hK;obtain⟨r26,q26⟩:=dpc hdep ⟨6,.data⟩ (by simp) (by decide) rfl rfl;clear hdep ha0 hA;refine StepG.value (wanted_none rfl) rfl ?_ hK;simp[go_sem, *]
 case z1v8 =>
  rw[if_neg (by decide)];intro a' w' hA hdep hS K hK;obtain⟨r27,q27⟩:=dpc hdep ⟨7,.data⟩ (by simp) (by decide) rfl rfl;obtain⟨kc0,kc1,_⟩:=hS;clear hdep ha0 hA;refine StepG.value (wanted_none rfl) rfl ?_ hK;simp[go_sem, *]
 case z1v9 =>
  rw[if_neg (by decide)];intro a' w' hA hdep hS K hK;obtain⟨r28,q28⟩:=dpc hdep ⟨8,.data⟩ (by simp) (by decide) rfl rfl;clear hdep ha0 hA;refine StepG.value (wanted_none rfl) rfl ?_ hK;simp[go_sem, *]
 case z1v10 =>
  exact mvCi (by decide) rfl rfl rfl (by kernel_rfl) (by rw[ha0]; rfl)
 case z1v11 =>
  rw[if_pos rfl];intro a' hA hdep K hK;obtain⟨r24,q24⟩:=dpc hdep ⟨4,.data⟩ (by simp) (by decide) rfl rfl;obtain⟨r29,q29⟩:=dpc hdep ⟨9,.data⟩ (by simp) (by decide) rfl rfl;obtain⟨r30,q30⟩:=dpc hdep ⟨10,.data⟩ (by simp) (by decide) rfl rfl;clear hdep ha0 hA;refine StepG.callE (wanted_none rfl) rfl ?_ (HC1.out) hK;simp[go_sem, *]
 case z1v12 =>
  rw[if_neg (by decide)];intro a' w' hA hdep hS K hK;obtain⟨r20,q20⟩:=dpc hdep ⟨0,.data⟩ (by simp) (by decide) rfl rfl;clear hdep ha0 hA;refine StepG.value (wanted_none rfl) rfl ?_ hK;simp[go_sem, *]
 case z1v13 =>
  rw[if_neg (by decide)];intro a' w' hA hdep hS K hK;obtain⟨r32,q32⟩:=dpc hdep ⟨12,.data⟩ (by simp) (by decide) rfl rfl;clear hdep ha0 hA;refine StepG.value (wanted_none rfl) rfl ?_ hK;simp[go_sem, *]
 intro y1 w3 hR3;rw[ha0]; simp only[List.set_cons_zero,List.set_cons_succ,putL,Act.put,List.setIfInBounds_toArray];clear ha0 hsz0;obtain⟨F',hR3,hB3,hF3⟩:=hR3;obtain⟨tt,xx,rfl⟩:=hR3.iface;have hg3:=(hB3.block rb hrs2 HR2.out.2.2).trans HR2.out.1;clear c0 c1;obtain⟨c0,c1⟩:=row2 hg3;have fz3:=row_f hg3;have HR3:=Lib.hid hR3;have HB3:=Lib.hid hB3;have HF3:=Lib.hid hF3;have HG3:=Lib.hid hg3;clear hR3 hB3 hF3 hg3;have HP:=Lib.hid (show ∃v' F',RackIs (w3.setCell ⟨rb,1,none⟩ (.iface tt xx)) rb k (RK.ins m x) v' F'/\BelP (fun c=>c=rb∨F c) w (w3.setCell ⟨rb,1,none⟩ (.iface tt xx))/\∀c,F' c->F c∨w.heap.size<=c by
  have hnF:¬F' rb:=fun hc=>by
   rcases HF3.out rb hc with h | h
   · exact HR2.out.2.2 h
   · omega
  have hX4:BelX [rb] w3 (w3.setCell ⟨rb,1,none⟩ (.iface tt xx)):=(BelX.here [rb] w3).setOld (p:=⟨rb,1,none⟩) (by simp) _;have hB23:BelP F w2 w3:=⟨HB3.out.os,HB3.out.tape,HB3.out.output,HB3.out.size,HB3.out.block⟩
  refine⟨.iface tt xx,F',⟨?_,HR3.out.kept (BelP.ofX hX4) (fun c hc h=>hnF ((show c=rb by simpa using h) ▸ hc)),hnF⟩,?_,fun c hc=>?_⟩
  · simp[World.setCell,Array.getElem?_modify,HG3.out]
  · exact BelP.trans (BelP.trans (BelP.mono (BelP.ofBelow hb2) (fun _ _ h=>False.elim h)) hB23 (fun c _ h=>.inr h)) (BelP.ofX hX4) (fun c _ h=>.inl (by simpa using h))
  ·
   rcases HF3.out c hc with h | h
   · exact .inl h
   · exact .inr (by omega))
 go_wp2_with fail;exact bodyPost_ret (v:=.tuple #[.bool true,.int .i64 0]) (by simp[results,Tryz.results14,go_sem]) rfl ⟨rfl,HP.out⟩
open Go.RowKit
attribute [local go_sem ↓] Go.wp_at_zero Go.wp_at_succ
/-- a place that may be missing, as the methods hand it back -/
def foundT (r:Nat × Bool):Value:=.tuple #[.int .i64 (if r.2=true then (r.1:Int) else 0),.int .i64 (if r.2=true then 0 else 6)]
theorem found_any (r:Nat × Bool) (w:World) :
  Calls Tryz.prog 42 #[.int .i64 r.1,.bool r.2] w fun e w'=>e=.returned (foundT r)/\w=w':=by
 obtain⟨n,b⟩:=r;cases b
 · exact found_no _ _
 · exact found_ok _ _
theorem next_in (k rb:Nat) (m:RK.S) (v:Value) (F:Nat->Prop) (x:Nat) (w:World) (hk:k<=3) (h:RackIs w rb k m v F) (hx:x < RK.R k) :
  Calls Tryz.prog 15 #[.pointer (some ⟨rb,0,none⟩),.int .i64 x] w fun e w'=>e=.returned (foundT (RK.nxv k m x))/\Below w.heap.size w w':=by
 have HC:=Lib.hid (fun cap sb wx h hs=>check_one k rb sb cap (x:Int) wx hk h hs);have hH:=fun wx h=>next_any k v m F x wx hk h hx;have hFd:=fun wx=>found_any (RK.nxv k m x) wx;have HR:=Lib.hid h;have hrs:=blk_lt h.1;have hwk:=wrap_small (n:=k) (by omega);have hif:(if (0:Int)<=(x:Int)/\(x:Int) < RK.R k then (0:Int) else 2)=0:=if_pos ⟨by omega,by omega⟩;have hnb:=RK.nxv_bd k h.2.1.supp x;have hR4:=RK.R_le hk;obtain⟨N,hN⟩:∃n,(RK.nxv k m x).1=n:=⟨_,rfl⟩
 obtain⟨W,hW⟩:∃n,RK.wk k m x=n:=⟨_,rfl⟩
 obtain⟨O,hO⟩:∃n,(RK.nxv k m x).2=n:=⟨_,rfl⟩
 obtain⟨T,hT⟩:∃n,foundT (RK.nxv k m x)=n:=⟨_,rfl⟩
 simp only[hN,hW,hO]at hH;rw[hT];simp only[hN,hO,hT]at hFd;rw[hN]at hnb;have hTT:∃a b:Int,T=.tuple #[.int .i64 a,.int .i64 b]:=⟨_,_,hT.symm⟩
 obtain⟨ta,tb,rfl⟩:=hTT;have HH:=Lib.hid hH;have HFD:=Lib.hid hFd;simp only[hif]at HC;clear h hif hN hW hO hT hH hFd;go_enter Tryz.func15,Tryz.ntmps15;go_wp2_with fail;refine(HC.out _ _ _ (row2 (blk_old HR.out.1)).1 (cell_lit _ _ _)).mono ?_;rintro e w1 ⟨rfl,rfl⟩;obtain⟨w2,h2⟩:∃wx:World,wx=w.alloc (.cells #[.int .i64 x] 3):=⟨_,rfl⟩
 rw[<-h2];have HR2:=Lib.hid (show RackIs w2 rb k m v F by rw[h2]; exact HR.out.below (by repeat (first | exact Below.refl _ _ | exact Nat.le_refl _ | refine Below.alloc ?_ ?_ _ | refine Below.setCell ?_ ?_ _ | refine Below.drew ?_ | refine bl_drewN ?_ _ | (assumption) | refine bl_call ?_ (by assumption) ?_ | omega | (simp <;> omega))));have B2:Below w.heap.size w w2:=by rw[h2]; exact(by repeat (first | exact Below.refl _ _ | exact Nat.le_refl _ | refine Below.alloc ?_ ?_ _ | refine Below.setCell ?_ ?_ _ | refine Below.drew ?_ | refine bl_drewN ?_ _ | (assumption) | refine bl_call ?_ (by assumption) ?_ | omega | (simp <;> omega)))
 obtain⟨c0,c1⟩:=row2 HR2.out.1;have hrs2:=blk_lt HR2.out.1;have hsz2:=B2.size;clear h2;go_upto_region 4 with fail;refine with_act fun a0 ha0=>?_;have hsz0:a0.tmps.size=37:=by rw[ha0]; rfl
 refine wp_region_vals (W0:=w2) (by kernel_rfl) (by kernel_rfl) [(18,.pointer (some ⟨rb,0,none⟩)),(19,.pointer (some ⟨rb,0,none⟩)),(20,.pointer (some ⟨rb,1,none⟩)),(21,v),(22,.pointer (some ⟨rb,0,none⟩)),(23,.pointer (some ⟨rb,0,none⟩)),(24,.pointer (some ⟨rb,0,none⟩)),(25,.int .i64 ((k:Int)+1)),(26,.int .i64 k),(27,.int .i64 x),(28,.tuple #[.int .i64 N,.int .i64 W,.bool O]),(17,.tuple #[.int .i64 N,.int .i64 W,.bool O]),(29,.int .i64 N),(30,.int .i64 W),(31,.bool O),(7,.int .i64 N),(8,.int .i64 W),(9,.bool O)] rfl (by show([18,19,20,21,22,23,24,25,26,27,28,17,29,30,31,7,8,9]:List Nat).Nodup; decide) _ hsz0 (by kernel_rfl) (BelX.start _ _) ⟨⟨rfl,?y1v0⟩,⟨rfl,?y1v1⟩,⟨rfl,?y1v2⟩,⟨rfl,?y1v3⟩,⟨rfl,?y1v4⟩,⟨rfl,?y1v5⟩,⟨rfl,?y1v6⟩,⟨rfl,?y1v7⟩,⟨rfl,?y1v8⟩,⟨rfl,?y1v9⟩,⟨rfl,?y1v10⟩,⟨rfl,?y1v11⟩,⟨rfl,?y1v12⟩,⟨rfl,?y1v13⟩,⟨rfl,?y1v14⟩,⟨rfl,?y1v15⟩,⟨rfl,?y1v16⟩,⟨rfl,?y1v17⟩,trivial⟩ ?y1done
 case y1v0 =>
  exact mvVi rfl rfl rfl (by kernel_rfl) (by rw[ha0]; rfl)
 case y1v1 =>
  intro a' w' hA hdep hX K hK;obtain⟨r18,q18⟩:=dpv hdep ⟨0,.data⟩ (by simp) rfl rfl;clear hdep ha0 hA;refine StepG.value (wanted_none rfl) rfl ?_ (hK _ hX);simp[go_sem, *]
 case y1v2 =>
  intro a' w' hA hdep hX K hK;obtain⟨r19,q19⟩:=dpv hdep ⟨1,.data⟩ (by simp) rfl rfl;clear hdep ha0 hA;refine StepG.value (wanted_none rfl) rfl ?_ (hK _ hX);simp[go_sem, *]
 case y1v3 =>
  intro a' w' hA hdep hX K hK;obtain⟨r20,q20⟩:=dpv hdep ⟨2,.data⟩ (by simp) rfl rfl;have kc0:w'.cell? ⟨rb,0,none⟩=some (.int .i64 ((k:Int)+1)):=hX.cell (by simp) (by first | assumption | (go_simp; done) | (simp; done));have kc1:w'.cell? ⟨rb,1,none⟩=some (v):=hX.cell (by simp) (by first | assumption | (go_simp; done) | (simp; done));clear hdep ha0 hA;refine StepG.value (wanted_none rfl) rfl ?_ (hK _ hX);simp[go_sem, *]
 case y1v4 =>
  exact mvVi rfl rfl rfl (by kernel_rfl) (by rw[ha0]; rfl)
 case y1v5 =>
  intro a' w' hA hdep hX K hK;obtain⟨r22,q22⟩:=dpv hdep ⟨4,.data⟩ (by simp) rfl rfl;clear hdep ha0 hA;refine StepG.value (wanted_none rfl) rfl ?_ (hK _ hX);simp[go_sem, *]
 case y1v6 =>
  intro a' w' hA hdep hX K hK;obtain⟨r23,q23⟩:=dpv hdep ⟨5,.data⟩ (by simp) rfl rfl;clear hdep ha0 hA;refine StepG.value (wanted_none rfl) rfl ?_ (hK _ hX);simp[go_sem, *]
 case y1v7 =>
  intro a' w' hA hdep hX K hK;obtain⟨r24,q24⟩:=dpv hdep ⟨6,.data⟩ (by simp) rfl rfl;have kc0:w'.cell? ⟨rb,0,none⟩=some (.int .i64 ((k:Int)+1)):=hX.cell (by simp) (by first | assumption | (go_simp; done) | (simp; done));have kc1:w'.cell? ⟨rb,1,none⟩=some (v):=hX.cell (by simp) (by first | assumption | (go_simp; done) | (simp; done));clear hdep ha0 hA;refine StepG.value (wanted_none rfl) rfl ?_ (hK _ hX);simp[go_sem, *]
 case y1v8 =>
  intro a' w' hA hdep hX K hK;obtain⟨r25,q25⟩:=dpv hdep ⟨7,.data⟩ (by simp) rfl rfl;clear hdep ha0 hA;refine StepG.value (wanted_none rfl) rfl ?_ (hK _ hX);simp[go_sem, *]
 case y1v9 =>
  exact mvVi rfl rfl rfl (by kernel_rfl) (by rw[ha0]; rfl)
 case y1v10 =>
  intro a' w' hA hdep hX K hK;obtain⟨r21,q21⟩:=dpv hdep ⟨3,.data⟩ (by simp) rfl rfl;obtain⟨r26,q26⟩:=dpv hdep ⟨8,.data⟩ (by simp) rfl rfl;obtain⟨r27,q27⟩:=dpv hdep ⟨9,.data⟩ (by simp) rfl rfl;clear hdep ha0 hA;refine StepG.call (wanted_none rfl) rfl ?_ ((HH.out w' (HR2.out.2.1.kept (BelP.ofX hX) (fun _ _ h=>by simp at h)))) (fun w2 hb=>hK _ (hX.call hb));simp[go_sem, *]
 case y1v11 =>
  exact mvV ⟨10,.data⟩ (by simp) rfl rfl rfl rfl rfl
 case y1v12 =>
  intro a' w' hA hdep hX K hK;obtain⟨r17,q17⟩:=dpv hdep ⟨11,.data⟩ (by simp) rfl rfl;clear hdep ha0 hA;refine StepG.value (wanted_none rfl) rfl ?_ (hK _ hX);simp[go_sem, *]
 case y1v13 =>
  intro a' w' hA hdep hX K hK;obtain⟨r17,q17⟩:=dpv hdep ⟨11,.data⟩ (by simp) rfl rfl;clear hdep ha0 hA;refine StepG.value (wanted_none rfl) rfl ?_ (hK _ hX);simp[go_sem, *]
 case y1v14 =>
  intro a' w' hA hdep hX K hK;obtain⟨r17,q17⟩:=dpv hdep ⟨11,.data⟩ (by simp) rfl rfl;clear hdep ha0 hA;refine StepG.value (wanted_none rfl) rfl ?_ (hK _ hX);simp[go_sem, *]
 case y1v15 =>
  intro a' w' hA hdep hX K hK;obtain⟨r29,q29⟩:=dpv hdep ⟨12,.data⟩ (by simp) rfl rfl;clear hdep ha0 hA;refine StepG.value (wanted_none rfl) rfl ?_ (hK _ hX);simp[go_sem, *]
 case y1v16 =>
  intro a' w' hA hdep hX K hK;obtain⟨r30,q30⟩:=dpv hdep ⟨13,.data⟩ (by simp) rfl rfl;clear hdep ha0 hA;refine StepG.value (wanted_none rfl) rfl ?_ (hK _ hX);simp[go_sem, *]
 case y1v17 =>
  intro a' w' hA hdep hX K hK;obtain⟨r31,q31⟩:=dpv hdep ⟨14,.data⟩ (by simp) rfl rfl;clear hdep ha0 hA;refine StepG.value (wanted_none rfl) rfl ?_ (hK _ hX);simp[go_sem, *]
 intro w3 hXR;rw[ha0]; simp only[putL,Act.put,sA_,sZ_,sS_];clear ha0 hsz0;have B3:Below w.heap.size w w3:=hXR.below (by first | assumption | exact(by repeat (first | exact Below.refl _ _ | exact Nat.le_refl _ | refine Below.alloc ?_ ?_ _ | refine Below.setCell ?_ ?_ _ | refine Below.drew ?_ | refine bl_drewN ?_ _ | (assumption) | refine bl_call ?_ (by assumption) ?_ | omega | (simp <;> omega)))) (by first | omega | (simp <;> omega)) (by simp);go_wp2_with fail;refine(HFD.out _).mono ?_;rintro e w4 ⟨rfl,rfl⟩;go_wp2_with fail;exact bodyPost_ret (v:=.tuple #[.int .i64 ta,.int .i64 tb]) (by simp[results,Tryz.results15,go_sem]) rfl ⟨rfl,(by repeat (first | exact Below.refl _ _ | exact Nat.le_refl _ | refine Below.alloc ?_ ?_ _ | refine Below.setCell ?_ ?_ _ | refine Below.drew ?_ | refine bl_drewN ?_ _ | (assumption) | refine bl_call ?_ (by assumption) ?_ | omega | (simp <;> omega)))⟩
theorem next_out (k rb:Nat) (m:RK.S) (v:Value) (F:Nat->Prop) (x:Int) (w:World) (hk:k<=3) (h:RackIs w rb k m v F) (hx:¬(0<=x/\x < RK.R k)) :
  Calls Tryz.prog 15 #[.pointer (some ⟨rb,0,none⟩),.int .i64 x] w fun e w'=>e=.returned (.tuple #[.int .i64 0,.int .i64 2])/\Below w.heap.size w w':=by
 have HC:=Lib.hid (fun cap sb wx h hs=>check_one k rb sb cap x wx hk h hs);have HR:=Lib.hid h;have hrs:=blk_lt h.1;simp only[if_neg hx]at HC;clear h hx;go_enter Tryz.func15,Tryz.ntmps15;go_wp2_with fail;refine(HC.out _ _ _ (row2 (blk_old HR.out.1)).1 (cell_lit _ _ _)).mono ?_;rintro e w1 ⟨rfl,rfl⟩;go_wp2_with fail;exact bodyPost_ret (v:=.tuple #[.int .i64 0,.int .i64 2]) (by simp[results,Tryz.results15,go_sem]) rfl ⟨rfl,(by repeat (first | exact Below.refl _ _ | exact Nat.le_refl _ | refine Below.alloc ?_ ?_ _ | refine Below.setCell ?_ ?_ _ | refine Below.drew ?_ | refine bl_drewN ?_ _ | (assumption) | refine bl_call ?_ (by assumption) ?_ | omega | (simp <;> omega)))⟩
open Go.Shelf
def lays171_ren:Go.Shelf.Ren:=⟨fun | 129=>95 | 171=>79 | 243=>86 | 246=>88 | 283=>90 | 284=>91 | 285=>92 | 286=>93 | 317=>94 | 318=>96 | 319=>97 | 320=>98 | 337=>99 | 338=>100 | n=>n,fun | 0=>0 | 2=>2 | 3=>3 | 4=>4 | 5=>5 | 9=>9 | 20=>20 | 37=>116 | 46=>54 | 51=>150 | 53=>123 | 171=>143 | 173=>146 | 212=>149 | 213=>151 | 232=>154 | 233=>155 | n=>n,fun | 17=>5 | 18=>6 | 19=>7 | n=>n⟩
theorem lays171:Go.Proofs.LaysM.n171 Tryz.prog lays171_ren:={
 mixed:=by kernel_rfl,
 f129:=Tryz.func95.trans (congrArg some (by kernel_rfl)),
 f171:=Tryz.func79.trans (congrArg some (by kernel_rfl)),
 f243:=Tryz.func86.trans (congrArg some (by kernel_rfl)),
 f246:=Tryz.func88.trans (congrArg some (by kernel_rfl)),
 f283:=Tryz.func90.trans (congrArg some (by kernel_rfl)),
 f284:=Tryz.func91.trans (congrArg some (by kernel_rfl)),
 f285:=Tryz.func92.trans (congrArg some (by kernel_rfl)),
 f286:=Tryz.func93.trans (congrArg some (by kernel_rfl)),
 f317:=Tryz.func94.trans (congrArg some (by kernel_rfl)),
 f318:=Tryz.func96.trans (congrArg some (by kernel_rfl)),
 f319:=Tryz.func97.trans (congrArg some (by kernel_rfl)),
 f320:=Tryz.func98.trans (congrArg some (by kernel_rfl)),
 f337:=Tryz.func99.trans (congrArg some (by kernel_rfl)),
 f338:=Tryz.func100.trans (congrArg some (by kernel_rfl)),
 t0:=Tryz.underlying0,
 a0:=Tryz.isAgg0,
 z0:=Tryz.sizeOf0,
 v0:=Tryz.zeroValue0,
 t2:=Tryz.underlying2,
 a2:=Tryz.isAgg2,
 z2:=Tryz.sizeOf2,
 v2:=Tryz.zeroValue2,
 t3:=Tryz.underlying3,
 a3:=Tryz.isAgg3,
 z3:=Tryz.sizeOf3,
 v3:=Tryz.zeroValue3,
 t4:=Tryz.underlying4,
 a4:=Tryz.isAgg4,
 z4:=Tryz.sizeOf4,
 v4:=Tryz.zeroValue4,
 t5:=Tryz.underlying5,
 a5:=Tryz.isAgg5,
 z5:=Tryz.sizeOf5,
 v5:=Tryz.zeroValue5,
 t9:=Tryz.underlying9,
 a9:=Tryz.isAgg9,
 z9:=Tryz.sizeOf9,
 v9:=Tryz.zeroValue9,
 t20:=Tryz.underlying20,
 a20:=Tryz.isAgg20,
 z20:=Tryz.sizeOf20,
 v20:=Tryz.zeroValue20,
 t37:=Tryz.underlying116,
 a37:=Tryz.isAgg116,
 z37:=Tryz.sizeOf116,
 v37:=Tryz.zeroValue116,
 t46:=Tryz.underlying54,
 a46:=Tryz.isAgg54,
 z46:=Tryz.sizeOf54,
 v46:=Tryz.zeroValue54,
 t51:=Tryz.underlying150,
 a51:=Tryz.isAgg150,
 z51:=Tryz.sizeOf150,
 v51:=Tryz.zeroValue150,
 t53:=Tryz.underlying123,
 a53:=Tryz.isAgg123,
 z53:=Tryz.sizeOf123,
 v53:=Tryz.zeroValue123,
 t171:=Tryz.underlying143,
 a171:=Tryz.isAgg143,
 z171:=Tryz.sizeOf143,
 v171:=Tryz.zeroValue143,
 t173:=Tryz.underlying146,
 a173:=Tryz.isAgg146,
 z173:=Tryz.sizeOf146,
 v173:=Tryz.zeroValue146,
 t212:=Tryz.underlying149,
 a212:=Tryz.isAgg149,
 z212:=Tryz.sizeOf149,
 v212:=Tryz.zeroValue149,
 t213:=Tryz.underlying151,
 a213:=Tryz.isAgg151,
 z213:=Tryz.sizeOf151,
 t232:=Tryz.underlying154,
 a232:=Tryz.isAgg154,
 z232:=Tryz.sizeOf154,
 v232:=Tryz.zeroValue154,
 t233:=Tryz.underlying155,
 a233:=Tryz.isAgg155,
 z233:=Tryz.sizeOf155,
 v233:=Tryz.zeroValue155,
 g17:=by kernel_rfl,
 g18:=by kernel_rfl,
 g19:=by kernel_rfl,
 i0:=by kernel_rfl,
 i2:=by kernel_rfl,
 i3:=by kernel_rfl,
 i4:=by kernel_rfl,
 i5:=by kernel_rfl,
 i9:=by kernel_rfl,
 i20:=by kernel_rfl,
 i37:=by kernel_rfl,
 i46:=by kernel_rfl,
 i51:=by kernel_rfl,
 i53:=by kernel_rfl,
 i171:=by kernel_rfl,
 i173:=by kernel_rfl,
 i212:=by kernel_rfl,
 i232:=by kernel_rfl,
 i233:=by kernel_rfl,
 m17:=by kernel_rfl,
 m18:=by kernel_rfl,
 m19:=by kernel_rfl }
open Go.RowKit
theorem below_grow (w:World) (k:Nat) (os:Array Obj):Below w.heap.size w (Go.Sort.grow (w.drewN k) os) :=
 ⟨rfl,rfl,rfl,by simp[Go.Sort.grow],fun j hj=>by
  show(w.heap ++ os)[j]?=w.heap[j]?;rw[Array.getElem?_append_left hj]⟩
/-- the table of the powers of ten is laid -/
def Tab (w:World):Prop:=Lib.TabIs Tryz.prog w "internal/strconv.uint64pow10" .u64 Lib.pow10Tab/\lays171_ren.g 17 < w.heap.size
theorem Tab.kept {F:Nat->Prop} {w w':World} (h:Tab w) (hb:BelP F w w') (hF:¬F (lays171_ren.g 17)):Tab w':=by
 obtain⟨h,hlt⟩:=h;refine⟨?_,Nat.lt_of_lt_of_le hlt hb.size⟩;unfold Lib.TabIs World.var? at h ⊢;rw[lays171.m17]at h ⊢;simp only[Option.bind_some]at h ⊢;rw[hb.block _ hlt hF];exact h
theorem Tab.below {w w':World} (h:Tab w) (hb:Below w.heap.size w w'):Tab w':=h.kept (BelP.ofBelow hb) (fun h=>h)
theorem itoa_any (n:Nat) (h1:n<=9223372036854775807) (w:World) (ht:Tab w) :
  Calls Tryz.prog 79 #[.int .i64 n] w fun e w'=>e=.returned (.string ⟨(RK.dec n).toArray⟩)/\Below w.heap.size w w':=by
 refine(Any.strconv_Itoa lays171 n (by omega) (by omega) w ht.1).mono ?_;rintro e w' ⟨rfl,k,os,rfl⟩;exact⟨rfl,below_grow _ _ _⟩
open Go.RowKit
attribute [local go_sem ↓] Go.wp_at_zero Go.wp_at_succ
theorem str_app (a b:List UInt8):(⟨a.toArray⟩:ByteArray) ++ ⟨b.toArray⟩=⟨(a ++ b).toArray⟩:=by
 have h:((⟨a.toArray⟩:ByteArray) ++ ⟨b.toArray⟩).data=(a ++ b).toArray:=by simp[ByteArray.data_append]
 exact congrArg ByteArray.mk h
theorem str_size (l:List UInt8):(⟨l.toArray⟩:ByteArray).size=l.length:=by simp[ByteArray.size]
theorem dec_len (n:Nat) (h:n<=9223372036854775807):(RK.dec n).length<=21:=Lib.itoa_length_le n (by omega) (by omega)
/-- a text's sum, its parts out of sight -/
theorem str_sum (a b:List UInt8) {s t:ByteArray} (hs:s=⟨a.toArray⟩) (ht:t=⟨b.toArray⟩):∃u:ByteArray,s ++ t=u/\u=⟨(a ++ b).toArray⟩/\u.size=s.size+t.size:=by
 subst hs ht;exact⟨_,rfl,str_app a b,by rw[str_app,str_size,str_size,str_size,List.length_append]⟩
theorem empty_text (w:World) :
  Calls Tryz.prog 117 #[.agg #[]] w fun e w'=>e=.returned (.string ⟨#[45]⟩)/\Below w.heap.size w w':=by
 go_enter Tryz.func117,Tryz.ntmps117;go_wp2_with fail
 go_ret
 exact⟨rfl,(by repeat (first | exact Below.refl _ _ | exact Nat.le_refl _ | refine Below.alloc ?_ ?_ _ | refine Below.setCell ?_ ?_ _ | refine Below.drew ?_ | refine bl_drewN ?_ _ | (assumption) | refine bl_call ?_ (by assumption) ?_ | omega | (simp <;> omega)))⟩
theorem pair_text (a b:Nat) (w:World) (ha:a<=9223372036854775807) (hb:b<=9223372036854775807) (ht:Tab w) :
  Calls Tryz.prog 119 #[.agg #[.int .i64 a,.int .i64 b]] w fun e w'=>e=.returned (.string ⟨(RK.dec a ++ 58 :: RK.dec b).toArray⟩)/\Below w.heap.size w w':=by
 have hA:=fun wx h=>itoa_any a ha wx h;have hB:=fun wx h=>itoa_any b hb wx h;obtain⟨s1,hs1⟩:∃s:ByteArray,s=⟨(RK.dec a).toArray⟩:=⟨_,rfl⟩
 obtain⟨s2,hs2⟩:∃s:ByteArray,s=⟨(RK.dec b).toArray⟩:=⟨_,rfl⟩
 obtain⟨t1,e1,q1,y1⟩:=str_sum _ [58] hs1 rfl;obtain⟨t2,e2,q2,y2⟩:=str_sum _ _ q1 hs2;rw[List.append_assoc,List.singleton_append]at q2;have n1:s1.size<=21:=by rw[hs1,str_size]; exact dec_len a ha
 have n2:s2.size<=21:=by rw[hs2,str_size]; exact dec_len b hb
 rw[<-hs1]at hA;rw[<-hs2]at hB;rw[<-q2];have n3:t1.size<=22:=by rw[y1]; have:(⟨[58].toArray⟩:ByteArray).size=1:=rfl; omega
 have m1:s1.size<=9223372036854775806:=by omega
 have m2:t1.size+s2.size<=9223372036854775807:=by omega
 have HA:=Lib.hid hA;have HB:=Lib.hid hB;have HT:=Lib.hid ht;clear hA hB hs1 hs2 q1 q2 y1 y2 ht ha hb;have hgt:¬w.heap.size<=lays171_ren.g 17:=by have:=HT.out.2; omega
 go_enter Tryz.func119,Tryz.ntmps119;go_wp2_with fail;obtain⟨w1,h1⟩:∃wx:World,wx=w.alloc (.cells #[.int .i64 a,.int .i64 b] 78):=⟨_,rfl⟩
 rw[<-h1];have hg1:w1.heap[w.heap.size]?=some (.cells #[.int .i64 a,.int .i64 b] 78 (0,0)):=by rw[h1]; exact blk_new _ _
 have B1:Below w.heap.size w w1:=by rw[h1]; exact(by repeat (first | exact Below.refl _ _ | exact Nat.le_refl _ | refine Below.alloc ?_ ?_ _ | refine Below.setCell ?_ ?_ _ | refine Below.drew ?_ | refine bl_drewN ?_ _ | (assumption) | refine bl_call ?_ (by assumption) ?_ | omega | (simp <;> omega)))
 obtain⟨c0,c1⟩:=row2 hg1;have HT1:=Lib.hid (HT.out.below B1);have hgs:=blk_lt hg1;clear h1 hg1;refine with_act fun a0 ha0=>?_;have hsz0:a0.tmps.size=11:=by rw[ha0]; rfl
 refine wp_region_vals (W0:=w1) (by kernel_rfl) (by kernel_rfl) [(3,.pointer (some ⟨w.heap.size,0,none⟩)),(4,.int .i64 a),(5,.string s1),(6,.string t1),(7,.pointer (some ⟨w.heap.size,1,none⟩)),(8,.int .i64 b),(9,.string s2),(10,.string t2),(2,.string t2)] rfl (by show([3,4,5,6,7,8,9,10,2]:List Nat).Nodup; decide) _ hsz0 (by kernel_rfl) (BelX.start _ _) ⟨⟨rfl,?y1v0⟩,⟨rfl,?y1v1⟩,⟨rfl,?y1v2⟩,⟨rfl,?y1v3⟩,⟨rfl,?y1v4⟩,⟨rfl,?y1v5⟩,⟨rfl,?y1v6⟩,⟨rfl,?y1v7⟩,⟨rfl,?y1v8⟩,trivial⟩ ?y1done
 case y1v0 =>
  intro a' w' hA hdep hX K hK;obtain⟨r1,q1⟩:=dpi hA 1 (.pointer (some ⟨w.heap.size,0,none⟩)) (by kernel_rfl) (by rw[ha0]; rfl);clear hdep ha0 hA;refine StepG.value (wanted_none rfl) rfl ?_ (hK _ hX);simp[go_sem, *]
 case y1v1 =>
  intro a' w' hA hdep hX K hK;obtain⟨r3,q3⟩:=dpv hdep ⟨0,.data⟩ (by simp) rfl rfl;have kc0:w'.cell? ⟨w.heap.size,0,none⟩=some (.int .i64 a):=hX.cell (by simp) (by first | assumption | (go_simp; done) | (simp; done));have kc1:w'.cell? ⟨w.heap.size,1,none⟩=some (.int .i64 b):=hX.cell (by simp) (by first | assumption | (go_simp; done) | (simp; done));clear hdep ha0 hA;refine StepG.value (wanted_none rfl) rfl ?_ (hK _ hX);simp[go_sem, *]
 case y1v2 =>
  intro a' w' hA hdep hX K hK;obtain⟨r4,q4⟩:=dpv hdep ⟨1,.data⟩ (by simp) rfl rfl;clear hdep ha0 hA;refine StepG.call (wanted_none rfl) rfl ?_ ((HA.out w' (HT1.out.kept (BelP.ofX hX) (fun h=>by simp at h)))) (fun w2 hb=>hK _ (hX.call hb));simp[go_sem, *]
 case y1v3 =>
  intro a' w' hA hdep hX K hK;obtain⟨r5,q5⟩:=dpv hdep ⟨2,.data⟩ (by simp) rfl rfl;clear hdep ha0 hA;refine StepG.value (wanted_none rfl) rfl ?_ (hK _ hX);simp[go_sem, *]
 case y1v4 =>
  intro a' w' hA hdep hX K hK;obtain⟨r1,q1⟩:=dpi hA 1 (.pointer (some ⟨w.heap.size,0,none⟩)) (by kernel_rfl) (by rw[ha0]; rfl);clear hdep ha0 hA;refine StepG.value (wanted_none rfl) rfl ?_ (hK _ hX);simp[go_sem, *]
 case y1v5 =>
  intro a' w' hA hdep hX K hK;obtain⟨r7,q7⟩:=dpv hdep ⟨4,.data⟩ (by simp) rfl rfl;have kc0:w'.cell? ⟨w.heap.size,0,none⟩=some (.int .i64 a):=hX.cell (by simp) (by first | assumption | (go_simp; done) | (simp; done));have kc1:w'.cell? ⟨w.heap.size,1,none⟩=some (.int .i64 b):=hX.cell (by simp) (by first | assumption | (go_simp; done) | (simp; done));clear hdep ha0 hA;refine StepG.value (wanted_none rfl) rfl ?_ (hK _ hX);simp[go_sem, *]
 case y1v6 =>
  intro a' w' hA hdep hX K hK;obtain⟨r8,q8⟩:=dpv hdep ⟨5,.data⟩ (by simp) rfl rfl;clear hdep ha0 hA;refine StepG.call (wanted_none rfl) rfl ?_ ((HB.out w' (HT1.out.kept (BelP.ofX hX) (fun h=>by simp at h)))) (fun w2 hb=>hK _ (hX.call hb));simp[go_sem, *]
 case y1v7 =>
  intro a' w' hA hdep hX K hK;obtain⟨r6,q6⟩:=dpv hdep ⟨3,.data⟩ (by simp) rfl rfl;obtain⟨r9,q9⟩:=dpv hdep ⟨6,.data⟩ (by simp) rfl rfl;clear hdep ha0 hA;refine StepG.value (wanted_none rfl) rfl ?_ (hK _ hX);simp[go_sem, *]
 case y1v8 =>
  intro a' w' hA hdep hX K hK;obtain⟨r10,q10⟩:=dpv hdep ⟨7,.data⟩ (by simp) rfl rfl;clear hdep ha0 hA;refine StepG.value (wanted_none rfl) rfl ?_ (hK _ hX);simp[go_sem, *]
 intro w2 hXR;rw[ha0]; simp only[putL,Act.put,sA_,sZ_,sS_];clear ha0 hsz0;have B2:Below w.heap.size w w2:=hXR.below (by first | assumption | exact(by repeat (first | exact Below.refl _ _ | exact Nat.le_refl _ | refine Below.alloc ?_ ?_ _ | refine Below.setCell ?_ ?_ _ | refine Below.drew ?_ | refine bl_drewN ?_ _ | (assumption) | refine bl_call ?_ (by assumption) ?_ | omega | (simp <;> omega)))) (by first | omega | (simp <;> omega)) (by simp);go_wp2_with fail
 go_ret
 exact⟨rfl,(by repeat (first | exact Below.refl _ _ | exact Nat.le_refl _ | refine Below.alloc ?_ ?_ _ | refine Below.setCell ?_ ?_ _ | refine Below.drew ?_ | refine bl_drewN ?_ _ | (assumption) | refine bl_call ?_ (by assumption) ?_ | omega | (simp <;> omega)))⟩
open Go.RowKit
attribute [local go_sem ↓] Go.wp_at_zero Go.wp_at_succ
/-- which function an interface value's method is -/
def Meth (v:Value) (name:String) (fn:Nat) (rv:Value):Prop:=∃tt xx,v=.iface tt xx/\(∀w,(method 269 tt xx name).run Tryz.prog w=.ok (fn,rv) w)/\(∀w,(callFunc fn #[rv]).run Tryz.prog w=.ok (.enter fn #[rv]) w)
theorem tm_e (x:Value):Meth (.iface 40 x) "remould/rack.text" 117 x:=⟨_,_,rfl,fun w=>by kernel_rfl,fun w=>by kernel_rfl⟩
theorem tm_p (x:Value):Meth (.iface 78 x) "remould/rack.text" 119 x:=⟨_,_,rfl,fun w=>by kernel_rfl,fun w=>by kernel_rfl⟩
theorem tm_t (g:Nat):Meth (.iface 81 (.pointer (some ⟨g,0,none⟩))) "remould/rack.text" 121 (.pointer (some ⟨g,0,none⟩)):=⟨_,_,rfl,fun w=>by kernel_rfl,fun w=>by kernel_rfl⟩
theorem shape_by (k rb:Nat) (w:World) (v:Value) (fn:Nat) (rv:Value) (h:w.cell? ⟨rb,0,none⟩=some (.int .i64 ((k:Int)+1))) (hs:w.cell? ⟨rb,1,none⟩=some v)
  (hm:Meth v "remould/rack.text" fn rv) (s:ByteArray)
  (hc:Calls Tryz.prog fn #[rv] w fun e w'=>e=.returned (.string s)/\Below w.heap.size w w') :
  Calls Tryz.prog 7 #[.pointer (some ⟨rb,0,none⟩)] w fun e w'=>e=.returned (.string s)/\Below w.heap.size w w':=by
 obtain⟨tt,xx,rfl,hm,hf⟩:=hm;have HU:=Lib.hid (usable_ok k rb w h);go_enter Tryz.func7,Tryz.ntmps7;go_wp2_with fail;refine HU.out.mono ?_;rintro e w1 ⟨rfl,rfl⟩;go_wp2_with fail;refine hc.mono ?_;rintro e w1 ⟨rfl,hb1⟩;go_wp2_with fail
 go_ret
 exact⟨rfl,(by repeat (first | exact Below.refl _ _ | exact Nat.le_refl _ | refine Below.alloc ?_ ?_ _ | refine Below.setCell ?_ ?_ _ | refine Below.drew ?_ | refine bl_drewN ?_ _ | (assumption) | refine bl_call ?_ (by assumption) ?_ | omega | (simp <;> omega)))⟩
open Go.RowKit Go.ChangeMaps Go.Maps
theorem MapIs.len {P:Program} {k0:TypeId} {w:World} {b:Nat} {f:Int->Option Value} (h:MapIs w b f) {t e:TypeId} (ht:P.underlying t=some (.map k0 e)) :
  ∃n:Nat,(∀(wx:World) (ty:TypeId),wx.heap[b]?=w.heap[b]?->(Builtin.len_ #[t] ty #[.map (some b)]).run P wx=.ok (.int .i64 n) wx)/\(0 < n↔∃i v,f i=some v):=by
 obtain⟨es,clock,hb,h,-⟩:=h;refine⟨es.size,fun wx ty hx=>by simp[Builtin.len_,run_underlying ht,MapKept.run_getObj_map (hx.trans hb),goInt,Result.andThen],?_⟩;constructor
 ·
  intro hn;have h0:es.toList[0]?=some es[0]:=by simp[hn]
  have hm:es[0]∈es.toList:=List.mem_of_getElem? h0;obtain⟨i,hi,-⟩:=h.1 _ hm;exact⟨i,_,(h.2.2 i _).2 ⟨_,hm,hi,rfl⟩⟩
 ·
  rintro ⟨i,v,hv⟩;obtain⟨e0,he,-⟩:=(h.2.2 i v).1 hv;have hl:=List.length_pos_of_mem he
  simpa using hl
namespace RK
def tL:Nat->Nat
 | 0=>50
 | k+1=>50+tL k+R k * (30+tL k)
theorem flat_le2 (f:Nat->List UInt8) (L M:Nat) (h:∀s,s < M->(f s).length<=L):∀n,n<=M->((List.range n).flatMap f).length<=n * L
 | 0,_=>by simp
 | n+1,hn=>by
  rw[List.range_succ,List.flatMap_append,List.length_append,Nat.succ_mul];have:=flat_le2 f L M h n (by omega);have:=h n (by omega);simp only[List.flatMap_cons,List.flatMap_nil,List.append_nil];omega
/-- the piece of a spot -/
def pc (k:Nat) (m:S) (a:Nat) (s:Nat):List UInt8:=if shelves k m a s=true then 124 :: (dec s ++ 58 :: shT k (spot k m a s)) else []
/-- the text up to a spot -/
def upto (k:Nat) (m:S) (a b j:Nat):List UInt8 :=
 (dec a ++ 58 :: dec b) ++ [40] ++ (if mn k (shelves k m a)=none then [] else shT k (shelves k m a)) ++ (List.range j).flatMap (pc k m a)
theorem shT_upto {k:Nat} {m:S} {a b:Nat} (ha:mn (k+1) m=some a) (hb:mx (k+1) m=some b):shT (k+1) m=upto k m a b (R k) ++ [41]:=by
 rw[shT,ha,hb];simp only[upto,List.append_assoc,List.cons_append,List.nil_append];rfl
theorem upto_succ (k:Nat) (m:S) (a b j:Nat):upto k m a b (j+1)=upto k m a b j ++ pc k m a j:=by
 simp[upto,List.range_succ,List.flatMap_append]
theorem upto_len {k:Nat} {m:S} {a b j:Nat} (hk:k+1<=3) (ih:∀m:S,Supp k m->(shT k m).length<=tL k) (ha:a < R (k+1)) (hb:b < R (k+1)) (hj:j<=R k):(upto k m a b j).length+1<=tL (k+1):=by
 have hr:=R_le hk;have hr2:=R_le (k:=k) (by omega);have h1:=dec_len a (by omega);have h2:=dec_len b (by omega);have h3:(if mn k (shelves k m a)=none then [] else shT k (shelves k m a)).length<=tL k:=by
  split
  · simp
  · exact ih _ (shelves_supp k m a)
 have h4:=flat_le2 (pc k m a) (30+tL k) (R k) (fun s hs=>by
  unfold pc
  split
  · have:=dec_len s (by omega);have:=ih (spot k m a s) (spot_supp k m a s);simp only[List.length_cons,List.length_append]; omega
  · simp) j hj
 have h5:j * (30+tL k)<=R k * (30+tL k):=Nat.mul_le_mul_right _ hj;unfold upto;simp only[List.length_append,List.length_cons,List.length_nil,tL];omega
theorem shT_len:∀(k:Nat) (m:S),k<=3->Supp k m->(shT k m).length<=tL k:=by
 intro k
 induction k with
 | zero =>
  intro m hk hs;rcases ends_or hs with ⟨-,e1,e2⟩ | ⟨a,b,ha,hb,e1,e2⟩
  · rw[shT,e1,e2]; simp[tL]
  · have h0:R 0=2:=rfl;have:=hs a ha.1;have:=hs b hb.1;have h1:=dec_len a (by omega);have h2:=dec_len b (by omega);rw[shT,e1,e2];simp only[List.length_cons,List.length_append,tL]; omega
 | succ k ih =>
  intro m hk hs;rcases ends_or hs with ⟨-,e1,e2⟩ | ⟨a,b,ha,hb,e1,e2⟩
  · rw[shT,e1,e2]; simp only[tL,List.length_cons,List.length_nil]; omega
  ·
   have:=upto_len (m:=m) (j:=R k) hk (fun m h=>ih m (by omega) h) (hs a ha.1) (hs b hb.1) (Nat.le_refl _);rw[shT_upto e1 e2,List.length_append]
   simpa using this
theorem tL_le {k:Nat} (h:k<=3):tL k<=30000:=by
 rcases (by omega:k=0∨k=1∨k=2∨k=3) with rfl | rfl | rfl | rfl <;> decide
end RK
open Go.RowKit Go.ChangeMaps
attribute [local go_sem ↓] Go.wp_at_zero Go.wp_at_succ
theorem str_eq {s t:ByteArray} {l l':List UInt8} (hs:s=⟨l.toArray⟩) (ht:t=⟨l'.toArray⟩) (h:l=l'):s=t:=by rw[hs,ht,h]
/-- an interface value whose text is known in every later world -/
def Says (w:World) (v:Value) (s:ByteArray):Prop:=∃fn rv,Meth v "remould/rack.text" fn rv/\∀wx,Below w.heap.size w wx ->
 Calls Tryz.prog fn #[rv] wx fun e w'=>e=.returned (.string s)/\Below wx.heap.size wx w'
theorem text_any:∀(k:Nat) (v:Value) (m:RK.S) (F:Nat->Prop) (w:World),k<=3->Rep ty k w v m F->Tab w->Says w v ⟨(RK.shT k m).toArray⟩:=by
 intro k
 induction k with
 | zero =>
  intro v m F w hk h ht;have hsup:=h.supp;rcases RK.ends_or hsup with ⟨he,e1,e2⟩ | ⟨a,b,ha,hb,e1,e2⟩
  ·
   have hv:v=vE ty:=by
    obtain⟨-,-,⟨-,hv⟩ | ⟨a',b',ha',-⟩⟩:=h
    · exact hv
    · have:=ha'.1; rw[he a']at this; cases this
   subst hv;refine⟨_,_,tm_e _,fun wx hb=>?_⟩;rw[RK.shT,e1,e2];exact empty_text wx
  ·
   obtain⟨-,-,⟨he,-⟩ | ⟨a',b',ha',hb',rfl⟩⟩:=h
   · have:=ha.1; rw[he a]at this; cases this
   obtain rfl:=ha'.unique ha;obtain rfl:=hb'.unique hb;refine⟨_,_,tm_p _,fun wx hbx=>?_⟩;rw[RK.shT,e1,e2];have h0:RK.R 0=2:=rfl;have:=hsup _ ha.1;have:=hsup _ hb.1;exact pair_text _ _ wx (by omega) (by omega) (ht.below hbx)
 | succ k ih =>
  intro v m F w0 hk h ht0;have hsup:=h.supp;rcases RK.ends_or hsup with ⟨he,e1,e2⟩ | ⟨a,b,ha,hb,e1,e2⟩
  ·
   have hv:v=vE ty:=by
    obtain⟨-,⟨-,hv,-⟩ | ⟨a',b',g,bm,sv,Fs,sp,Fp,ha',-⟩⟩:=h
    · exact hv
    · have:=ha'.1; rw[he a']at this; cases this
   subst hv;refine⟨_,_,tm_e _,fun wx hb=>?_⟩;rw[RK.shT,e1,e2];exact empty_text wx
  ·
   obtain⟨-,⟨he,-⟩ | ⟨a',b',g,bm,sv,Fs,sp,Fp,ha',hb',rfl,hg0,hmap0,hsv0,hsp0,-⟩⟩:=h
   · have:=ha.1; rw[he a]at this; cases this
   obtain rfl:=ha'.unique ha;obtain rfl:=hb'.unique hb;refine⟨_,_,tm_t _,fun w hbw=>?_⟩;have ht:=ht0.below hbw;have hg:=(hbw.block g (blk_lt hg0)).trans hg0;have hmap:=hmap0.of_block (hbw.block bm hmap0.lt);have hsv:=hsv0.below hbw;have hsp:=fun s hs=>(hsp0 s hs).below hbw;have has:=hsup _ ha.1;have hbs:=hsup _ hb.1;have hr:=RK.R_le hk;have hr2:=RK.R_le (k:=k) (by omega);have hlen:∀j,j<=RK.R k->(RK.upto k m a' b' j).length+1<=30000:=fun j hj=>Nat.le_trans (RK.upto_len hk (fun m h=>RK.shT_len k m (by omega) h) has hbs hj) (RK.tL_le hk);have hlS:=Nat.le_trans (RK.shT_len k _ (by omega) (RK.shelves_supp k m a')) (RK.tL_le (by omega));have hsays:=ih sv _ Fs w (by omega) hsv ht;have hspsays:=fun s hs=>ih (sp s) _ (Fp s) w (by omega) (hsp s hs) ht;obtain⟨n,hln,hn0⟩:=hmap.len Tryz.underlying82;have hne:0 < n↔¬RK.mn k (RK.shelves k m a')=none:=by
    rw[hn0,RK.mn_none (RK.shelves_supp k m a')];constructor
    ·
     rintro ⟨i,x,h⟩ he;unfold spotsF at h
     split at h
     · rename_i h1; rw[he]at h1; exact absurd h1.2 (by decide)
     · cases h
    · intro he;obtain⟨s,hs⟩:=RK.exists_min he;exact⟨(s:Int),_,spotsF_in hs.1⟩
   have hPL:=fun o wx ho=>places_any o k wx ho (by omega);have hlk2:=hlen;obtain⟨p,ep⟩:∃p,RK.R k=p:=⟨_,rfl⟩
   rw[ep]at hPL hr2 hlen;rw[RK.shT_upto e1 e2,ep];obtain⟨G,hG⟩:∃G:Nat->ByteArray,∀j,G j=⟨(RK.upto k m a' b' j).toArray⟩:=⟨_,fun _=>rfl⟩
   have hGl:∀j,j<=p->(G j).size<=30000:=fun j hj=>by rw[hG,str_size]; have:=hlen j hj; omega
   have hPT:=fun wx h=>pair_text a' b' wx (by omega) (by omega) h;obtain⟨s1,hs1⟩:∃s:ByteArray,s=⟨(RK.dec a' ++ 58 :: RK.dec b').toArray⟩:=⟨_,rfl⟩
   obtain⟨s2,x2,q2,y2⟩:=str_sum _ [40] hs1 rfl;obtain⟨s9,x9,q9,y9⟩:=str_sum _ [41] (hG p) rfl;have l1:=dec_len a' (by omega);have l2:=dec_len b' (by omega);have n1:s1.size<=43:=by rw[hs1,str_size,List.length_append,List.length_cons]; omega
   have z2:(⟨[40].toArray⟩:ByteArray).size=1:=rfl;rw[z2]at y2;have m1:s1.size<=9223372036854775806:=by omega
   have m9:(G p).size<=9223372036854775806:=by have:=hGl p (Nat.le_refl _); omega
   rw[<-hs1]at hPT;rw[<-q9];have hgs:=blk_lt hg;have hbms:=hmap.lt;have hwk:=wrap_small (n:=k) (by omega);obtain⟨c0,c1,c2,c3,c4⟩:=row5 hg;have HT:=Lib.hid ht;have HLN:=Lib.hid hln;have HG:=Lib.hid hG;have HGl:=Lib.hid hGl;have HPT:=Lib.hid hPT;have HPL:=Lib.hid hPL;have HG1:=Lib.hid hg;have HM:=Lib.hid hmap;have HSP:=Lib.hid hspsays;clear hln hspsays hlk2 hlen hmap hg hPT hPL hGl ht ih hsv hsv0 hsp hsp0 hmap0 hg0 ht0 hbw e1 e2 ha hb ha' hb' hsup hn0 hs1 q9
   by_cases hnn:0 < n
   ·
    have hmn:=hne.1 hnn;obtain⟨fn1,rv1,⟨tt1,xx1,rfl,hm1,hf1⟩,hc1⟩:=hsays;obtain⟨sS,hsS⟩:∃s:ByteArray,s=⟨(RK.shT k (RK.shelves k m a')).toArray⟩:=⟨_,rfl⟩
    rw[<-hsS]at hc1;have n3:sS.size<=30000:=by rw[hsS,str_size]; exact hlS
    obtain⟨s3,x3,q3,y3⟩:=str_sum _ _ q2 hsS;have hG0:s3=G 0:=str_eq q3 (HG.out 0) (by simp[RK.upto,hmn]);have HG0:=Lib.hid hG0;have m3:s2.size+sS.size<=9223372036854775807:=by omega
    have HC1:=Lib.hid hc1;clear hc1 hsS q3 q2 hG0 hmn hne y3 y2 hG;go_enter Tryz.func121,Tryz.ntmps121;go_wp2_with fail;refine(HPT.out _ HT.out).mono ?_;rintro e w1 ⟨rfl,hb1⟩;have B1:Below w.heap.size w w1:=hb1;have hg1:=(B1.block g hgs).trans HG1.out;clear c0 c1 c2 c3 c4;obtain⟨c0,c1,c2,c3,c4⟩:=row5 hg1;have hlw:=fun ty=>HLN.out w1 ty (B1.block bm hbms);have zs1:=B1.size;have hgs1:=blk_lt hg1;clear hg1;go_wp2_with fail;refine(HC1.out _ B1).mono ?_;rintro e w2 ⟨rfl,hb2⟩;have B2:Below w.heap.size w w2:=bl_call B1 hb2 (by omega);have hg2:=(B2.block g hgs).trans HG1.out;clear c0 c1 c2 c3 c4 hlw;obtain⟨c0,c1,c2,c3,c4⟩:=row5 hg2;clear hg2;have zs2:=B2.size;go_wp2_with fail;refine(HPL.out _ _ (by omega)).mono ?_;rintro e w3 ⟨rfl,rfl⟩;clear hm1 hf1;go_upto_region 5 with fail;go_loopw [3,32] (fun s i wr=>∃j:Nat,i=.int .i64 j/\j<=p/\s=.string (G j)/\Below w.heap.size w wr) (fun _ i _=>p-(intOf i).toNat)
    case atStart=>exact⟨0,by simp,by omega,by rw[HG0.out],(by repeat (first | exact Below.refl _ _ | exact Nat.le_refl _ | refine Below.alloc ?_ ?_ _ | refine Below.setCell ?_ ?_ _ | refine Below.drew ?_ | refine bl_drewN ?_ _ | (assumption) | refine bl_call ?_ (by assumption) ?_ | omega | (simp <;> omega)))⟩
    case round =>
     obtain⟨j,rfl,hj,rfl,B⟩:=hrel;have HTr:=Lib.hid (HT.out.below B);have hgr:=(B.block g hgs).trans HG1.out;have HMr:=Lib.hid (HM.out.of_block (B.block bm hbms));have hgrs:=blk_lt hgr;obtain⟨r0,r1,r2,r3,r4⟩:=row5 hgr;have zr:=B.size;clear hgr;have hGj:=HGl.out j hj
     by_cases hjp:j < p
     ·
      have hin:InInt (j:Int):=⟨by omega,by omega⟩
      by_cases hsh:RK.shelves k m a' j=true
      ·
       obtain⟨fn2,rv2,⟨tt2,xx2,hsv2,hm2,hf2⟩,hc2⟩:=HSP.out j hsh;have hlk:=HMr.out.look Tryz.underlying3 Tryz.underlying82 (zero_shape wr) hin true;rw[spotsF_in hsh,Option.getD_some,hsv2]at hlk;simp only[if_true,Option.isSome_some]at hlk;have hIT:=fun wx h=>itoa_any j (by omega) wx h;obtain⟨d0,hd0⟩:∃s:ByteArray,s=⟨(RK.dec j).toArray⟩:=⟨_,rfl⟩
       rw[<-hd0]at hIT;have hdl:d0.size<=21:=by rw[hd0,str_size]; exact dec_len j (by omega)
       obtain⟨d3,hd3⟩:∃s:ByteArray,s=⟨(RK.shT k (RK.spot k m a' j)).toArray⟩:=⟨_,rfl⟩
       rw[<-hd3]at hc2;have hdl3:d3.size<=30000:=by rw[hd3,str_size]; exact Nat.le_trans (RK.shT_len k _ (by omega) (RK.spot_supp k m a' j)) (RK.tL_le (by omega))
       obtain⟨d1,f1,g1,y1⟩:=str_sum [124] _ rfl hd0;obtain⟨d2,f2,g2,y2⟩:=str_sum _ [58] g1 rfl;obtain⟨d4,f4,g4,y4⟩:=str_sum _ _ g2 hd3;obtain⟨d5,f5,g5,y5⟩:=str_sum _ _ (HG.out j) g4;have z1:(⟨[124].toArray⟩:ByteArray).size=1:=rfl;have z2:(⟨[58].toArray⟩:ByteArray).size=1:=rfl;rw[z1]at y1;rw[z2]at y2;have hlast:d5=G (j+1):=str_eq g5 (HG.out (j+1)) (by
        rw[RK.upto_succ,RK.pc,if_pos hsh];simp)
       rw[hlast]at f5;have m0:1+d0.size<=9223372036854775807:=by omega
       have m1:d0.size<=9223372036854775806:=by omega
       have m2:d1.size<=9223372036854775806:=by omega
       have m3:d2.size+d3.size<=9223372036854775807:=by omega
       have m4:(G j).size+d4.size<=9223372036854775807:=by omega
       have HIT:=Lib.hid hIT;have HC2:=Lib.hid hc2;clear hIT hc2 hd0 hd3 g1 g2 g4 g5 hlast hsv2 hsh z1 z2 y1 y2 y4 y5;go_wp2_with fail;refine(HIT.out _ HTr.out).mono ?_;rintro e w4 ⟨rfl,hb4⟩;have B4:Below w.heap.size w w4:=bl_call B hb4 (by omega);have zr4:=B4.size;go_wp2_with fail;refine(HC2.out _ B4).mono ?_;rintro e w5 ⟨rfl,hb5⟩;have B5:Below w.heap.size w w5:=bl_call B4 hb5 (by omega);go_wp2_with fail
       go_roundw
       case rel=>exact⟨j+1,by simp,by omega,by first | rfl | simp,B5⟩
       case measure=>simp[intOf]; omega
      ·
       have hlk:=HMr.out.look Tryz.underlying3 Tryz.underlying82 (zero_shape wr) hin true;rw[spotsF_out hsh]at hlk;simp only[if_true,Option.getD_none,Option.isSome_none]at hlk;have hlast:G j=G (j+1):=str_eq (HG.out j) (HG.out (j+1)) (by
        rw[RK.upto_succ,RK.pc,if_neg hsh,List.append_nil])
       have HL:=Lib.hid hlast;clear hlast hsh;go_wp2_with fail
       go_roundw
       case rel=>exact⟨j+1,by simp,by omega,by rw[HL.out],B⟩
       case measure=>simp[intOf]; omega
     ·
      obtain rfl:j=p:=by omega
      go_wp2_with fail
      go_ret
      exact⟨rfl,(by repeat (first | exact Below.refl _ _ | exact Nat.le_refl _ | refine Below.alloc ?_ ?_ _ | refine Below.setCell ?_ ?_ _ | refine Below.drew ?_ | refine bl_drewN ?_ _ | (assumption) | refine bl_call ?_ (by assumption) ?_ | omega | (simp <;> omega)))⟩
   ·
    have hmn:RK.mn k (RK.shelves k m a')=none:=by
     by_cases h:RK.mn k (RK.shelves k m a')=none
     · exact h
     · exact absurd (hne.2 h) hnn
    have hG0:s2=G 0:=str_eq q2 (HG.out 0) (by simp[RK.upto,hmn]);have HG0:=Lib.hid hG0;clear q2 hG0 hmn hne y2 hG hsays;go_enter Tryz.func121,Tryz.ntmps121;go_wp2_with fail;refine(HPT.out _ HT.out).mono ?_;rintro e w1 ⟨rfl,hb1⟩;have B1:Below w.heap.size w w1:=hb1;have hg1:=(B1.block g hgs).trans HG1.out;clear c0 c1 c2 c3 c4;obtain⟨c0,c1,c2,c3,c4⟩:=row5 hg1;have hlw:=fun ty=>HLN.out w1 ty (B1.block bm hbms);have zs1:=B1.size;have hgs1:=blk_lt hg1;clear hg1;go_wp2_with fail;refine(HPL.out _ _ (by omega)).mono ?_;rintro e w3 ⟨rfl,rfl⟩;go_upto_region 5 with fail;go_loopw [3,32] (fun s i wr=>∃j:Nat,i=.int .i64 j/\j<=p/\s=.string (G j)/\Below w.heap.size w wr) (fun _ i _=>p-(intOf i).toNat)
    case atStart=>exact⟨0,by simp,by omega,by rw[HG0.out],(by repeat (first | exact Below.refl _ _ | exact Nat.le_refl _ | refine Below.alloc ?_ ?_ _ | refine Below.setCell ?_ ?_ _ | refine Below.drew ?_ | refine bl_drewN ?_ _ | (assumption) | refine bl_call ?_ (by assumption) ?_ | omega | (simp <;> omega)))⟩
    case round =>
     obtain⟨j,rfl,hj,rfl,B⟩:=hrel;have HTr:=Lib.hid (HT.out.below B);have hgr:=(B.block g hgs).trans HG1.out;have HMr:=Lib.hid (HM.out.of_block (B.block bm hbms));have hgrs:=blk_lt hgr;obtain⟨r0,r1,r2,r3,r4⟩:=row5 hgr;have zr:=B.size;clear hgr;have hGj:=HGl.out j hj
     by_cases hjp:j < p
     ·
      have hin:InInt (j:Int):=⟨by omega,by omega⟩
      by_cases hsh:RK.shelves k m a' j=true
      ·
       obtain⟨fn2,rv2,⟨tt2,xx2,hsv2,hm2,hf2⟩,hc2⟩:=HSP.out j hsh;have hlk:=HMr.out.look Tryz.underlying3 Tryz.underlying82 (zero_shape wr) hin true;rw[spotsF_in hsh,Option.getD_some,hsv2]at hlk;simp only[if_true,Option.isSome_some]at hlk;have hIT:=fun wx h=>itoa_any j (by omega) wx h;obtain⟨d0,hd0⟩:∃s:ByteArray,s=⟨(RK.dec j).toArray⟩:=⟨_,rfl⟩
       rw[<-hd0]at hIT;have hdl:d0.size<=21:=by rw[hd0,str_size]; exact dec_len j (by omega)
       obtain⟨d3,hd3⟩:∃s:ByteArray,s=⟨(RK.shT k (RK.spot k m a' j)).toArray⟩:=⟨_,rfl⟩
       rw[<-hd3]at hc2;have hdl3:d3.size<=30000:=by rw[hd3,str_size]; exact Nat.le_trans (RK.shT_len k _ (by omega) (RK.spot_supp k m a' j)) (RK.tL_le (by omega))
       obtain⟨d1,f1,g1,y1⟩:=str_sum [124] _ rfl hd0;obtain⟨d2,f2,g2,y2⟩:=str_sum _ [58] g1 rfl;obtain⟨d4,f4,g4,y4⟩:=str_sum _ _ g2 hd3;obtain⟨d5,f5,g5,y5⟩:=str_sum _ _ (HG.out j) g4;have z1:(⟨[124].toArray⟩:ByteArray).size=1:=rfl;have z2:(⟨[58].toArray⟩:ByteArray).size=1:=rfl;rw[z1]at y1;rw[z2]at y2;have hlast:d5=G (j+1):=str_eq g5 (HG.out (j+1)) (by
        rw[RK.upto_succ,RK.pc,if_pos hsh];simp)
       rw[hlast]at f5;have m0:1+d0.size<=9223372036854775807:=by omega
       have m1:d0.size<=9223372036854775806:=by omega
       have m2:d1.size<=9223372036854775806:=by omega
       have m3:d2.size+d3.size<=9223372036854775807:=by omega
       have m4:(G j).size+d4.size<=9223372036854775807:=by omega
       have HIT:=Lib.hid hIT;have HC2:=Lib.hid hc2;clear hIT hc2 hd0 hd3 g1 g2 g4 g5 hlast hsv2 hsh z1 z2 y1 y2 y4 y5;go_wp2_with fail;refine(HIT.out _ HTr.out).mono ?_;rintro e w4 ⟨rfl,hb4⟩;have B4:Below w.heap.size w w4:=bl_call B hb4 (by omega);have zr4:=B4.size;go_wp2_with fail;refine(HC2.out _ B4).mono ?_;rintro e w5 ⟨rfl,hb5⟩;have B5:Below w.heap.size w w5:=bl_call B4 hb5 (by omega);go_wp2_with fail
       go_roundw
       case rel=>exact⟨j+1,by simp,by omega,by first | rfl | simp,B5⟩
       case measure=>simp[intOf]; omega
      ·
       have hlk:=HMr.out.look Tryz.underlying3 Tryz.underlying82 (zero_shape wr) hin true;rw[spotsF_out hsh]at hlk;simp only[if_true,Option.getD_none,Option.isSome_none]at hlk;have hlast:G j=G (j+1):=str_eq (HG.out j) (HG.out (j+1)) (by
        rw[RK.upto_succ,RK.pc,if_neg hsh,List.append_nil])
       have HL:=Lib.hid hlast;clear hlast hsh;go_wp2_with fail
       go_roundw
       case rel=>exact⟨j+1,by simp,by omega,by rw[HL.out],B⟩
       case measure=>simp[intOf]; omega
     ·
      obtain rfl:j=p:=by omega
      go_wp2_with fail
      go_ret
      exact⟨rfl,(by repeat (first | exact Below.refl _ _ | exact Nat.le_refl _ | refine Below.alloc ?_ ?_ _ | refine Below.setCell ?_ ?_ _ | refine Below.drew ?_ | refine bl_drewN ?_ _ | (assumption) | refine bl_call ?_ (by assumption) ?_ | omega | (simp <;> omega)))⟩
end Go.Proofs.YtpnfmbeccjehiabGreatDoor
