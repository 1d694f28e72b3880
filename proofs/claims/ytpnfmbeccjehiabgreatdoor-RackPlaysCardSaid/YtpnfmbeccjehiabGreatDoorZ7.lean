/- The reference's lists as the kit's print tells them: ints, Places, Place, Has, Insert. -/
import Derived.Test.YtpnfmbeccjehiabGreatDoorProg
import Derived.Below
import Derived.Deep.Draws
import Derived.Deep.AppendLies
import Derived.Maps.AppendAt
import Derived.OwnWalk
import Derived.Laws.BytesArg
import Derived.Laws.MakeOwn
import Derived.Laws.OwnMore
import Derived.Deep.OwnRows
import Derived.Tactics
import Derived.Lib.ConvBytes
import Derived.Laws.Slices
import Derived.WalkKit
import Derived.KernelRfl
import Derived.RowKit3
import Derived.Deep.LoopGhost
import Derived.Deep.QuietTactic
import Derived.BigQuiet
import Derived.WideLaws
import Derived.Deep.DeepCutAuto
import Derived.Deep.CutBlock
import Derived.Deep.RegionHeld3
import Derived.Laws.Rows
import Derived.Lib.AppendStr
import Derived.ArgAppend
import Derived.Laws.IdiomCopy
import Derived.OrdersHeld
import Derived.Laws.BitsLemmas
import Derived.RowKit
import Derived.Test.YtpnfmbeccjehiabGreatDoorW0
import Derived.Test.YtpnfmbeccjehiabGreatDoorZ5
import Derived.Test.YtpnfmbeccjehiabGreatDoorZ6
set_option maxHeartbeats 8000000
set_option maxRecDepth 100000
namespace Go.Proofs.YtpnfmbeccjehiabGreatDoor.PR
open Go.RowKit Go.Proofs.YtpnfmbeccjehiabGreatDoorW.PrintWords Go.Proofs.YtpnfmbeccjehiabGreatDoorW.PrintLast Go.Proofs.YtpnfmbeccjehiabGreatDoorW.PrintMore
attribute [local go_sem] max2_int min2_int max_two min_two max_three min_three max_four min_four
set_option linter.unusedVariables false
set_option linter.unusedSimpArgs false
def errW:Option Int->Value
 | none=>.nilIface
 | some c=>.iface 0 (.int .i64 c)
theorem errW_none:errW none=.nilIface:=rfl
theorem errW_some (c:Int):errW (some c)=.iface 0 (.int .i64 c):=rfl
theorem info3:(Tryz.prog.info? 3).map (fun i=>(i.zero,i.size,i.bytes))=some (some (.int .i64 0),1,8):=by kernel_rfl
theorem info28:(Tryz.prog.info? 28).map (fun i=>(i.zero,i.size,i.bytes))=some (some (.slice none 0 0),1,24):=by kernel_rfl
def rd_L1 (xs:List (List Int)) (i:Int):(List Int):=xs.getD i.toNat ([]:List Int)
theorem at_L1 {w:World} {A:Option Addr} {n:Nat} {xs:List (List Int)} (h:Kd.C (Kd.slice 3 (Kd.int .i64)) w A n xs) (i:Int) (h0:0<=i) (h1:i < n):∃ad A0 c0,A=some ad/\w.cell? (ad.add i.toNat)=some (.slice A0 (rd_L1 xs i).length c0)/\(rd_L1 xs i).length<=c0/\(Kd.int .i64).C w A0 (rd_L1 xs i).length (rd_L1 xs i):=by
 obtain⟨ad,c,e,_,hK,hc0⟩:=Kd.C_get h ([]:List Int) i h0 h1;have hc:∀j u,c[j]?=some u->w.cell? (ad.add (i.toNat * 1+j))=some u:=hc0;obtain⟨A0,c0,rfl,l0,g0⟩:=hK;exact⟨ad,A0,c0,e,by have hq:=hc 0 _ rfl; rwa [Nat.mul_one,Nat.add_zero]at hq,l0,g0⟩
/-! ### remouldlaw07_ints: function 11 -/
def remouldlaw07_ints.l0:Nat->List Int->List Int->Int->Option (Bool)
 | 0,_,_,_=>none
 | k+1,x0,x1,x5=>if x5 < (x0.length:Int) then (if 0<=x5 then (if x5 < (x1.length:Int) then (if (rd x0 x5)=(rd x1 x5) then (remouldlaw07_ints.l0 k x0 x1 (wrap64 (x5+1))) else (some false)) else (none)) else (none)) else (some true)
def remouldlaw07_ints.f (k:Nat) (l0:List Int) (l1:List Int):Option (Bool):=if (l0.length:Int)=(l1.length:Int) then (remouldlaw07_ints.l0 k l0 l1 0) else (some false)
theorem remouldlaw07_ints.mono_l:∀k,(∀y0 y1 y2,LeO (remouldlaw07_ints.l0 k y0 y1 y2) (remouldlaw07_ints.l0 (k+1) y0 y1 y2))
 | 0=>fun _ _ _ r h=>by simp[remouldlaw07_ints.l0]at h
 | k+1=>by
  have ih0:=remouldlaw07_ints.mono_l k
  ·
   intro y0 y1 y2;unfold remouldlaw07_ints.l0;repeat' first
   | (with_reducible exact ih0 _ _ _)
   | (with_reducible exact LeO.refl _)
   | (with_reducible exact LeO.none _)
   | (with_reducible refine LeO.ite ?_ ?_)
   | (with_reducible refine LeO.bind ?_ (fun _=>?_))
   | exact ih0 _ _ _
   | exact LeO.none _
   | refine LeO.ite ?_ ?_
   | refine LeO.bind ?_ (fun _=>?_)
theorem remouldlaw07_ints.mono : ∀ a0 a1 k, LeO (remouldlaw07_ints.f k a0 a1) (remouldlaw07_ints.f (k + 1) a0 a1) := by
  intro a0 a1 k
  have ih0 := remouldlaw07_ints.mono_l k
  unfold remouldlaw07_ints.f
  repeat' first
      | (with_reducible exact ih0 _ _ _)
      | (with_reducible exact LeO.refl _)
      | (with_reducible exact LeO.none _)
      | (with_reducible refine LeO.ite ?_ ?_)
      | (with_reducible refine LeO.bind ?_ (fun _ => ?_))
      | exact ih0 _ _ _
      | exact LeO.none _
      | refine LeO.ite ?_ ?_
      | refine LeO.bind ?_ (fun _ => ?_)
theorem remouldlaw07_ints.calls (k:Nat) (A0:Option Addr) (c0:Nat) (l0:List Int) (A1:Option Addr) (c1:Nat) (l1:List Int) (r:Bool) (w:World) (hr0:Kd.C (Kd.int .i64) w A0 l0.length l0) (hc0:l0.length<=c0) (hr1:Kd.C (Kd.int .i64) w A1 l1.length l1) (hc1:l1.length<=c1) (h:remouldlaw07_ints.f k l0 l1=some r) :
  Calls Tryz.prog 11 #[.slice A0 l0.length c0,.slice A1 l1.length c1] w fun e w'=>e=.returned (.bool r)/\Drawn0 w w':=by
 have HR0:=Aside0.mk hr0;have HC0:=Aside0.mk hc0;clear hr0 hc0;have HR1:=Aside0.mk hr1;have HC1:=Aside0.mk hc1;clear hr1 hc1;have H:(if (l0.length:Int)=(l1.length:Int) then (remouldlaw07_ints.l0 k l0 l1 0) else (some false))=some r:=h;clear h
 by_cases c3:(l0.length:Int)=(l1.length:Int)
 ·
  rw[if_pos c3]at H;have c3b0:((l0.length:Int) == (l1.length:Int))=true:=beq_iff_eq.mpr c3;have c3b1:((l0.length:Int) != (l1.length:Int))=false:=bne_eq_false_iff_eq.mpr c3;have c3b2:(l0.length == l1.length)=true:=by first | simpa using c3 | (simp at c3 ⊢; omega)
  clear c3;have H':=Aside0.mk H;clear H;go_enter Tryz.func11,Tryz.ntmps11;go_wp2;repeat (go_quiet (fail); try go_wp2)
  go_loopg [5] k (fun kq v5 w'=>∃(x5_1:Int),v5=.int .i64 x5_1/\Aside0 (remouldlaw07_ints.l0 kq l0 l1 x5_1=some r)/\Aside0 (kq<=k)/\Drawn0 w w')
  case atStart=>exact⟨(0),(by first | rfl | (simp; done) | (simp[*]; done)),H',⟨Nat.le_refl _⟩,by repeat (first | exact Drawn0.refl _ | apply Drawn0.step)⟩
  case round =>
   clear H';try clear c1
   try clear p2
   try clear c3
   try clear c3b0
   try clear c3b1
   try clear c3b2
   obtain⟨x5_1,rfl,HA,HK1,⟨m1,rfl⟩⟩:=hrel;cases gk with
   | zero=>exact absurd HA.out (by simp[remouldlaw07_ints.l0])
   | succ k1 =>
    have H:=HA.out;clear HA;simp only[remouldlaw07_ints.l0]at H
    by_cases c4:x5_1 < (l0.length:Int)
    ·
     rw[if_pos c4]at H;have c4b0:decide (x5_1 < (l0.length:Int))=true:=decide_eq_true c4;clear c4
     by_cases c5:0<=x5_1
     ·
      rw[if_pos c5]at H;have c5b0:decide (0<=x5_1)=true:=decide_eq_true c5;clear c5
      by_cases c6:x5_1 < (l1.length:Int)
      ·
       rw[if_pos c6]at H;have c6b0:decide (x5_1 < (l1.length:Int))=true:=decide_eq_true c6;clear c6
       by_cases c7:(rd l0 x5_1)=(rd l1 x5_1)
       ·
        rw[if_pos c7]at H;have c7b0:((rd l0 x5_1) == (rd l1 x5_1))=true:=beq_iff_eq.mpr c7;have c7b1:((rd l0 x5_1) != (rd l1 x5_1))=false:=bne_eq_false_iff_eq.mpr c7;clear c7;have H':=Aside0.mk H;clear H;have p101:0<=(x5_1:Int):=of_decide_eq_true (by assumption);have q101:x5_1 < (l0.length:Int):=of_decide_eq_true (by assumption);obtain⟨ad101,e101,hx101_0⟩:=Kd.at_int HR0.out x5_1 p101 q101;cases e101
        replace p101:=eq_true p101
        replace q101:=eq_true q101
        have p102:0<=(x5_1:Int):=of_decide_eq_true (by assumption);have q102:x5_1 < (l1.length:Int):=of_decide_eq_true (by assumption);obtain⟨ad102,e102,hx102_0⟩:=Kd.at_int HR1.out x5_1 p102 q102;cases e102
        replace p102:=eq_true p102
        replace q102:=eq_true q102
        go_wp2;repeat (go_quiet (fail); try go_wp2)
        go_roundg k1
        case measure=>have:=HK1.out; omega
        case rel=>exact⟨(wrap64 (x5_1+1)),(by first | rfl | (simp; done) | (simp[*]; done)),H',⟨by have:=HK1.out; omega⟩,by repeat (first | exact Drawn0.refl _ | apply Drawn0.step)⟩
       ·
        rw[if_neg c7]at H;have c7b0:((rd l0 x5_1) == (rd l1 x5_1))=false:=beq_eq_false_iff_ne.mpr c7;have c7b1:((rd l0 x5_1) != (rd l1 x5_1))=true:=bne_iff_ne.mpr c7;obtain rfl:=Option.some.inj H;have p101:0<=(x5_1:Int):=of_decide_eq_true (by assumption);have q101:x5_1 < (l0.length:Int):=of_decide_eq_true (by assumption);obtain⟨ad101,e101,hx101_0⟩:=Kd.at_int HR0.out x5_1 p101 q101;cases e101
        replace p101:=eq_true p101
        replace q101:=eq_true q101
        have p102:0<=(x5_1:Int):=of_decide_eq_true (by assumption);have q102:x5_1 < (l1.length:Int):=of_decide_eq_true (by assumption);obtain⟨ad102,e102,hx102_0⟩:=Kd.at_int HR1.out x5_1 p102 q102;cases e102
        replace p102:=eq_true p102
        replace q102:=eq_true q102
        go_wp2;repeat (go_quiet (fail); try go_wp2)
        go_ret
        exact⟨by first | rfl | (simp; done) | (simp[*]; done),by repeat (first | exact Drawn0.refl _ | apply Drawn0.step)⟩
      · rw[if_neg c6]at H;exact absurd H (by simp)
     · rw[if_neg c5]at H;exact absurd H (by simp)
    ·
     rw[if_neg c4]at H;have c4b0:decide (x5_1 < (l0.length:Int))=false:=decide_eq_false c4;clear c4;obtain rfl:=Option.some.inj H;go_wp2;repeat (go_quiet (fail); try go_wp2)
     go_ret
     exact⟨by first | rfl | (simp; done) | (simp[*]; done),by repeat (first | exact Drawn0.refl _ | apply Drawn0.step)⟩
 ·
  rw[if_neg c3]at H;have c3b0:((l0.length:Int) == (l1.length:Int))=false:=beq_eq_false_iff_ne.mpr c3;have c3b1:((l0.length:Int) != (l1.length:Int))=true:=bne_iff_ne.mpr c3;have c3b2:(l0.length == l1.length)=false:=by first | simpa using c3 | (simp at c3 ⊢; omega)
  obtain rfl:=Option.some.inj H;go_enter Tryz.func11,Tryz.ntmps11;go_wp2;repeat (go_quiet (fail); try go_wp2)
  go_ret
  exact⟨by first | rfl | (simp; done) | (simp[*]; done),by repeat (first | exact Drawn0.refl _ | apply Drawn0.step)⟩
/-! ### remouldref07_Places: function 31 -/
def remouldref07_Places.l0:Nat->Int->Int->Int->Option (Int)
 | 0,_,_,_=>none
 | k+1,x0,x3,x4=>if x4 < x0 then (remouldref07_Places.l0 k x0 (wrap64 (x3 * x3)) (wrap64 (x4+1))) else (some x3)
def remouldref07_Places.f (k:Nat) (a0:Int):Option (Int):=remouldref07_Places.l0 k a0 2 0
theorem remouldref07_Places.mono_l:∀k,(∀y0 y1 y2,LeO (remouldref07_Places.l0 k y0 y1 y2) (remouldref07_Places.l0 (k+1) y0 y1 y2))
 | 0=>fun _ _ _ r h=>by simp[remouldref07_Places.l0]at h
 | k+1=>by
  have ih0:=remouldref07_Places.mono_l k
  ·
   intro y0 y1 y2;unfold remouldref07_Places.l0;repeat' first
   | (with_reducible exact ih0 _ _ _)
   | (with_reducible exact LeO.refl _)
   | (with_reducible exact LeO.none _)
   | (with_reducible refine LeO.ite ?_ ?_)
   | (with_reducible refine LeO.bind ?_ (fun _=>?_))
   | exact ih0 _ _ _
   | exact LeO.none _
   | refine LeO.ite ?_ ?_
   | refine LeO.bind ?_ (fun _=>?_)
theorem remouldref07_Places.mono : ∀ a0 k, LeO (remouldref07_Places.f k a0) (remouldref07_Places.f (k + 1) a0) := by
  intro a0 k
  have ih0 := remouldref07_Places.mono_l k
  unfold remouldref07_Places.f
  repeat' first
      | (with_reducible exact ih0 _ _ _)
      | (with_reducible exact LeO.refl _)
      | (with_reducible exact LeO.none _)
      | (with_reducible refine LeO.ite ?_ ?_)
      | (with_reducible refine LeO.bind ?_ (fun _ => ?_))
      | exact ih0 _ _ _
      | exact LeO.none _
      | refine LeO.ite ?_ ?_
      | refine LeO.bind ?_ (fun _ => ?_)
theorem remouldref07_Places.calls (k:Nat) (a0:Int) (r:Int) (w:World) (h:remouldref07_Places.f k a0=some r) :
  Calls Tryz.prog 31 #[.int .i64 a0] w fun e w'=>e=.returned (.int .i64 r)/\Drawn0 w w':=by
 have H:(remouldref07_Places.l0 k a0 2 0)=some r:=h;clear h;have H':=Aside0.mk H;clear H;go_enter Tryz.func31,Tryz.ntmps31;go_wp2
 go_loopg [3,4] k (fun kq v3 v4 w'=>∃(x3_1:Int) (x4_1:Int),v3=.int .i64 x3_1/\v4=.int .i64 x4_1/\Aside0 (remouldref07_Places.l0 kq a0 x3_1 x4_1=some r)/\Aside0 (kq<=k)/\Drawn0 w w')
 case atStart=>exact⟨(2),(0),(by first | rfl | (simp; done) | (simp[*]; done)),(by first | rfl | (simp; done) | (simp[*]; done)),H',⟨Nat.le_refl _⟩,by repeat (first | exact Drawn0.refl _ | apply Drawn0.step)⟩
 case round =>
  clear H';obtain⟨x3_1,x4_1,rfl,rfl,HA,HK1,⟨m1,rfl⟩⟩:=hrel;cases gk with
  | zero=>exact absurd HA.out (by simp[remouldref07_Places.l0])
  | succ k1 =>
   have H:=HA.out;clear HA;simp only[remouldref07_Places.l0]at H
   by_cases c2:x4_1 < a0
   ·
    rw[if_pos c2]at H;have c2b0:decide (x4_1 < a0)=true:=decide_eq_true c2;clear c2;have H':=Aside0.mk H;clear H;go_wp2
    go_roundg k1
    case measure=>have:=HK1.out; omega
    case rel=>exact⟨(wrap64 (x3_1 * x3_1)),(wrap64 (x4_1+1)),(by first | rfl | (simp; done) | (simp[*]; done)),(by first | rfl | (simp; done) | (simp[*]; done)),H',⟨by have:=HK1.out; omega⟩,by repeat (first | exact Drawn0.refl _ | apply Drawn0.step)⟩
   ·
    rw[if_neg c2]at H;have c2b0:decide (x4_1 < a0)=false:=decide_eq_false c2;clear c2;obtain rfl:=Option.some.inj H;go_wp2
    go_ret
    exact⟨by first | rfl | (simp; done) | (simp[*]; done),by repeat (first | exact Drawn0.refl _ | apply Drawn0.step)⟩
/-! ### remouldref07_Place: function 19 -/
def remouldref07_Place.f (k:Nat) (a0:Int) (a1:Int):Option (Bool):=if a1>=0 then ((remouldref07_Places.f k a0).bind fun t103=>(some (decide (a1 < t103)))) else (some false)
theorem remouldref07_Place.mono : ∀ a0 a1 k, LeO (remouldref07_Place.f k a0 a1) (remouldref07_Place.f (k + 1) a0 a1) := by
  intro a0 a1 k
  unfold remouldref07_Place.f
  repeat' first
      | (with_reducible exact remouldref07_Places.mono _ _)
      | (with_reducible exact LeO.refl _)
      | (with_reducible exact LeO.none _)
      | (with_reducible refine LeO.ite ?_ ?_)
      | (with_reducible refine LeO.bind ?_ (fun _ => ?_))
      | exact remouldref07_Places.mono _ _
      | exact LeO.none _
      | refine LeO.ite ?_ ?_
      | refine LeO.bind ?_ (fun _ => ?_)
theorem remouldref07_Place.calls (k:Nat) (a0:Int) (a1:Int) (r:Bool) (w:World) (h:remouldref07_Place.f k a0 a1=some r) :
  Calls Tryz.prog 19 #[.int .i64 a0,.int .i64 a1] w fun e w'=>e=.returned (.bool r)/\Drawn0 w w':=by
 have H:(if a1>=0 then ((remouldref07_Places.f k a0).bind fun t103=>(some (decide (a1 < t103)))) else (some false))=some r:=h;clear h
 by_cases c3:a1>=0
 ·
  rw[if_pos c3]at H;have c3b0:decide (0<=a1)=true:=decide_eq_true c3;clear c3
  replace H:=Option.bind_eq_some_iff.mp H
  obtain⟨t103,A40,H⟩:=H
  replace H:(some (decide (a1 < t103)))=some r:=H
  have A4:=Aside0.mk A40;clear A40;obtain rfl:=Option.some.inj H;go_enter Tryz.func19,Tryz.ntmps19;go_wp2_with (first | (go_at_call 31; (with_reducible refine(remouldref07_Places.calls k a0 t103 _ A4.out).mono ?_); rintro e w' ⟨rfl,⟨nd,rfl⟩⟩))
  go_ret
  exact⟨by first | rfl | (simp; done) | (simp[*]; done),by repeat (first | exact Drawn0.refl _ | apply Drawn0.step)⟩
 ·
  rw[if_neg c3]at H;have c3b0:decide (0<=a1)=false:=decide_eq_false c3;clear c3;obtain rfl:=Option.some.inj H;go_enter Tryz.func19,Tryz.ntmps19;go_wp2
  go_ret
  exact⟨by first | rfl | (simp; done) | (simp[*]; done),by repeat (first | exact Drawn0.refl _ | apply Drawn0.step)⟩
/-! ### remouldref07_Has: function 21 -/
def remouldref07_Has.l0:Nat->List Int->Int->Int->Option (Bool)
 | 0,_,_,_=>none
 | k+1,x0,x1,x5=>if x5 < (x0.length:Int) then (if 0<=x5 then (if (rd x0 x5)=x1 then (some true) else (remouldref07_Has.l0 k x0 x1 (wrap64 (x5+1)))) else (none)) else (some false)
def remouldref07_Has.f (k:Nat) (l0:List Int) (a1:Int):Option (Bool):=remouldref07_Has.l0 k l0 a1 0
theorem remouldref07_Has.mono_l:∀k,(∀y0 y1 y2,LeO (remouldref07_Has.l0 k y0 y1 y2) (remouldref07_Has.l0 (k+1) y0 y1 y2))
 | 0=>fun _ _ _ r h=>by simp[remouldref07_Has.l0]at h
 | k+1=>by
  have ih0:=remouldref07_Has.mono_l k
  ·
   intro y0 y1 y2;unfold remouldref07_Has.l0;repeat' first
   | (with_reducible exact ih0 _ _ _)
   | (with_reducible exact LeO.refl _)
   | (with_reducible exact LeO.none _)
   | (with_reducible refine LeO.ite ?_ ?_)
   | (with_reducible refine LeO.bind ?_ (fun _=>?_))
   | exact ih0 _ _ _
   | exact LeO.none _
   | refine LeO.ite ?_ ?_
   | refine LeO.bind ?_ (fun _=>?_)
theorem remouldref07_Has.mono : ∀ a0 a1 k, LeO (remouldref07_Has.f k a0 a1) (remouldref07_Has.f (k + 1) a0 a1) := by
  intro a0 a1 k
  have ih0 := remouldref07_Has.mono_l k
  unfold remouldref07_Has.f
  repeat' first
      | (with_reducible exact ih0 _ _ _)
      | (with_reducible exact LeO.refl _)
      | (with_reducible exact LeO.none _)
      | (with_reducible refine LeO.ite ?_ ?_)
      | (with_reducible refine LeO.bind ?_ (fun _ => ?_))
      | exact ih0 _ _ _
      | exact LeO.none _
      | refine LeO.ite ?_ ?_
      | refine LeO.bind ?_ (fun _ => ?_)
theorem remouldref07_Has.calls (k:Nat) (A0:Option Addr) (c0:Nat) (l0:List Int) (a1:Int) (r:Bool) (w:World) (hr0:Kd.C (Kd.int .i64) w A0 l0.length l0) (hc0:l0.length<=c0) (h:remouldref07_Has.f k l0 a1=some r) :
  Calls Tryz.prog 21 #[.slice A0 l0.length c0,.int .i64 a1] w fun e w'=>e=.returned (.bool r)/\Drawn0 w w':=by
 have HR0:=Aside0.mk hr0;have HC0:=Aside0.mk hc0;clear hr0 hc0;have H:(remouldref07_Has.l0 k l0 a1 0)=some r:=h;clear h;have H':=Aside0.mk H;clear H;go_enter Tryz.func21,Tryz.ntmps21;go_wp2
 go_loopg [5] k (fun kq v5 w'=>∃(x5_1:Int),v5=.int .i64 x5_1/\Aside0 (remouldref07_Has.l0 kq l0 a1 x5_1=some r)/\Aside0 (kq<=k)/\Drawn0 w w')
 case atStart=>exact⟨(0),(by first | rfl | (simp; done) | (simp[*]; done)),H',⟨Nat.le_refl _⟩,by repeat (first | exact Drawn0.refl _ | apply Drawn0.step)⟩
 case round =>
  clear H';try clear c2
  try clear p2
  obtain⟨x5_1,rfl,HA,HK1,⟨m1,rfl⟩⟩:=hrel;cases gk with
  | zero=>exact absurd HA.out (by simp[remouldref07_Has.l0])
  | succ k1 =>
   have H:=HA.out;clear HA;simp only[remouldref07_Has.l0]at H
   by_cases c3:x5_1 < (l0.length:Int)
   ·
    rw[if_pos c3]at H;have c3b0:decide (x5_1 < (l0.length:Int))=true:=decide_eq_true c3;clear c3
    by_cases c4:0<=x5_1
    ·
     rw[if_pos c4]at H;have c4b0:decide (0<=x5_1)=true:=decide_eq_true c4;clear c4
     by_cases c5:(rd l0 x5_1)=a1
     ·
      rw[if_pos c5]at H;have c5b0:((rd l0 x5_1) == a1)=true:=beq_iff_eq.mpr c5;have c5b1:((rd l0 x5_1) != a1)=false:=bne_eq_false_iff_eq.mpr c5;clear c5;obtain rfl:=Option.some.inj H;have p104:0<=(x5_1:Int):=of_decide_eq_true (by assumption);have q104:x5_1 < (l0.length:Int):=of_decide_eq_true (by assumption);obtain⟨ad104,e104,hx104_0⟩:=Kd.at_int HR0.out x5_1 p104 q104;cases e104
      replace p104:=eq_true p104
      replace q104:=eq_true q104
      go_wp2
      go_ret
      exact⟨by first | rfl | (simp; done) | (simp[*]; done),by repeat (first | exact Drawn0.refl _ | apply Drawn0.step)⟩
     ·
      rw[if_neg c5]at H;have c5b0:((rd l0 x5_1) == a1)=false:=beq_eq_false_iff_ne.mpr c5;have c5b1:((rd l0 x5_1) != a1)=true:=bne_iff_ne.mpr c5;have H':=Aside0.mk H;clear H;have p104:0<=(x5_1:Int):=of_decide_eq_true (by assumption);have q104:x5_1 < (l0.length:Int):=of_decide_eq_true (by assumption);obtain⟨ad104,e104,hx104_0⟩:=Kd.at_int HR0.out x5_1 p104 q104;cases e104
      replace p104:=eq_true p104
      replace q104:=eq_true q104
      go_wp2
      go_roundg k1
      case measure=>have:=HK1.out; omega
      case rel=>exact⟨(wrap64 (x5_1+1)),(by first | rfl | (simp; done) | (simp[*]; done)),H',⟨by have:=HK1.out; omega⟩,by repeat (first | exact Drawn0.refl _ | apply Drawn0.step)⟩
    · rw[if_neg c4]at H;exact absurd H (by simp)
   ·
    rw[if_neg c3]at H;have c3b0:decide (x5_1 < (l0.length:Int))=false:=decide_eq_false c3;clear c3;obtain rfl:=Option.some.inj H;go_wp2
    go_ret
    exact⟨by first | rfl | (simp; done) | (simp[*]; done),by repeat (first | exact Drawn0.refl _ | apply Drawn0.step)⟩
/-! ### remouldref07_Insert: function 22 -/
def remouldref07_Insert.l0:Nat->List Int->Int->Int->Option (List Int)
 | 0,_,_,_=>none
 | k+1,x0,x1,x5=>if x5 < (x0.length:Int) then (if 0<=x5 then (if (rd x0 x5) < x1 then (remouldref07_Insert.l0 k x0 x1 (wrap64 (x5+1))) else (if x5<=(x0.length:Int) then ((some (x0.take (x5:Int).toNat:List Int)).bind fun y107=>(if ([]:List Int).length+y107.length < 17592186044416 then ((some (([]:List Int) ++ y107:List Int)).bind fun y111=>(if y111.length < 17592186044416 then ((some (y111 ++ [x1]:List Int)).bind fun y114=>((some (x0.drop (x5:Int).toNat:List Int)).bind fun y117=>(if y114.length+y117.length < 17592186044416 then (some (y114 ++ y117)) else (none)))) else (none))) else (none))) else (none))) else (none)) else (if 0<=x5 then (if x5<=(x0.length:Int) then ((some (x0.take (x5:Int).toNat:List Int)).bind fun y124=>(if ([]:List Int).length+y124.length < 17592186044416 then ((some (([]:List Int) ++ y124:List Int)).bind fun y128=>(if y128.length < 17592186044416 then ((some (y128 ++ [x1]:List Int)).bind fun y131=>((some (x0.drop (x5:Int).toNat:List Int)).bind fun y134=>(if y131.length+y134.length < 17592186044416 then (some (y131 ++ y134)) else (none)))) else (none))) else (none))) else (none)) else (none))
def remouldref07_Insert.f (k:Nat) (l0:List Int) (a1:Int):Option (List Int):=(remouldref07_Has.f k l0 a1).bind fun t105=>(if t105=true then (some l0) else (remouldref07_Insert.l0 k l0 a1 0))
theorem remouldref07_Insert.mono_l:∀k,(∀y0 y1 y2,LeO (remouldref07_Insert.l0 k y0 y1 y2) (remouldref07_Insert.l0 (k+1) y0 y1 y2))
 | 0=>fun _ _ _ r h=>by simp[remouldref07_Insert.l0]at h
 | k+1=>by
  have ih0:=remouldref07_Insert.mono_l k
  ·
   intro y0 y1 y2;unfold remouldref07_Insert.l0;repeat' first
   | (with_reducible exact ih0 _ _ _)
   | (with_reducible exact remouldref07_Has.mono _ _ _)
   | (with_reducible exact LeO.refl _)
   | (with_reducible exact LeO.none _)
   | (with_reducible refine LeO.ite ?_ ?_)
   | (with_reducible refine LeO.bind ?_ (fun _=>?_))
   | exact ih0 _ _ _
   | exact remouldref07_Has.mono _ _ _
   | exact LeO.none _
   | refine LeO.ite ?_ ?_
   | refine LeO.bind ?_ (fun _=>?_)
theorem remouldref07_Insert.mono : ∀ a0 a1 k, LeO (remouldref07_Insert.f k a0 a1) (remouldref07_Insert.f (k + 1) a0 a1) := by
  intro a0 a1 k
  have ih0 := remouldref07_Insert.mono_l k
  unfold remouldref07_Insert.f
  repeat' first
      | (with_reducible exact ih0 _ _ _)
      | (with_reducible exact remouldref07_Has.mono _ _ _)
      | (with_reducible exact LeO.refl _)
      | (with_reducible exact LeO.none _)
      | (with_reducible refine LeO.ite ?_ ?_)
      | (with_reducible refine LeO.bind ?_ (fun _ => ?_))
      | exact ih0 _ _ _
      | exact remouldref07_Has.mono _ _ _
      | exact LeO.none _
      | refine LeO.ite ?_ ?_
      | refine LeO.bind ?_ (fun _ => ?_)
theorem remouldref07_Insert.calls (k:Nat) (P0_:Nat->Prop) (u9000_:Value) (l0:List Int) (a1:Int) (r:List Int) (w0 w:World) (hB:Below w0.heap.size w0 w) (ho0:Kd.R (Kd.int .i64) 3 w w0.heap.size P0_ u9000_ l0) (h:remouldref07_Insert.f k l0 a1=some r) :
  Calls Tryz.prog 22 #[u9000_,.int .i64 a1] w fun e w'=>∃v0_:Value,e=.returned (v0_)/\Kd.R (Kd.int .i64) 3 w' w0.heap.size (fun k_=>(P0_ k_∨w.heap.size<=k_)) v0_ r/\Below w0.heap.size w0 w'/\Kept w w' (fun k_=>P0_ k_):=by
 have HO0:=Aside0.mk (show Kd.R (Kd.int .i64) 3 w w0.heap.size (fun k_=>(P0_ k_∨w.heap.size<=k_)) u9000_ l0 from Kd.R_mono ho0 (fun k_ hk=>(.inl hk)));have HK:=Aside0.mk (Kept.refl w (fun k_=>P0_ k_));have HW0:=Aside0.mk hB.size;have HB:=Aside0.mk hB;clear hB;have H:((remouldref07_Has.f k l0 a1).bind fun t105=>(if t105=true then (some l0) else (remouldref07_Insert.l0 k l0 a1 0)))=some r:=h;clear h
 replace H:=Option.bind_eq_some_iff.mp H
 obtain⟨t105,A30,H⟩:=H
 replace H:(if t105=true then (some l0) else (remouldref07_Insert.l0 k l0 a1 0))=some r:=H
 have A3:=Aside0.mk A30;clear A30
 by_cases c4:t105=true
 ·
  subst c4;have H1:(some l0)=some r:=by rw[if_pos rfl]at H; exact H
  clear H;have H:=H1;clear H1;obtain rfl:=Option.some.inj H;obtain⟨Ao5,co5,eo5⟩:=Kd.R_slice HO0.out;subst eo5;go_enter Tryz.func22,Tryz.ntmps22;go_wp2_with (first | ((with_reducible refine gate_callee (f:=21) rfl ?_); refine goesL_ (some 9) rfl rfl Tryz.func21 (by kernel_rfl) rfl #[.slice Ao5 l0.length co5,.int .i64 a1] rfl (by(try simp only[List.map_toArray,List.map_cons,List.map_nil]); first | done | rfl | (simp only[List.length_drop,List.length_take]; rfl)) ?_; (with_reducible refine(remouldref07_Has.calls k _ _ l0 a1 true _ ?side1 ?side2 A3.out).mono ?_); (case side1=>repeat (first | exact(Kd.R_reads' HO0.out).2.2 | (with_reducible refine Kd.C_alloc ?_ _) | (with_reducible refine Kd.C_drewN ?_ _) | (with_reducible refine Kd.C_drew ?_))); (case side2=>exact(Kd.R_reads' HO0.out).2.1); rintro e w' ⟨rfl,⟨nd,rfl⟩⟩; refine⟨_,rfl,?_⟩))
  go_ret
  exact⟨_,by first | rfl | (simp[errW_none,errW_some] <;> rfl) | (simp[*,errW_none,errW_some] <;> rfl),by(with_reducible repeat (first | apply Kd.R_alloc | apply Kd.R_drewN | apply Kd.R_drew)); exact HO0.out,by repeat (first | (with_reducible first | exact HB.out | apply below_alloc | apply pw_below_drewN | apply below_drew1) | exact HB.out),by repeat (first | (with_reducible first | exact HK.out | apply Kept.alloc | apply Kept.drewN | apply Kept.drew) | exact HK.out)⟩
 ·
  replace c4:=Bool.eq_false_iff.mpr c4
  subst c4;have H1:(remouldref07_Insert.l0 k l0 a1 0)=some r:=by rw[if_neg (show ¬(false=true) by decide)]at H; exact H
  clear H;have H:=H1;clear H1;have H':=Aside0.mk H;clear H;obtain⟨Ao6,co6,eo6⟩:=Kd.R_slice HO0.out;subst eo6;go_enter Tryz.func22,Tryz.ntmps22;go_wp2_with (first | ((with_reducible refine gate_callee (f:=21) rfl ?_); refine goesL_ (some 9) rfl rfl Tryz.func21 (by kernel_rfl) rfl #[.slice Ao6 l0.length co6,.int .i64 a1] rfl (by(try simp only[List.map_toArray,List.map_cons,List.map_nil]); first | done | rfl | (simp only[List.length_drop,List.length_take]; rfl)) ?_; (with_reducible refine(remouldref07_Has.calls k _ _ l0 a1 false _ ?side1 ?side2 A3.out).mono ?_); (case side1=>repeat (first | exact(Kd.R_reads' HO0.out).2.2 | (with_reducible refine Kd.C_alloc ?_ _) | (with_reducible refine Kd.C_drewN ?_ _) | (with_reducible refine Kd.C_drew ?_))); (case side2=>exact(Kd.R_reads' HO0.out).2.1); rintro e w' ⟨rfl,⟨nd,rfl⟩⟩; refine⟨_,rfl,?_⟩))
  go_loopg [5] k (fun kq v5 w'=>∃(x5_1:Int),v5=.int .i64 x5_1/\Aside0 (remouldref07_Insert.l0 kq l0 a1 x5_1=some r)/\Aside0 (kq<=k)/\Aside0 (Kd.R (Kd.int .i64) 3 w' w0.heap.size (fun k_=>(P0_ k_∨w.heap.size<=k_)) (.slice Ao6 l0.length co6) l0)/\Aside0 (Kept w w' (fun k_=>P0_ k_))/\Aside0 (Below w0.heap.size w0 w'))
  case atStart=>exact⟨(0),(by first | rfl | (simp; done) | (simp[*]; done)),H',⟨Nat.le_refl _⟩,⟨by(with_reducible repeat (first | apply Kd.R_alloc | apply Kd.R_drewN | apply Kd.R_drew)); exact HO0.out⟩,⟨by repeat (first | (with_reducible first | exact HK.out | apply Kept.alloc | apply Kept.drewN | apply Kept.drew) | exact HK.out)⟩,⟨by repeat (first | (with_reducible first | exact HB.out | apply below_alloc | apply pw_below_drewN | apply below_drew1) | exact HB.out)⟩⟩
  case round =>
   clear H';try clear c2
   try clear p2
   try clear c4
   obtain⟨x5_1,rfl,HA,HK1,HO_0,HK,HB⟩:=hrel;cases gk with
   | zero=>exact absurd HA.out (by simp[remouldref07_Insert.l0])
   | succ k1 =>
    have H:=HA.out;clear HA;simp only[remouldref07_Insert.l0]at H
    by_cases c7:x5_1 < (l0.length:Int)
    ·
     rw[if_pos c7]at H;have c7b0:decide (x5_1 < (l0.length:Int))=true:=decide_eq_true c7;clear c7
     by_cases c8:0<=x5_1
     ·
      rw[if_pos c8]at H;have c8b0:decide (0<=x5_1)=true:=decide_eq_true c8;clear c8
      by_cases c9:(rd l0 x5_1) < a1
      ·
       rw[if_pos c9]at H;have c9b0:decide ((rd l0 x5_1) < a1)=true:=decide_eq_true c9;clear c9;have H':=Aside0.mk H;clear H;have p106:0<=(x5_1:Int):=of_decide_eq_true (by assumption);have q106:x5_1 < (l0.length:Int):=of_decide_eq_true (by assumption);obtain⟨ad106,e106,hx106_0⟩:=Kd.at_int (Kd.R_reads' HO_0.out).2.2 x5_1 p106 q106;cases e106
       replace p106:=eq_true p106
       replace q106:=eq_true q106
       go_wp2
       go_roundg k1
       case measure=>have:=HK1.out; omega
       case rel=>exact⟨(wrap64 (x5_1+1)),(by first | rfl | (simp; done) | (simp[*]; done)),H',⟨by have:=HK1.out; omega⟩,⟨by(with_reducible repeat (first | apply Kd.R_alloc | apply Kd.R_drewN | apply Kd.R_drew)); exact HO_0.out⟩,⟨by repeat (first | (with_reducible first | exact HK.out | apply Kept.alloc | apply Kept.drewN | apply Kept.drew) | exact HK.out)⟩,⟨by repeat (first | (with_reducible first | exact HB.out | apply below_alloc | apply pw_below_drewN | apply below_drew1) | exact HB.out)⟩⟩
      ·
       rw[if_neg c9]at H;have c9b0:decide ((rd l0 x5_1) < a1)=false:=decide_eq_false c9;clear c9;have c10b0:=eq_true (of_decide_eq_true (by assumption):0<=x5_1)
       by_cases c11:x5_1<=(l0.length:Int)
       ·
        rw[if_pos c11]at H;have c11b0:=eq_true c11;have c11b1:decide (x5_1<=(l0.length:Int))=true:=decide_eq_true c11;clear c11;obtain⟨y107,hy107⟩:∃y_:List Int,y_=(l0.take (x5_1:Int).toNat):=⟨_,rfl⟩
        replace H:(if ([]:List Int).length+y107.length < 17592186044416 then ((some (([]:List Int) ++ y107:List Int)).bind fun y111=>(if y111.length < 17592186044416 then ((some (y111 ++ [a1]:List Int)).bind fun y114=>((some (l0.drop (x5_1:Int).toNat:List Int)).bind fun y117=>(if y114.length+y117.length < 17592186044416 then (some (y114 ++ y117)) else (none)))) else (none))) else (none))=some r:=by first | (rw[hy107]; with_reducible exact H) | (have H2_:=(Option.bind_some _ _).symm.trans H; rw[hy107]; with_reducible exact H2_) | (have H2_:=(Option.bind_some _ _).symm.trans H; with_reducible exact H2_) | with_reducible exact H | (rw[hy107]; exact H) | exact H
        have Ny107:=Aside0.mk hy107;clear hy107
        by_cases c12:([]:List Int).length+y107.length < 17592186044416
        ·
         rw[if_pos c12]at H;have LMc12:=Aside0.mk c12;clear c12;obtain⟨y111,hy111⟩:∃y_:List Int,y_=(([]:List Int) ++ y107):=⟨_,rfl⟩
         replace H:(if y111.length < 17592186044416 then ((some (y111 ++ [a1]:List Int)).bind fun y114=>((some (l0.drop (x5_1:Int).toNat:List Int)).bind fun y117=>(if y114.length+y117.length < 17592186044416 then (some (y114 ++ y117)) else (none)))) else (none))=some r:=by first | (rw[hy111]; with_reducible exact H) | (have H2_:=(Option.bind_some _ _).symm.trans H; rw[hy111]; with_reducible exact H2_) | (have H2_:=(Option.bind_some _ _).symm.trans H; with_reducible exact H2_) | with_reducible exact H | (rw[hy111]; exact H) | exact H
         have Ny111:=Aside0.mk hy111;clear hy111
         by_cases c13:y111.length < 17592186044416
         ·
          rw[if_pos c13]at H;have LMc13:=Aside0.mk c13;clear c13;obtain⟨y114,hy114⟩:∃y_:List Int,y_=(y111 ++ [a1]):=⟨_,rfl⟩
          replace H:((some (l0.drop (x5_1:Int).toNat:List Int)).bind fun y117=>(if y114.length+y117.length < 17592186044416 then (some (y114 ++ y117)) else (none)))=some r:=by first | (rw[hy114]; with_reducible exact H) | (have H2_:=(Option.bind_some _ _).symm.trans H; rw[hy114]; with_reducible exact H2_) | (have H2_:=(Option.bind_some _ _).symm.trans H; with_reducible exact H2_) | with_reducible exact H | (rw[hy114]; exact H) | exact H
          have Ny114:=Aside0.mk hy114;clear hy114;have c14b0:=eq_true (of_decide_eq_true (by assumption):0<=x5_1);have c15b0:=eq_true (of_decide_eq_true (by assumption):x5_1<=(l0.length:Int));obtain⟨y117,hy117⟩:∃y_:List Int,y_=(l0.drop (x5_1:Int).toNat):=⟨_,rfl⟩
          replace H:(if y114.length+y117.length < 17592186044416 then (some (y114 ++ y117)) else (none))=some r:=by first | (rw[hy117]; with_reducible exact H) | (have H2_:=(Option.bind_some _ _).symm.trans H; rw[hy117]; with_reducible exact H2_) | (have H2_:=(Option.bind_some _ _).symm.trans H; with_reducible exact H2_) | with_reducible exact H | (rw[hy117]; exact H) | exact H
          have Ny117:=Aside0.mk hy117;clear hy117
          by_cases c16:y114.length+y117.length < 17592186044416
          ·
           rw[if_pos c16]at H;have LMc16:=Aside0.mk c16;clear c16;obtain⟨y121,hy121⟩:∃y_:List Int,y_=(y114 ++ y117):=⟨_,rfl⟩
           replace H:(some y121)=some r:=by first | (rw[hy121]; with_reducible exact H) | (have H2_:=(Option.bind_some _ _).symm.trans H; rw[hy121]; with_reducible exact H2_) | (have H2_:=(Option.bind_some _ _).symm.trans H; with_reducible exact H2_) | with_reducible exact H | (rw[hy121]; exact H) | exact H
           have Ny121:=Aside0.mk hy121;clear hy121;obtain rfl:=Option.some.inj H;have p106:0<=(x5_1:Int):=of_decide_eq_true (by assumption);have q106:x5_1 < (l0.length:Int):=of_decide_eq_true (by assumption);obtain⟨ad106,e106,hx106_0⟩:=Kd.at_int (Kd.R_reads' HO_0.out).2.2 x5_1 p106 q106;cases e106
           replace p106:=eq_true p106
           replace q106:=eq_true q106
           have q17:(x5_1:Int)<=((l0.length:Int):Int):=of_decide_eq_true (by assumption);obtain⟨i017,hi017,_,hsz17,_⟩:=info_parts info3;have hroom17:l0.length<=co6:=(Kd.R_reads' HO_0.out).2.1;have hC17:Kd.C (Kd.int .i64) _ (some ad106) l0.length l0:=(Kd.R_reads' HO_0.out).2.2;have hcut17:=cut_to (P:=Tryz.prog) 28 3 .i64 Tryz.underlying28 hi017 (some ad106) l0.length co6 x5_1 (of_decide_eq_true (by assumption)) q17 hroom17;have hr17:=Kd.C_take (m:=(x5_1:Int).toNat) hC17 (by omega);have hy17:y107.length=(x5_1:Int).toNat:=(by rw[Ny107.out,List.length_take]; omega)
           rw[<-Ny107.out]at hr17;rw[<-hy17]at hcut17;have HR110:=Aside0.mk hr17;have HC110:=Aside0.mk (show y107.length<=co6 from by omega);clear hr17 hC17 hroom17 hi017 hsz17;have KY17:=Aside0.mk hy17;clear hy17;have KL17:=Aside0.mk (show(x5_1:Int).toNat<=l0.length from by omega)
           replace q17:=eq_true q17
           go_wp2_with (first | ((with_reducible refine gate_builtin (b:=.append) (xs:=#[.tmp 25,.tmp 28]) rfl ?_); at_builtin; refine Kd.R_append_rows (Kd.int .i64) (w0:=w0) w0.heap.size rfl (.tmp 25) (.tmp 28) 28 3 (.int .i64 0) 8 rfl Tryz.underlying28 info3 rfl (by decide) (by omega) (.slice none 0 0) ([]:List Int) y107 _ _ _ (fun k_=>(P0_ k_∨w.heap.size<=k_)/\some k_≠(.slice (some ad106) l0.length co6:Value).ownBlock) (fun _=>False) rfl rfl ?aO ?aR (fun _ _ h=>h) (fun _ h=>h.elim) ?aF ?aB ?aS ?aL ?_; (case aR=>repeat (first | exact(by repeat (first | (with_reducible exact HR110.out) | (with_reducible refine Kd.C_alloc ?_ _) | (with_reducible refine Kd.C_drewN ?_ _) | (with_reducible refine Kd.C_drew ?_) | exact HR110.out)) | (with_reducible refine Kd.C_alloc ?_ _) | (with_reducible refine Kd.C_drewN ?_ _) | (with_reducible refine Kd.C_drew ?_))); (case aB=>exact(by repeat (first | (with_reducible first | exact HB.out | apply below_alloc | apply pw_below_drewN | apply below_drew1) | exact HB.out))); (case aF=>exact(fun k_ hk=>⟨(.inr (Nat.le_trans (by first | exact HK.out.1 | exact(show Kept w _ (fun k_=>P0_ k_) from by repeat (first | (with_reducible first | exact HK.out | apply Kept.alloc | apply Kept.drewN | apply Kept.drew) | exact HK.out)).1) hk)),Kd.fresh' (Kd.R_lt (by(with_reducible repeat (first | apply Kd.R_alloc | apply Kd.R_drewN | apply Kd.R_drew)); exact HO_0.out)) k_ hk⟩)); (case aO=>exact((Kd.R_nil _ _ _ _ (fun k_=>(P0_ k_∨w.heap.size<=k_)/\some k_≠(.slice (some ad106) l0.length co6:Value).ownBlock)))); (case aS=>exact(below_size (by repeat (first | (with_reducible first | exact HB.out | apply below_alloc | apply pw_below_drewN | apply below_drew1) | exact HB.out)))); (case aL=>have:=LMc12.out; omega); intro v112 w18 ho hb hg hat; rw[<-Ny111.out]at ho; have n0_:=Aside0.mk (Kd.R_after (Kd.R_apart_nil (by(with_reducible repeat (first | apply Kd.R_alloc | apply Kd.R_drewN | apply Kd.R_drew)); exact HO_0.out)) hg hat); have n1_:=Aside0.mk (hb); have n2_:=Aside0.mk (Kept.of_grown (S:=(fun k_=>P0_ k_)) hg (by repeat (first | (with_reducible first | exact HK.out | apply Kept.alloc | apply Kept.drewN | apply Kept.drew) | exact HK.out)) (fun k_ e_=>by simp[Value.ownBlock]at e_)); have n3_:=Aside0.mk ((show Kd.C (Kd.int .i64) w18 (some ad106) y107.length y107 from by rw[Ny107.out]; exact Kd.C_take (m:=(x5_1:Int).toNat) ((Kd.R_reads' (Kd.R_after (Kd.R_apart_nil (by(with_reducible repeat (first | apply Kd.R_alloc | apply Kd.R_drewN | apply Kd.R_drew)); exact HO_0.out)) hg hat)).2.2) KL17.out)); have n4_:=Aside0.mk (ho); clear HO_0; clear HB; clear HK; clear HR110; have HO_0:=n0_; have HB:=n1_; have HK:=n2_; have HR110:=n3_; have HO113:=n4_; clear n0_ n1_ n2_ n3_ n4_; clear ho hb hg hat) | ((with_reducible refine gate_builtin (b:=.append) (xs:=#[.tmp 30,.tmp 32]) rfl ?_); at_builtin; refine Kd.R_append (Kd.int .i64) (w0:=w0) w0.heap.size rfl (.tmp 30) (.tmp 32) 28 3 (.int .i64 0) 8 rfl Tryz.underlying28 info3 rfl (by decide) (by omega) v112 y111 a1 [.int .i64 a1] (fun k_=>(P0_ k_∨w.heap.size<=k_)/\some k_≠(.slice (some ad106) l0.length co6:Value).ownBlock) (fun _=>False) rfl rfl ?aP (fun _ hk=>hk.elim) ?aF ?aO ?aB ?aS ?aL ?_; (case aP=>exact rfl); (case aB=>exact(by repeat (first | (with_reducible first | exact HB.out | apply below_alloc | apply pw_below_drewN | apply below_drew1) | exact HB.out))); (case aF=>exact(fun k_ hk=>⟨(.inr (Nat.le_trans (by first | exact HK.out.1 | exact(show Kept w _ (fun k_=>P0_ k_) from by repeat (first | (with_reducible first | exact HK.out | apply Kept.alloc | apply Kept.drewN | apply Kept.drew) | exact HK.out)).1) hk)),Kd.fresh' (Kd.R_lt (by(with_reducible repeat (first | apply Kd.R_alloc | apply Kd.R_drewN | apply Kd.R_drew)); exact HO_0.out)) k_ hk⟩)); (case aO=>exact(by(with_reducible repeat (first | apply Kd.R_alloc | apply Kd.R_drewN | apply Kd.R_drew)); exact HO113.out)); (case aS=>exact(below_size (by repeat (first | (with_reducible first | exact HB.out | apply below_alloc | apply pw_below_drewN | apply below_drew1) | exact HB.out)))); (case aL=>have:=LMc13.out; omega); intro v115 w19 ho hb hg hat; rw[<-Ny114.out]at ho; have n0_:=Aside0.mk (Kd.R_after (ok:=(fun k_=>(P0_ k_∨w.heap.size<=k_))) (by(with_reducible repeat (first | apply Kd.R_alloc | apply Kd.R_drewN | apply Kd.R_drew)); exact HO_0.out) hg hat); have n1_:=Aside0.mk (hb); have n2_:=Aside0.mk (Kept.of_grown (S:=(fun k_=>P0_ k_)) hg (by repeat (first | (with_reducible first | exact HK.out | apply Kept.alloc | apply Kept.drewN | apply Kept.drew) | exact HK.out)) (fun k_ e_=>(HO113.out.1 k_ e_).1)); have n3_:=Aside0.mk ((show Kd.C (Kd.int .i64) w19 (some ad106) y107.length y107 from by rw[Ny107.out]; exact Kd.C_take (m:=(x5_1:Int).toNat) ((Kd.R_reads' (Kd.R_after (ok:=(fun k_=>(P0_ k_∨w.heap.size<=k_))) (by(with_reducible repeat (first | apply Kd.R_alloc | apply Kd.R_drewN | apply Kd.R_drew)); exact HO_0.out) hg hat)).2.2) KL17.out)); have n4_:=Aside0.mk (ho); clear HO_0; clear HB; clear HK; clear HR110; clear HO113; have HO_0:=n0_; have HB:=n1_; have HK:=n2_; have HR110:=n3_; have HO116:=n4_; clear n0_ n1_ n2_ n3_ n4_; clear ho hb hg hat; have q20:(x5_1:Int)<=((l0.length:Int):Int):=of_decide_eq_true (by assumption); obtain⟨i020,hi020,_,hsz20,_⟩:=info_parts info3; have hroom20:l0.length<=co6:=(Kd.R_reads' HO_0.out).2.1; have hC20:Kd.C (Kd.int .i64) _ (some ad106) l0.length l0:=(Kd.R_reads' HO_0.out).2.2; have q020:(0:Int)<=(x5_1:Int):=of_decide_eq_true (by assumption); have hcut20:=cut_from (P:=Tryz.prog) 28 3 .i64 Tryz.underlying28 hi020 1 hsz20 (some ad106) l0.length co6 x5_1 q020 q20; have hr20:=Kd.C_drop (m:=(x5_1:Int).toNat) (c:=co6) hC20 (by omega) hroom20; obtain⟨A20,hA20⟩:∃A1,A1=(if co6=(x5_1:Int).toNat then (some ad106) else ((some ad106):Option Addr).map (·.add ((x5_1:Int).toNat * 1))):=⟨_,rfl⟩; obtain⟨c20,hc20⟩:∃c1,c1=co6-(x5_1:Int).toNat:=⟨_,rfl⟩; have hy20:y117.length=l0.length-(x5_1:Int).toNat:=(by rw[Ny117.out,List.length_drop] <;> omega); rw[show(l0).drop (x5_1:Int).toNat=y117 from Ny117.out.symm]at hr20; replace hr20:Kd.C (Kd.int .i64) _ A20 y117.length y117:=(by rw[hA20]; exact hr20); rw[<-hy20,<-hA20,<-hc20]at hcut20; have HR120:=Aside0.mk hr20; have HC120:=Aside0.mk (show y117.length<=c20 from by rw[hy20,hc20]; exact Nat.sub_le_sub_right hroom20 _); clear hr20 hC20 hroom20 hi020 hsz20 hc20; have KY20:=Aside0.mk hy20; have KA20:=Aside0.mk hA20; clear hy20 hA20; have KL20:=Aside0.mk (show(x5_1:Int).toNat<=l0.length from by omega); replace q20:=eq_true q20) | ((with_reducible refine gate_builtin (b:=.append) (xs:=#[.tmp 34,.tmp 37]) rfl ?_); at_builtin; refine Kd.R_append_rows (Kd.int .i64) (w0:=w0) w0.heap.size rfl (.tmp 34) (.tmp 37) 28 3 (.int .i64 0) 8 rfl Tryz.underlying28 info3 rfl (by decide) (by omega) v115 y114 y117 _ _ _ (fun k_=>(P0_ k_∨w.heap.size<=k_)/\some k_≠(.slice (some ad106) l0.length co6:Value).ownBlock) (fun _=>False) rfl rfl ?aO ?aR (fun _ _ h=>h) (fun _ h=>h.elim) ?aF ?aB ?aS ?aL ?_; (case aR=>repeat (first | exact(by repeat (first | (with_reducible exact HR120.out) | (with_reducible refine Kd.C_alloc ?_ _) | (with_reducible refine Kd.C_drewN ?_ _) | (with_reducible refine Kd.C_drew ?_) | exact HR120.out)) | (with_reducible refine Kd.C_alloc ?_ _) | (with_reducible refine Kd.C_drewN ?_ _) | (with_reducible refine Kd.C_drew ?_))); (case aB=>exact(by repeat (first | (with_reducible first | exact HB.out | apply below_alloc | apply pw_below_drewN | apply below_drew1) | exact HB.out))); (case aF=>exact(fun k_ hk=>⟨(.inr (Nat.le_trans (by first | exact HK.out.1 | exact(show Kept w _ (fun k_=>P0_ k_) from by repeat (first | (with_reducible first | exact HK.out | apply Kept.alloc | apply Kept.drewN | apply Kept.drew) | exact HK.out)).1) hk)),Kd.fresh' (Kd.R_lt (by(with_reducible repeat (first | apply Kd.R_alloc | apply Kd.R_drewN | apply Kd.R_drew)); exact HO_0.out)) k_ hk⟩)); (case aO=>exact(by(with_reducible repeat (first | apply Kd.R_alloc | apply Kd.R_drewN | apply Kd.R_drew)); exact HO116.out)); (case aS=>exact(below_size (by repeat (first | (with_reducible first | exact HB.out | apply below_alloc | apply pw_below_drewN | apply below_drew1) | exact HB.out)))); (case aL=>have:=LMc16.out; omega); intro v122 w21 ho hb hg hat; rw[<-Ny121.out]at ho; have n0_:=Aside0.mk (Kd.R_after (ok:=(fun k_=>(P0_ k_∨w.heap.size<=k_))) (by(with_reducible repeat (first | apply Kd.R_alloc | apply Kd.R_drewN | apply Kd.R_drew)); exact HO_0.out) hg hat); have n1_:=Aside0.mk (hb); have n2_:=Aside0.mk (Kept.of_grown (S:=(fun k_=>P0_ k_)) hg (by repeat (first | (with_reducible first | exact HK.out | apply Kept.alloc | apply Kept.drewN | apply Kept.drew) | exact HK.out)) (fun k_ e_=>(HO116.out.1 k_ e_).1)); have n3_:=Aside0.mk ((show Kd.C (Kd.int .i64) w21 (some ad106) y107.length y107 from by rw[Ny107.out]; exact Kd.C_take (m:=(x5_1:Int).toNat) ((Kd.R_reads' (Kd.R_after (ok:=(fun k_=>(P0_ k_∨w.heap.size<=k_))) (by(with_reducible repeat (first | apply Kd.R_alloc | apply Kd.R_drewN | apply Kd.R_drew)); exact HO_0.out) hg hat)).2.2) KL17.out)); have n4_:=Aside0.mk ((show Kd.C (Kd.int .i64) w21 A20 y117.length y117 from by rw[Ny117.out,KA20.out]; exact Kd.C_drop (m:=(x5_1:Int).toNat) (c:=co6) ((Kd.R_reads' (Kd.R_after (ok:=(fun k_=>(P0_ k_∨w.heap.size<=k_))) (by(with_reducible repeat (first | apply Kd.R_alloc | apply Kd.R_drewN | apply Kd.R_drew)); exact HO_0.out) hg hat)).2.2) KL20.out ((Kd.R_reads' (Kd.R_after (ok:=(fun k_=>(P0_ k_∨w.heap.size<=k_))) (by(with_reducible repeat (first | apply Kd.R_alloc | apply Kd.R_drewN | apply Kd.R_drew)); exact HO_0.out) hg hat)).2.1))); have n5_:=Aside0.mk (ho); clear HO_0; clear HB; clear HK; clear HR110; clear HR120; clear HO116; have HO_0:=n0_; have HB:=n1_; have HK:=n2_; have HR110:=n3_; have HR120:=n4_; have HO123:=n5_; clear n0_ n1_ n2_ n3_ n4_ n5_; clear ho hb hg hat))
           go_ret
           exact⟨_,by first | rfl | (simp[errW_none,errW_some] <;> rfl) | (simp[*,errW_none,errW_some] <;> rfl),by(with_reducible repeat (first | apply Kd.R_alloc | apply Kd.R_drewN | apply Kd.R_drew)); exact Kd.R_mono HO123.out (fun _ hk=>hk.1),by repeat (first | (with_reducible first | exact HB.out | apply below_alloc | apply pw_below_drewN | apply below_drew1) | exact HB.out),by repeat (first | (with_reducible first | exact HK.out | apply Kept.alloc | apply Kept.drewN | apply Kept.drew) | exact HK.out)⟩
          · rw[if_neg c16]at H;exact absurd H (by simp)
         · rw[if_neg c13]at H;exact absurd H (by simp)
        · rw[if_neg c12]at H;exact absurd H (by simp)
       · rw[if_neg c11]at H;exact absurd H (by simp)
     · rw[if_neg c8]at H;exact absurd H (by simp)
    ·
     rw[if_neg c7]at H;have c7b0:decide (x5_1 < (l0.length:Int))=false:=decide_eq_false c7;clear c7
     by_cases c22:0<=x5_1
     ·
      rw[if_pos c22]at H;have c22b0:=eq_true c22;have c22b1:decide (0<=x5_1)=true:=decide_eq_true c22;clear c22
      by_cases c23:x5_1<=(l0.length:Int)
      ·
       rw[if_pos c23]at H;have c23b0:=eq_true c23;have c23b1:decide (x5_1<=(l0.length:Int))=true:=decide_eq_true c23;clear c23;obtain⟨y124,hy124⟩:∃y_:List Int,y_=(l0.take (x5_1:Int).toNat):=⟨_,rfl⟩
       replace H:(if ([]:List Int).length+y124.length < 17592186044416 then ((some (([]:List Int) ++ y124:List Int)).bind fun y128=>(if y128.length < 17592186044416 then ((some (y128 ++ [a1]:List Int)).bind fun y131=>((some (l0.drop (x5_1:Int).toNat:List Int)).bind fun y134=>(if y131.length+y134.length < 17592186044416 then (some (y131 ++ y134)) else (none)))) else (none))) else (none))=some r:=by first | (rw[hy124]; with_reducible exact H) | (have H2_:=(Option.bind_some _ _).symm.trans H; rw[hy124]; with_reducible exact H2_) | (have H2_:=(Option.bind_some _ _).symm.trans H; with_reducible exact H2_) | with_reducible exact H | (rw[hy124]; exact H) | exact H
       have Ny124:=Aside0.mk hy124;clear hy124
       by_cases c24:([]:List Int).length+y124.length < 17592186044416
       ·
        rw[if_pos c24]at H;have LMc24:=Aside0.mk c24;clear c24;obtain⟨y128,hy128⟩:∃y_:List Int,y_=(([]:List Int) ++ y124):=⟨_,rfl⟩
        replace H:(if y128.length < 17592186044416 then ((some (y128 ++ [a1]:List Int)).bind fun y131=>((some (l0.drop (x5_1:Int).toNat:List Int)).bind fun y134=>(if y131.length+y134.length < 17592186044416 then (some (y131 ++ y134)) else (none)))) else (none))=some r:=by first | (rw[hy128]; with_reducible exact H) | (have H2_:=(Option.bind_some _ _).symm.trans H; rw[hy128]; with_reducible exact H2_) | (have H2_:=(Option.bind_some _ _).symm.trans H; with_reducible exact H2_) | with_reducible exact H | (rw[hy128]; exact H) | exact H
        have Ny128:=Aside0.mk hy128;clear hy128
        by_cases c25:y128.length < 17592186044416
        ·
         rw[if_pos c25]at H;have LMc25:=Aside0.mk c25;clear c25;obtain⟨y131,hy131⟩:∃y_:List Int,y_=(y128 ++ [a1]):=⟨_,rfl⟩
         replace H:((some (l0.drop (x5_1:Int).toNat:List Int)).bind fun y134=>(if y131.length+y134.length < 17592186044416 then (some (y131 ++ y134)) else (none)))=some r:=by first | (rw[hy131]; with_reducible exact H) | (have H2_:=(Option.bind_some _ _).symm.trans H; rw[hy131]; with_reducible exact H2_) | (have H2_:=(Option.bind_some _ _).symm.trans H; with_reducible exact H2_) | with_reducible exact H | (rw[hy131]; exact H) | exact H
         have Ny131:=Aside0.mk hy131;clear hy131;have c26b0:=eq_true (of_decide_eq_true (by assumption):0<=x5_1);have c27b0:=eq_true (of_decide_eq_true (by assumption):x5_1<=(l0.length:Int));obtain⟨y134,hy134⟩:∃y_:List Int,y_=(l0.drop (x5_1:Int).toNat):=⟨_,rfl⟩
         replace H:(if y131.length+y134.length < 17592186044416 then (some (y131 ++ y134)) else (none))=some r:=by first | (rw[hy134]; with_reducible exact H) | (have H2_:=(Option.bind_some _ _).symm.trans H; rw[hy134]; with_reducible exact H2_) | (have H2_:=(Option.bind_some _ _).symm.trans H; with_reducible exact H2_) | with_reducible exact H | (rw[hy134]; exact H) | exact H
         have Ny134:=Aside0.mk hy134;clear hy134
         by_cases c28:y131.length+y134.length < 17592186044416
         ·
          rw[if_pos c28]at H;have LMc28:=Aside0.mk c28;clear c28;obtain⟨y138,hy138⟩:∃y_:List Int,y_=(y131 ++ y134):=⟨_,rfl⟩
          replace H:(some y138)=some r:=by first | (rw[hy138]; with_reducible exact H) | (have H2_:=(Option.bind_some _ _).symm.trans H; rw[hy138]; with_reducible exact H2_) | (have H2_:=(Option.bind_some _ _).symm.trans H; with_reducible exact H2_) | with_reducible exact H | (rw[hy138]; exact H) | exact H
          have Ny138:=Aside0.mk hy138;clear hy138;obtain rfl:=Option.some.inj H;have q29:(x5_1:Int)<=((l0.length:Int):Int):=of_decide_eq_true (by assumption);obtain⟨i029,hi029,_,hsz29,_⟩:=info_parts info3;have hroom29:l0.length<=co6:=(Kd.R_reads' HO_0.out).2.1;have hC29:Kd.C (Kd.int .i64) _ Ao6 l0.length l0:=(Kd.R_reads' HO_0.out).2.2;have hcut29:=cut_to (P:=Tryz.prog) 28 3 .i64 Tryz.underlying28 hi029 Ao6 l0.length co6 x5_1 (of_decide_eq_true (by assumption)) q29 hroom29;have hr29:=Kd.C_take (m:=(x5_1:Int).toNat) hC29 (by omega);have hy29:y124.length=(x5_1:Int).toNat:=(by rw[Ny124.out,List.length_take]; omega)
          rw[<-Ny124.out]at hr29;rw[<-hy29]at hcut29;have HR127:=Aside0.mk hr29;have HC127:=Aside0.mk (show y124.length<=co6 from by omega);clear hr29 hC29 hroom29 hi029 hsz29;have KY29:=Aside0.mk hy29;clear hy29;have KL29:=Aside0.mk (show(x5_1:Int).toNat<=l0.length from by omega)
          replace q29:=eq_true q29
          go_wp2_with (first | ((with_reducible refine gate_builtin (b:=.append) (xs:=#[.tmp 25,.tmp 28]) rfl ?_); at_builtin; refine Kd.R_append_rows (Kd.int .i64) (w0:=w0) w0.heap.size rfl (.tmp 25) (.tmp 28) 28 3 (.int .i64 0) 8 rfl Tryz.underlying28 info3 rfl (by decide) (by omega) (.slice none 0 0) ([]:List Int) y124 _ _ _ (fun k_=>(P0_ k_∨w.heap.size<=k_)/\some k_≠(.slice Ao6 l0.length co6:Value).ownBlock) (fun _=>False) rfl rfl ?aO ?aR (fun _ _ h=>h) (fun _ h=>h.elim) ?aF ?aB ?aS ?aL ?_; (case aR=>repeat (first | exact(by repeat (first | (with_reducible exact HR127.out) | (with_reducible refine Kd.C_alloc ?_ _) | (with_reducible refine Kd.C_drewN ?_ _) | (with_reducible refine Kd.C_drew ?_) | exact HR127.out)) | (with_reducible refine Kd.C_alloc ?_ _) | (with_reducible refine Kd.C_drewN ?_ _) | (with_reducible refine Kd.C_drew ?_))); (case aB=>exact(by repeat (first | (with_reducible first | exact HB.out | apply below_alloc | apply pw_below_drewN | apply below_drew1) | exact HB.out))); (case aF=>exact(fun k_ hk=>⟨(.inr (Nat.le_trans (by first | exact HK.out.1 | exact(show Kept w _ (fun k_=>P0_ k_) from by repeat (first | (with_reducible first | exact HK.out | apply Kept.alloc | apply Kept.drewN | apply Kept.drew) | exact HK.out)).1) hk)),Kd.fresh' (Kd.R_lt (by(with_reducible repeat (first | apply Kd.R_alloc | apply Kd.R_drewN | apply Kd.R_drew)); exact HO_0.out)) k_ hk⟩)); (case aO=>exact((Kd.R_nil _ _ _ _ (fun k_=>(P0_ k_∨w.heap.size<=k_)/\some k_≠(.slice Ao6 l0.length co6:Value).ownBlock)))); (case aS=>exact(below_size (by repeat (first | (with_reducible first | exact HB.out | apply below_alloc | apply pw_below_drewN | apply below_drew1) | exact HB.out)))); (case aL=>have:=LMc24.out; omega); intro v129 w30 ho hb hg hat; rw[<-Ny128.out]at ho; have n0_:=Aside0.mk (Kd.R_after (Kd.R_apart_nil (by(with_reducible repeat (first | apply Kd.R_alloc | apply Kd.R_drewN | apply Kd.R_drew)); exact HO_0.out)) hg hat); have n1_:=Aside0.mk (hb); have n2_:=Aside0.mk (Kept.of_grown (S:=(fun k_=>P0_ k_)) hg (by repeat (first | (with_reducible first | exact HK.out | apply Kept.alloc | apply Kept.drewN | apply Kept.drew) | exact HK.out)) (fun k_ e_=>by simp[Value.ownBlock]at e_)); have n3_:=Aside0.mk ((show Kd.C (Kd.int .i64) w30 Ao6 y124.length y124 from by rw[Ny124.out]; exact Kd.C_take (m:=(x5_1:Int).toNat) ((Kd.R_reads' (Kd.R_after (Kd.R_apart_nil (by(with_reducible repeat (first | apply Kd.R_alloc | apply Kd.R_drewN | apply Kd.R_drew)); exact HO_0.out)) hg hat)).2.2) KL29.out)); have n4_:=Aside0.mk (ho); clear HO_0; clear HB; clear HK; clear HR127; have HO_0:=n0_; have HB:=n1_; have HK:=n2_; have HR127:=n3_; have HO130:=n4_; clear n0_ n1_ n2_ n3_ n4_; clear ho hb hg hat) | ((with_reducible refine gate_builtin (b:=.append) (xs:=#[.tmp 30,.tmp 32]) rfl ?_); at_builtin; refine Kd.R_append (Kd.int .i64) (w0:=w0) w0.heap.size rfl (.tmp 30) (.tmp 32) 28 3 (.int .i64 0) 8 rfl Tryz.underlying28 info3 rfl (by decide) (by omega) v129 y128 a1 [.int .i64 a1] (fun k_=>(P0_ k_∨w.heap.size<=k_)/\some k_≠(.slice Ao6 l0.length co6:Value).ownBlock) (fun _=>False) rfl rfl ?aP (fun _ hk=>hk.elim) ?aF ?aO ?aB ?aS ?aL ?_; (case aP=>exact rfl); (case aB=>exact(by repeat (first | (with_reducible first | exact HB.out | apply below_alloc | apply pw_below_drewN | apply below_drew1) | exact HB.out))); (case aF=>exact(fun k_ hk=>⟨(.inr (Nat.le_trans (by first | exact HK.out.1 | exact(show Kept w _ (fun k_=>P0_ k_) from by repeat (first | (with_reducible first | exact HK.out | apply Kept.alloc | apply Kept.drewN | apply Kept.drew) | exact HK.out)).1) hk)),Kd.fresh' (Kd.R_lt (by(with_reducible repeat (first | apply Kd.R_alloc | apply Kd.R_drewN | apply Kd.R_drew)); exact HO_0.out)) k_ hk⟩)); (case aO=>exact(by(with_reducible repeat (first | apply Kd.R_alloc | apply Kd.R_drewN | apply Kd.R_drew)); exact HO130.out)); (case aS=>exact(below_size (by repeat (first | (with_reducible first | exact HB.out | apply below_alloc | apply pw_below_drewN | apply below_drew1) | exact HB.out)))); (case aL=>have:=LMc25.out; omega); intro v132 w31 ho hb hg hat; rw[<-Ny131.out]at ho; have n0_:=Aside0.mk (Kd.R_after (ok:=(fun k_=>(P0_ k_∨w.heap.size<=k_))) (by(with_reducible repeat (first | apply Kd.R_alloc | apply Kd.R_drewN | apply Kd.R_drew)); exact HO_0.out) hg hat); have n1_:=Aside0.mk (hb); have n2_:=Aside0.mk (Kept.of_grown (S:=(fun k_=>P0_ k_)) hg (by repeat (first | (with_reducible first | exact HK.out | apply Kept.alloc | apply Kept.drewN | apply Kept.drew) | exact HK.out)) (fun k_ e_=>(HO130.out.1 k_ e_).1)); have n3_:=Aside0.mk ((show Kd.C (Kd.int .i64) w31 Ao6 y124.length y124 from by rw[Ny124.out]; exact Kd.C_take (m:=(x5_1:Int).toNat) ((Kd.R_reads' (Kd.R_after (ok:=(fun k_=>(P0_ k_∨w.heap.size<=k_))) (by(with_reducible repeat (first | apply Kd.R_alloc | apply Kd.R_drewN | apply Kd.R_drew)); exact HO_0.out) hg hat)).2.2) KL29.out)); have n4_:=Aside0.mk (ho); clear HO_0; clear HB; clear HK; clear HR127; clear HO130; have HO_0:=n0_; have HB:=n1_; have HK:=n2_; have HR127:=n3_; have HO133:=n4_; clear n0_ n1_ n2_ n3_ n4_; clear ho hb hg hat; have q32:(x5_1:Int)<=((l0.length:Int):Int):=of_decide_eq_true (by assumption); obtain⟨i032,hi032,_,hsz32,_⟩:=info_parts info3; have hroom32:l0.length<=co6:=(Kd.R_reads' HO_0.out).2.1; have hC32:Kd.C (Kd.int .i64) _ Ao6 l0.length l0:=(Kd.R_reads' HO_0.out).2.2; have q032:(0:Int)<=(x5_1:Int):=of_decide_eq_true (by assumption); have hcut32:=cut_from (P:=Tryz.prog) 28 3 .i64 Tryz.underlying28 hi032 1 hsz32 Ao6 l0.length co6 x5_1 q032 q32; have hr32:=Kd.C_drop (m:=(x5_1:Int).toNat) (c:=co6) hC32 (by omega) hroom32; obtain⟨A32,hA32⟩:∃A1,A1=(if co6=(x5_1:Int).toNat then Ao6 else (Ao6:Option Addr).map (·.add ((x5_1:Int).toNat * 1))):=⟨_,rfl⟩; obtain⟨c32,hc32⟩:∃c1,c1=co6-(x5_1:Int).toNat:=⟨_,rfl⟩; have hy32:y134.length=l0.length-(x5_1:Int).toNat:=(by rw[Ny134.out,List.length_drop] <;> omega); rw[show(l0).drop (x5_1:Int).toNat=y134 from Ny134.out.symm]at hr32; replace hr32:Kd.C (Kd.int .i64) _ A32 y134.length y134:=(by rw[hA32]; exact hr32); rw[<-hy32,<-hA32,<-hc32]at hcut32; have HR137:=Aside0.mk hr32; have HC137:=Aside0.mk (show y134.length<=c32 from by rw[hy32,hc32]; exact Nat.sub_le_sub_right hroom32 _); clear hr32 hC32 hroom32 hi032 hsz32 hc32; have KY32:=Aside0.mk hy32; have KA32:=Aside0.mk hA32; clear hy32 hA32; have KL32:=Aside0.mk (show(x5_1:Int).toNat<=l0.length from by omega); replace q32:=eq_true q32) | ((with_reducible refine gate_builtin (b:=.append) (xs:=#[.tmp 34,.tmp 37]) rfl ?_); at_builtin; refine Kd.R_append_rows (Kd.int .i64) (w0:=w0) w0.heap.size rfl (.tmp 34) (.tmp 37) 28 3 (.int .i64 0) 8 rfl Tryz.underlying28 info3 rfl (by decide) (by omega) v132 y131 y134 _ _ _ (fun k_=>(P0_ k_∨w.heap.size<=k_)/\some k_≠(.slice Ao6 l0.length co6:Value).ownBlock) (fun _=>False) rfl rfl ?aO ?aR (fun _ _ h=>h) (fun _ h=>h.elim) ?aF ?aB ?aS ?aL ?_; (case aR=>repeat (first | exact(by repeat (first | (with_reducible exact HR137.out) | (with_reducible refine Kd.C_alloc ?_ _) | (with_reducible refine Kd.C_drewN ?_ _) | (with_reducible refine Kd.C_drew ?_) | exact HR137.out)) | (with_reducible refine Kd.C_alloc ?_ _) | (with_reducible refine Kd.C_drewN ?_ _) | (with_reducible refine Kd.C_drew ?_))); (case aB=>exact(by repeat (first | (with_reducible first | exact HB.out | apply below_alloc | apply pw_below_drewN | apply below_drew1) | exact HB.out))); (case aF=>exact(fun k_ hk=>⟨(.inr (Nat.le_trans (by first | exact HK.out.1 | exact(show Kept w _ (fun k_=>P0_ k_) from by repeat (first | (with_reducible first | exact HK.out | apply Kept.alloc | apply Kept.drewN | apply Kept.drew) | exact HK.out)).1) hk)),Kd.fresh' (Kd.R_lt (by(with_reducible repeat (first | apply Kd.R_alloc | apply Kd.R_drewN | apply Kd.R_drew)); exact HO_0.out)) k_ hk⟩)); (case aO=>exact(by(with_reducible repeat (first | apply Kd.R_alloc | apply Kd.R_drewN | apply Kd.R_drew)); exact HO133.out)); (case aS=>exact(below_size (by repeat (first | (with_reducible first | exact HB.out | apply below_alloc | apply pw_below_drewN | apply below_drew1) | exact HB.out)))); (case aL=>have:=LMc28.out; omega); intro v139 w33 ho hb hg hat; rw[<-Ny138.out]at ho; have n0_:=Aside0.mk (Kd.R_after (ok:=(fun k_=>(P0_ k_∨w.heap.size<=k_))) (by(with_reducible repeat (first | apply Kd.R_alloc | apply Kd.R_drewN | apply Kd.R_drew)); exact HO_0.out) hg hat); have n1_:=Aside0.mk (hb); have n2_:=Aside0.mk (Kept.of_grown (S:=(fun k_=>P0_ k_)) hg (by repeat (first | (with_reducible first | exact HK.out | apply Kept.alloc | apply Kept.drewN | apply Kept.drew) | exact HK.out)) (fun k_ e_=>(HO133.out.1 k_ e_).1)); have n3_:=Aside0.mk ((show Kd.C (Kd.int .i64) w33 Ao6 y124.length y124 from by rw[Ny124.out]; exact Kd.C_take (m:=(x5_1:Int).toNat) ((Kd.R_reads' (Kd.R_after (ok:=(fun k_=>(P0_ k_∨w.heap.size<=k_))) (by(with_reducible repeat (first | apply Kd.R_alloc | apply Kd.R_drewN | apply Kd.R_drew)); exact HO_0.out) hg hat)).2.2) KL29.out)); have n4_:=Aside0.mk ((show Kd.C (Kd.int .i64) w33 A32 y134.length y134 from by rw[Ny134.out,KA32.out]; exact Kd.C_drop (m:=(x5_1:Int).toNat) (c:=co6) ((Kd.R_reads' (Kd.R_after (ok:=(fun k_=>(P0_ k_∨w.heap.size<=k_))) (by(with_reducible repeat (first | apply Kd.R_alloc | apply Kd.R_drewN | apply Kd.R_drew)); exact HO_0.out) hg hat)).2.2) KL32.out ((Kd.R_reads' (Kd.R_after (ok:=(fun k_=>(P0_ k_∨w.heap.size<=k_))) (by(with_reducible repeat (first | apply Kd.R_alloc | apply Kd.R_drewN | apply Kd.R_drew)); exact HO_0.out) hg hat)).2.1))); have n5_:=Aside0.mk (ho); clear HO_0; clear HB; clear HK; clear HR127; clear HR137; clear HO133; have HO_0:=n0_; have HB:=n1_; have HK:=n2_; have HR127:=n3_; have HR137:=n4_; have HO140:=n5_; clear n0_ n1_ n2_ n3_ n4_ n5_; clear ho hb hg hat))
          go_ret
          exact⟨_,by first | rfl | (simp[errW_none,errW_some] <;> rfl) | (simp[*,errW_none,errW_some] <;> rfl),by(with_reducible repeat (first | apply Kd.R_alloc | apply Kd.R_drewN | apply Kd.R_drew)); exact Kd.R_mono HO140.out (fun _ hk=>hk.1),by repeat (first | (with_reducible first | exact HB.out | apply below_alloc | apply pw_below_drewN | apply below_drew1) | exact HB.out),by repeat (first | (with_reducible first | exact HK.out | apply Kept.alloc | apply Kept.drewN | apply Kept.drew) | exact HK.out)⟩
         · rw[if_neg c28]at H;exact absurd H (by simp)
        · rw[if_neg c25]at H;exact absurd H (by simp)
       · rw[if_neg c24]at H;exact absurd H (by simp)
      · rw[if_neg c23]at H;exact absurd H (by simp)
     · rw[if_neg c22]at H;exact absurd H (by simp)
-- NOT PRINTED: function 23 (rack_Rack_Delete)
end Go.Proofs.YtpnfmbeccjehiabGreatDoor.PR
/- What the reference's lists come to: ints, Places, Place, Has, Insert. -/
namespace Go.Proofs.YtpnfmbeccjehiabGreatDoor
open Go.RowKit Go.Proofs.YtpnfmbeccjehiabGreatDoorW.PrintWords Go.Proofs.YtpnfmbeccjehiabGreatDoorW.PrintLast Go.Proofs.YtpnfmbeccjehiabGreatDoorW.PrintMore
def zs (l:List Nat):List Int:=l.map fun(n:Nat)=>(n:Int)
theorem zs_len (l:List Nat):(zs l).length=l.length:=by simp[zs]
theorem mem_zs {l:List Nat} {x:Nat}:(x:Int)∈zs l↔x∈l:=by
 simp only[zs,List.mem_map];constructor
 · rintro ⟨y,h1,h2⟩;rw[<-show y=x by omega]; exact h1
 · exact fun h=>⟨x,h,rfl⟩
theorem rd_at {xs:List Int} {j:Nat} {x:Int} (h:xs[j]?=some x):rd xs (j:Int)=x:=by
 simp[rd,List.getD,h]
theorem rd_zs {l:List Nat} {j y:Nat} (h:l[j]?=some y):rd (zs l) (j:Int)=(y:Int):=rd_at (by simp[zs,h])
theorem wrap_s {i:Nat} (h:i<=4000000):wrap64 ((i:Int)+1)=((i+1:Nat):Int):=by
 unfold wrap64;omega
theorem ints_from (xs ys:List Int) (hl:xs.length=ys.length) (hn:xs.length<=1000000):∀(d j k:Nat),j+d=xs.length->d < k->xs.take j=ys.take j->PR.remouldlaw07_ints.l0 k xs ys (j:Int)=some (decide (xs=ys)):=by
 intro d
 induction d with
 | zero =>
  intro j k hj hk ht;obtain⟨k,rfl⟩:∃m,k=m+1:=⟨k-1,by omega⟩
  have e:xs=ys:=by
   have h1:xs.take j=xs:=List.take_of_length_le (by omega);have h2:ys.take j=ys:=List.take_of_length_le (by omega);rw[h1,h2]at ht; exact ht
  simp only[PR.remouldlaw07_ints.l0];rw[if_neg (by omega),decide_eq_true e]
 | succ d ih =>
  intro j k hj hk ht;obtain⟨k,rfl⟩:∃m,k=m+1:=⟨k-1,by omega⟩
  obtain⟨x,hx⟩:∃x,xs[j]?=some x:=⟨xs[j]'(by omega),by simp[show j < xs.length by omega]⟩
  obtain⟨y,hy⟩:∃y,ys[j]?=some y:=⟨ys[j]'(by omega),by simp[show j < ys.length by omega]⟩
  simp only[PR.remouldlaw07_ints.l0];rw[if_pos (by omega),if_pos (by omega),if_pos (by omega),rd_at hx,rd_at hy]
  by_cases e:x=y
  · rw[if_pos e,wrap_s (by omega)];exact ih (j+1) k (by omega) (by omega) (by rw[List.take_add_one,List.take_add_one,hx,hy,ht,e])
  · rw[if_neg e,decide_eq_false (fun h=>e (by rw[h]at hx; rw[hx]at hy; exact Option.some.inj hy))]
theorem ints_f (xs ys:List Int) (hn:xs.length<=1000000):PR.remouldlaw07_ints.f (xs.length+1) xs ys=some (decide (xs=ys)):=by
 unfold PR.remouldlaw07_ints.f
 by_cases hl:xs.length=ys.length
 · rw[if_pos (by omega)];exact ints_from xs ys hl hn xs.length 0 _ (by omega) (by omega) (by simp)
 · rw[if_neg (by omega),decide_eq_false (fun h=>hl (by rw[h]))]
theorem places_f {k:Nat} (hk:k<=3):PR.remouldref07_Places.f 5 (k:Int)=some (RK.R k:Int):=by
 rcases (by omega:k=0∨k=1∨k=2∨k=3) with rfl | rfl | rfl | rfl <;> decide +kernel
theorem place_f {k:Nat} (hk:k<=3) (x:Int):PR.remouldref07_Place.f 5 (k:Int) x=some (decide (0<=x/\x < RK.R k)):=by
 unfold PR.remouldref07_Place.f
 by_cases h:x>=0
 ·
  rw[if_pos h,places_f hk];simp only[Option.bind_some]
  congr 1
  rw[decide_eq_decide];omega
 · rw[if_neg h,decide_eq_false (by omega)]
theorem has_from (xs:List Int) (x:Int) (hn:xs.length<=1000000):∀(d j k:Nat),j+d=xs.length->d < k->x ∉ xs.take j->PR.remouldref07_Has.l0 k xs x (j:Int)=some (decide (x∈xs)):=by
 intro d
 induction d with
 | zero =>
  intro j k hj hk ht;obtain⟨k,rfl⟩:∃m,k=m+1:=⟨k-1,by omega⟩
  have h1:xs.take j=xs:=List.take_of_length_le (by omega);rw[h1]at ht;simp only[PR.remouldref07_Has.l0];rw[if_neg (by omega),decide_eq_false ht]
 | succ d ih =>
  intro j k hj hk ht;obtain⟨k,rfl⟩:∃m,k=m+1:=⟨k-1,by omega⟩
  obtain⟨y,hy⟩:∃y,xs[j]?=some y:=⟨xs[j]'(by omega),by simp[show j < xs.length by omega]⟩
  simp only[PR.remouldref07_Has.l0];rw[if_pos (by omega),if_pos (by omega),rd_at hy]
  by_cases e:y=x
  · rw[if_pos e,decide_eq_true (by rw[<-e]; exact List.mem_of_getElem? hy)]
  ·
   rw[if_neg e,wrap_s (by omega)];refine ih (j+1) k (by omega) (by omega) ?_;rw[List.take_add_one,hy];intro h;rcases List.mem_append.1 h with h | h
   · exact ht h
   · exact e (by simpa using h:x=y).symm
theorem has_f (xs:List Int) (x:Int) (hn:xs.length<=1000000):PR.remouldref07_Has.f (xs.length+1) xs x=some (decide (x∈xs)) :=
 has_from xs x hn xs.length 0 _ (by omega) (by omega) (by simp)
theorem insert_from (l:List Nat) (x:Nat) (hn:l.length<=1000000) (hx:x ∉ l) (ha:RK.Asc l):∀(d j k:Nat),j+d=l.length->d < k->(∀y∈l.take j,y < x) ->
  ∃i,(∀y∈l.take i,y < x)/\(∀y∈l.drop i,x < y)/\PR.remouldref07_Insert.l0 k (zs l) (x:Int) (j:Int)=some (zs (l.take i ++ x :: l.drop i)):=by
 intro d
 induction d with
 | zero =>
  intro j k hj hk ht;obtain⟨k,rfl⟩:∃m,k=m+1:=⟨k-1,by omega⟩
  have hdn:l.drop j = []:=List.drop_of_length_le (by omega);refine⟨j,ht,fun y hy=>(by rw[hdn]at hy; cases hy),?_⟩;simp only[PR.remouldref07_Insert.l0];have hz:=zs_len l;rw[if_neg (by omega),if_pos (by omega),if_pos (by omega)];simp only[Option.bind_some,List.nil_append,Int.toNat_natCast,List.length_nil,List.length_append,List.length_take,List.length_drop,List.length_cons];rw[if_pos (by omega),if_pos (by omega),if_pos (by omega)];simp[zs,List.map_take,List.map_drop]
 | succ d ih =>
  intro j k hj hk ht;obtain⟨k,rfl⟩:∃m,k=m+1:=⟨k-1,by omega⟩
  obtain⟨y,hy⟩:∃y,l[j]?=some y:=⟨l[j]'(by omega),by simp[show j < l.length by omega]⟩
  have hz:=zs_len l;simp only[PR.remouldref07_Insert.l0];rw[if_pos (by omega),if_pos (by omega),rd_zs hy]
  by_cases e:(y:Int) < (x:Int)
  ·
   rw[if_pos e,wrap_s (by omega)];refine ih (j+1) k (by omega) (by omega) fun z hz=>?_;rw[List.take_add_one,hy]at hz;rcases List.mem_append.1 hz with h | h
   · exact ht z h
   · rw[show z=y by simpa using h]; omega
  ·
   rw[if_neg e];have hxy:x < y:=by
    have:x≠y:=fun h=>hx (by rw[h]; exact List.mem_of_getElem? hy);omega
   refine⟨j,ht,fun z hz=>?_,?_⟩
   ·
    have hd:l.drop j=y :: l.drop (j+1):=by
     rw[List.drop_eq_getElem_cons (show j < l.length by omega)];rw[List.getElem?_eq_getElem (show j < l.length by omega)]at hy;rw[Option.some.inj hy]
    rw[hd]at hz;have ha2:RK.Asc (l.drop j):=ha.sublist (List.drop_sublist j l);rw[hd]at ha2;rcases List.mem_cons.1 hz with h | h
    · rw[h]; exact hxy
    · exact Nat.lt_trans hxy ((List.pairwise_cons.1 ha2).1 z h)
   · rw[if_pos (by omega)];simp only[Option.bind_some,List.nil_append,Int.toNat_natCast,List.length_nil,List.length_append,List.length_take,List.length_drop,List.length_cons];rw[if_pos (by omega),if_pos (by omega),if_pos (by omega)];simp[zs,List.map_take,List.map_drop]
/-- a place more in the reference's list -/
theorem insert_f {k:Nat} (hk:k<=3) {m:RK.S} (hs:RK.Supp k m) {x:Nat} (hx:x < RK.R k):PR.remouldref07_Insert.f ((RK.lst k m).length+1) (zs (RK.lst k m)) (x:Int)=some (zs (RK.lst k (RK.ins m x))):=by
 unfold PR.remouldref07_Insert.f;have hn:(RK.lst k m).length<=1000000:=by have:=RK.lst_len k m; have:=RK.R_le hk; omega
 have hh:=has_f (zs (RK.lst k m)) (x:Int) (by rw[zs_len]; exact hn);rw[zs_len]at hh;rw[hh];simp only[Option.bind_some]
 by_cases hm:m x=true
 · rw[if_pos (by rw[decide_eq_true (mem_zs.2 ((RK.mem_lst hs x).2 hm))]),RK.ins_same hm]
 · have hx':x ∉ RK.lst k m:=fun h=>hm ((RK.mem_lst hs x).1 h);rw[if_neg (by rw[decide_eq_false (fun h=>hx' (mem_zs.1 h))]; simp)];obtain⟨i,h1,h2,h3⟩:=insert_from (RK.lst k m) x hn hx' (RK.lst_asc k m) _ 0 _ (Nat.zero_add _) (Nat.lt_succ_self _) (by simp);rw[show((0:Nat):Int)=0 from rfl]at h3;rw[h3,RK.lst_ins hs hx (by simpa using hm) i h1 h2]
open Go.RowKit Go.Proofs.YtpnfmbeccjehiabGreatDoorW.PrintWords Go.Proofs.YtpnfmbeccjehiabGreatDoorW.PrintLast Go.Proofs.YtpnfmbeccjehiabGreatDoorW.PrintMore
attribute [local go_sem ↓] Go.wp_at_zero Go.wp_at_succ
/-- a slice that holds these ints -/
def LI (w:World) (v:Value) (xs:List Int):Prop:=∃A c,v=.slice A xs.length c/\xs.length<=c/\Kd.C (Kd.int .i64) w A xs.length xs
theorem add_block (a:Addr) (j:Nat):(a.add j).block=a.block:=by unfold Addr.add; split <;> rfl
theorem add_zero (g j:Nat):(⟨g,0,none⟩:Addr).add j=⟨g,j,none⟩:=by
 unfold Addr.add
 split
 · rename_i h; subst h; rfl
 · simp
theorem LI.cell {w:World} {A:Option Addr} {n c:Nat} {xs:List Int} (h:LI w (.slice A n c) xs) {j:Nat} {x:Int} (hj:xs[j]?=some x):∃a,A=some a/\w.cell? (a.add j)=some (.int .i64 x):=by
 obtain⟨A',c',e,-,-,-,h3⟩:=h;obtain⟨rfl,rfl,rfl⟩:A=A'/\n=xs.length/\c=c':=by simpa using e
 have hjl:=(List.getElem?_eq_some_iff.1 hj).1;obtain⟨ad,rfl,hc⟩:=h3 (by omega);obtain⟨cs,-,hr,hcell⟩:=hc j x hj;obtain rfl:cs = [.int .i64 x]:=hr;exact⟨ad,rfl,by have:=hcell 0 _ rfl; simpa[Kd.int,Kd.scalar]using this⟩
theorem LI.kept {w w':World} {v:Value} {xs:List Int} {F:Nat->Prop} (h:LI w v xs) (hb:BelP F w w') (hd:∀q,v.ownBlock=some q->¬F q):LI w' v xs:=by
 obtain⟨A,c,rfl,hl,h1,h2,h3⟩:=h;refine⟨A,c,rfl,hl,h1,h2,fun hn=>?_⟩;obtain⟨ad,rfl,hc⟩:=h3 hn;refine⟨ad,rfl,fun j p hj=>?_⟩;obtain⟨cs,q1,q2,q3⟩:=hc j p hj;refine⟨cs,q1,q2,fun i u hu=>?_⟩;have h4:=q3 i u hu;exact(World.cell?_of_block (hb.block _ (block_lt_of_cell h4) (by rw[add_block]; exact hd _ rfl))).trans h4
theorem LI.below {w w':World} {v:Value} {xs:List Int} (h:LI w v xs) (hb:Below w.heap.size w w'):LI w' v xs:=by
 obtain⟨A,c,rfl,hl,h1⟩:=h;exact⟨A,c,rfl,hl,Kd.C_below h1 hb⟩
theorem encs_zs (l:List Nat):encs (Value.int .i64) (zs l)=ints l:=by simp[encs,zs,ints]
theorem R_of_ints {w:World} {B:Nat} {v:Value} {l:List Nat} {ok:Nat->Prop} (h:w.ownsRow B 3 1 v l.length (ints l)) (hok:∀q,v.ownBlock=some q->ok q):Kd.R (Kd.int .i64) 3 w B ok v (zs l) :=
 Kd.R_of_own (by rw[zs_len,encs_zs]; exact h) hok
theorem ints_of_R {w:World} {B:Nat} {v:Value} {l:List Nat} {ok:Nat->Prop} (h:Kd.R (Kd.int .i64) 3 w B ok v (zs l)):w.ownsRow B 3 1 v l.length (ints l):=by
 have:=Kd.own_of_R h;rw[zs_len,encs_zs]at this;exact this
theorem LI.own {w:World} {B:Nat} {v:Value} {l:List Nat} (h:w.ownsRow B 3 1 v l.length (ints l)):LI w v (zs l):=by
 have h0:=h;obtain⟨h1,h2⟩:=h;have hmx:2147483647 < maxLen:=by unfold maxLen; omega
 rcases h2 with ⟨rfl,h2⟩ | ⟨g,cap,cur,rfl,h4,h5,h6⟩
 · have e:=List.eq_nil_of_length_eq_zero h2;subst e;exact⟨none,0,rfl,Nat.le_refl _,rfl,by simp[zs],fun hn=>by simp[zs]at hn⟩
 ·
  refine⟨some ⟨g,0,none⟩,cap,by rw[zs_len],by rw[zs_len]; exact h6.1,rfl,by rw[zs_len]; have:=h6.2.1; unfold maxLen at this; have:=h6.1; omega,fun hn=>⟨_,rfl,fun j x hj=>⟨[.int .i64 x],rfl,rfl,fun i u hu=>?_⟩⟩⟩;have hjl:j < l.length:=by
   have:=(List.getElem?_eq_some_iff.1 hj).1;rw[zs_len]at this; exact this
  have h7:=h0.cellAt j (by omega);have h8:(ints l)[j]?=some (.int .i64 x):=by
   rw[zs,List.getElem?_map]at hj;rw[ints,List.getElem?_map];cases hl:l[j]? with
   | none=>rw[hl]at hj; cases hj
   | some n=>rw[hl]at hj; simp at hj; simp[hj]
  rw[h8]at h7
  match i,hu with
  | 0,hu =>
   simp at hu;subst hu;rw[add_zero]; simpa[Kd.int,Kd.scalar]using h7
  | i+1,hu=>simp at hu
theorem LI.len {w:World} {v:Value} {xs:List Int} (h:LI w v xs):∃A c,v=.slice A xs.length c:=by
 obtain⟨A,c,h,-⟩:=h;exact⟨A,c,h⟩
theorem ints_any (a b:Value) (xs ys:List Int) (w:World) (ha:LI w a xs) (hb:LI w b ys) (hl:xs.length<=1000000) :
  Calls Tryz.prog 11 #[a,b] w fun e w'=>e=.returned (.bool (decide (xs=ys)))/\Below w.heap.size w w':=by
 obtain⟨A,c,rfl,h1,h2⟩:=ha;obtain⟨B,d,rfl,h3,h4⟩:=hb;exact(PR.remouldlaw07_ints.calls _ A c xs B d ys _ w h2 h1 h4 h3 (ints_f xs ys hl)).mono fun _ _ h=>⟨h.1,h.2.below⟩
theorem refPlaces (k:Nat) (w:World) (hk:k<=3) :
  Calls Tryz.prog 31 #[.int .i64 (k:Int)] w fun e w'=>e=.returned (.int .i64 (RK.R k:Int))/\Below w.heap.size w w' :=
 (PR.remouldref07_Places.calls 5 _ _ w (places_f hk)).mono fun _ _ h=>⟨h.1,h.2.below⟩
theorem refPlace (k:Nat) (x:Int) (w:World) (hk:k<=3) :
  Calls Tryz.prog 19 #[.int .i64 (k:Int),.int .i64 x] w fun e w'=>e=.returned (.bool (decide (0<=x/\x < RK.R k)))/\Below w.heap.size w w' :=
 (PR.remouldref07_Place.calls 5 _ _ _ w (place_f hk x)).mono fun _ _ h=>⟨h.1,h.2.below⟩
theorem refHas (v:Value) (xs:List Int) (x:Int) (w:World) (hv:LI w v xs) (hl:xs.length<=1000000) :
  Calls Tryz.prog 21 #[v,.int .i64 x] w fun e w'=>e=.returned (.bool (decide (x∈xs)))/\Below w.heap.size w w':=by
 obtain⟨A,c,rfl,h1,h2⟩:=hv;exact(PR.remouldref07_Has.calls _ A c xs x _ w h2 h1 (has_f xs x hl)).mono fun _ _ h=>⟨h.1,h.2.below⟩
/-- the reference's set in memory -/
def SetIs (w:World) (B:Nat) (v:Value) (k:Nat) (m:RK.S):Prop:=w.ownsRow B 3 1 v (RK.lst k m).length (ints (RK.lst k m))
theorem refInsert (k:Nat) (m:RK.S) (v:Value) (x:Nat) (w0 w:World) (hk:k<=3) (hs:RK.Supp k m) (hx:x < RK.R k) (h0:Below w0.heap.size w0 w) (hv:SetIs w w0.heap.size v k m) :
  Calls Tryz.prog 22 #[v,.int .i64 (x:Int)] w fun e w'=>∃v',e=.returned v'/\SetIs w' w0.heap.size v' k (RK.ins m x)/\(∀q,v'.ownBlock=some q->v.ownBlock=some q∨w.heap.size<=q) /\
   BelP (fun q=>v.ownBlock=some q) w w'/\Below w0.heap.size w0 w':=by
 refine(PR.remouldref07_Insert.calls _ (fun q=>v.ownBlock=some q) v (zs (RK.lst k m)) x _ w0 w h0 (R_of_ints hv (fun q h=>h)) (insert_f hk hs hx)).mono ?_;rintro e w' ⟨v',rfl,hR,hB,hK⟩;exact⟨v',rfl,ints_of_R hR,hR.1,⟨hB.os.trans h0.os.symm,hB.tape.trans h0.tape.symm,hB.output.trans h0.output.symm,hK.1,hK.2⟩,hB⟩
open Go.RowKit Go.Proofs.YtpnfmbeccjehiabGreatDoorW.PrintWords Go.Proofs.YtpnfmbeccjehiabGreatDoorW.PrintLast Go.Proofs.YtpnfmbeccjehiabGreatDoorW.PrintMore
attribute [local go_sem ↓] Go.wp_at_zero Go.wp_at_succ
def awM:RK.S:=RK.ins (RK.ins (fun _=>false) 1) 2
theorem aw_next:foundT (RK.nxv 1 awM 1)=.tuple #[.int .i64 2,.int .i64 0]:=by
 have:RK.nxv 1 awM 1=(2,true):=by decide +kernel
 rw[this]; rfl
theorem aw_text:RK.shT 1 awM = [49,58,50,40,49,58,49,124,49,58,48,58,48,41]:=by decide +kernel
theorem aw_read:RK.readOf 1 [49,58,50,40,49,58,49,124,49,58,48,58,48,41]=some (RK.setOf [1,2,2]):=by
 rw[RK.readOf,RK.rd_awake];simp only;rw[if_pos];exact⟨by decide +kernel,by decide +kernel⟩
theorem aw_list:RK.lst 1 (RK.setOf [1,2,2]) = [1,2]:=by decide +kernel
theorem LI.two {w:World} {g:Nat} {a b:Int} {t:Nat} (h:w.heap[g]?=some (.cells #[.int .i64 a,.int .i64 b] t (0,0))):LI w (.slice (some ⟨g,0,none⟩) 2 2) [a,b]:=by
 refine⟨some ⟨g,0,none⟩,2,rfl,by simp,rfl,by simp,fun _=>⟨_,rfl,fun j x hj=>⟨[.int .i64 x],rfl,rfl,fun i u hu=>?_⟩⟩⟩
 match i,hu with
 | 0,hu =>
  simp at hu;subst hu
  match j,hj with
  | 0,hj=>simp at hj; subst hj; exact row2_0 h
  | 1,hj=>simp at hj; subst hj; exact row2_1 h
  | j+2,hj=>simp at hj
 | i+1,hu=>simp at hu
theorem awake_any (w:World) (ht:Tab w):Calls Tryz.prog 6 #[] w fun e w'=>e=.returned (.bool true)/\Below w.heap.size w w':=by
 have HT:=Lib.hid ht;clear ht;go_enter Tryz.func6,Tryz.ntmps6;go_wp2_with fail;refine(new_ok 1 w (by omega)).mono ?_;rintro e w1 ⟨rb,rfl,hR,hrb,B1⟩;have HR1:=Lib.hid hR;have z1:=blk_lt hR.1;clear hR;go_wp2_with fail;refine(insert_new 1 rb _ _ _ 1 w1 (by omega) HR1.out (by decide) rfl).mono ?_;rintro e w2 ⟨rfl,v2,F2,hR,hB,hF⟩;have HR2:=Lib.hid hR;have HF2:=Lib.hid (show ∀c,F2 c->w.heap.size<=c from fun c hc=>by
  have:=B1.size;rcases hF c hc with h | h
  · exact False.elim h
  · omega)
 have B2:Below w.heap.size w w2:=hB.below B1 B1.size (fun c hc=>by
  rcases hc with h | h
  · omega
  · exact False.elim h)
 clear hR hB hF;go_wp2_with fail;refine(insert_new 1 rb _ _ _ 2 w2 (by omega) HR2.out (by decide) (by decide)).mono ?_;rintro e w3 ⟨rfl,v3,F3,hR,hB,hF⟩;have HR3:=Lib.hid (show RackIs w3 rb 1 awM v3 F3 from hR);have B3:Below w.heap.size w w3:=hB.below B2 B2.size (fun c hc=>by
  rcases hc with h | h
  · omega
  · exact HF2.out c h)
 clear hR hB hF;go_wp2_with fail;refine(insert_old 1 rb _ _ _ 1 w3 (by omega) HR3.out (by decide) (by decide)).mono ?_;rintro e w4 ⟨rfl,hb⟩;have HR4:=Lib.hid (HR3.out.below hb);have B4:Below w.heap.size w w4:=bl_call B3 hb B3.size;clear hb;go_wp2_with fail;have hN:=next_in 1 rb _ _ _ 1 w4 (by omega) HR4.out (by decide);rw[aw_next]at hN;refine hN.mono ?_;clear hN;rintro e w5 ⟨rfl,hb⟩;have HR5:=Lib.hid (HR4.out.below hb);have B5:Below w.heap.size w w5:=bl_call B4 hb B4.size;clear hb;go_wp2_with fail;refine(Read_yes 1 _ _ w5 (by omega) (by simp) (HT.out.below (B5.mono (by first | exact Nat.le_refl _ | omega))) aw_read).mono ?_;rintro e w6 ⟨sv,rfl,hO,hb⟩;rw[aw_list]at hO;have HO:=Lib.hid (LI.own hO);have HR6:=Lib.hid (HR5.out.below hb);have B6:Below w.heap.size w w6:=bl_call B5 hb B5.size;obtain⟨p,q,r,rfl⟩:=own_form hO;clear hb hO;go_wp2_with fail;refine(ints_any _ _ [1,2] [1,2] _ (HO.out.below (by repeat (first | exact Below.refl _ _ | exact Nat.le_refl _ | refine Below.alloc ?_ ?_ _ | refine Below.setCell ?_ ?_ _ | refine Below.drew ?_ | refine bl_drewN ?_ _ | (assumption) | refine bl_call ?_ (by assumption) ?_ | omega | (simp <;> omega)))) (LI.two (blk_new _ _)) (by simp)).mono ?_;rintro e w7 ⟨rfl,hb⟩;have HR7:=Lib.hid ((HR6.out.below (w':=w6.alloc (.cells #[.int .i64 1,.int .i64 2] 3)) (by repeat (first | exact Below.refl _ _ | exact Nat.le_refl _ | refine Below.alloc ?_ ?_ _ | refine Below.setCell ?_ ?_ _ | refine Below.drew ?_ | refine bl_drewN ?_ _ | (assumption) | refine bl_call ?_ (by assumption) ?_ | omega | (simp <;> omega)))).below hb);have B7:Below w.heap.size w w7:=bl_call (B6.alloc B6.size _) hb (by have:=B6.size; simp; omega);clear hb;go_wp2_with fail;have hS:=shape_any 1 rb _ _ _ w7 (by omega) HR7.out (HT.out.below B7);rw[aw_text]at hS;refine hS.mono ?_;clear hS;rintro e w8 ⟨rfl,hb⟩;have B8:Below w.heap.size w w8:=bl_call B7 hb B7.size;clear hb;go_wp2_with fail
 go_ret
 exact⟨rfl,B8⟩
end Go.Proofs.YtpnfmbeccjehiabGreatDoor
