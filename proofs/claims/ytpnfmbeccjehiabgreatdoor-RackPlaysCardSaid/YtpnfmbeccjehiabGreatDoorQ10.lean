/- The reference's Next, Before, Work, Count, and the law's turned and agrees, as the kit's print tells them. -/
import Derived.Test.YtpnfmbeccjehiabGreatDoorQ3
set_option maxHeartbeats 8000000
set_option maxRecDepth 100000
namespace Go.Proofs.YtpnfmbeccjehiabGreatDoor.PR
open Go.RowKit Go.Proofs.YtpnfmbeccjehiabGreatDoorW.PrintWords Go.Proofs.YtpnfmbeccjehiabGreatDoorW.PrintLast Go.Proofs.YtpnfmbeccjehiabGreatDoorW.PrintMore
attribute [local go_sem] max2_int min2_int max_two min_two max_three min_three max_four min_four
set_option linter.unusedVariables false
set_option linter.unusedSimpArgs false
/-! ### remouldlaw07_turned: function 20 -/
def remouldlaw07_turned.f (a0:Bool) (a1:Int) (a2:Bool) (a3:Bool):Option (Bool):=if a2=true then (if (a0 == a3)=true then (some (a1 == 0)) else (some false)) else (if a0=true then (some false) else (some (a1 == 2)))
theorem remouldlaw07_turned.calls (a0:Bool) (a1:Int) (a2:Bool) (a3:Bool) (r:Bool) (w:World) (h:remouldlaw07_turned.f a0 a1 a2 a3=some r) :
  Calls Tryz.prog 20 #[.bool a0,.int .i64 a1,.bool a2,.bool a3] w fun e w'=>e=.returned (.bool r)/\Drawn0 w w':=by
 have H:(if a2=true then (if (a0 == a3)=true then (some (a1 == 0)) else (some false)) else (if a0=true then (some false) else (some (a1 == 2))))=some r:=h;clear h
 by_cases c5:a2=true
 ·
  subst c5;have H1:(if (a0 == a3)=true then (some (a1 == 0)) else (some false))=some r:=by rw[if_pos rfl]at H; exact H
  clear H;have H:=H1;clear H1
  by_cases c6:(a0 == a3)=true
  ·
   rw[if_pos c6]at H;have c6b0:(a0 == a3)=true:=c6
   (try (have c6b1:decide (a0=a3)=true:=by simpa using c6))
   (try (have c6b2:(a0 == a3)=true:=by simpa using c6))
   clear c6;obtain rfl:=Option.some.inj H;go_enter Tryz.func20,Tryz.ntmps20;go_wp2
   go_ret
   exact⟨by first | rfl | (simp; done) | (simp[*]; done),by repeat (first | exact Drawn0.refl _ | apply Drawn0.step)⟩
  ·
   rw[if_neg c6]at H;have c6b0:(a0 == a3)=false:=by simpa using c6
   (try (have c6b1:decide (a0=a3)=false:=by simpa using c6))
   (try (have c6b2:(a0 == a3)=false:=by simpa using c6))
   (try (have c6b3:¬(a0=a3):=by simpa using c6))
   clear c6;obtain rfl:=Option.some.inj H;go_enter Tryz.func20,Tryz.ntmps20;go_wp2
   go_ret
   exact⟨by first | rfl | (simp; done) | (simp[*]; done),by repeat (first | exact Drawn0.refl _ | apply Drawn0.step)⟩
 ·
  replace c5:=Bool.eq_false_iff.mpr c5
  subst c5;have H1:(if a0=true then (some false) else (some (a1 == 2)))=some r:=by rw[if_neg (show ¬(false=true) by decide)]at H; exact H
  clear H;have H:=H1;clear H1
  by_cases c7:a0=true
  ·
   subst c7;have H1:(some false)=some r:=by rw[if_pos rfl]at H; exact H
   clear H;have H:=H1;clear H1;obtain rfl:=Option.some.inj H;go_enter Tryz.func20,Tryz.ntmps20;go_wp2
   go_ret
   exact⟨by first | rfl | (simp; done) | (simp[*]; done),by repeat (first | exact Drawn0.refl _ | apply Drawn0.step)⟩
  ·
   replace c7:=Bool.eq_false_iff.mpr c7
   subst c7;have H1:(some (a1 == 2))=some r:=by rw[if_neg (show ¬(false=true) by decide)]at H; exact H
   clear H;have H:=H1;clear H1;obtain rfl:=Option.some.inj H;go_enter Tryz.func20,Tryz.ntmps20;go_wp2
   go_ret
   exact⟨by first | rfl | (simp; done) | (simp[*]; done),by repeat (first | exact Drawn0.refl _ | apply Drawn0.step)⟩
/-! ### remouldref07_Next: function 27 -/
def remouldref07_Next.l0:Nat->List Int->Int->Int->Option (Int × Bool)
 | 0,_,_,_=>none
 | k+1,x0,x1,x6=>if x6 < (x0.length:Int) then (if 0<=x6 then (if (rd x0 x6) > x1 then (some (rd x0 x6,true)) else (remouldref07_Next.l0 k x0 x1 (wrap64 (x6+1)))) else (none)) else (some (0,false))
def remouldref07_Next.f (k:Nat) (l0:List Int) (a1:Int):Option (Int × Bool):=remouldref07_Next.l0 k l0 a1 0
theorem remouldref07_Next.mono_l:∀k,(∀y0 y1 y2,LeO (remouldref07_Next.l0 k y0 y1 y2) (remouldref07_Next.l0 (k+1) y0 y1 y2))
 | 0=>fun _ _ _ r h=>by simp[remouldref07_Next.l0]at h
 | k+1=>by
  have ih0:=remouldref07_Next.mono_l k
  ·
   intro y0 y1 y2;unfold remouldref07_Next.l0;repeat' first
   | (with_reducible exact ih0 _ _ _)
   | (with_reducible exact LeO.refl _)
   | (with_reducible exact LeO.none _)
   | (with_reducible refine LeO.ite ?_ ?_)
   | (with_reducible refine LeO.bind ?_ (fun _=>?_))
   | exact ih0 _ _ _
   | exact LeO.none _
   | refine LeO.ite ?_ ?_
   | refine LeO.bind ?_ (fun _=>?_)
theorem remouldref07_Next.mono : ∀ a0 a1 k, LeO (remouldref07_Next.f k a0 a1) (remouldref07_Next.f (k + 1) a0 a1) := by
  intro a0 a1 k
  have ih0 := remouldref07_Next.mono_l k
  unfold remouldref07_Next.f
  repeat' first
      | (with_reducible exact ih0 _ _ _)
      | (with_reducible exact LeO.refl _)
      | (with_reducible exact LeO.none _)
      | (with_reducible refine LeO.ite ?_ ?_)
      | (with_reducible refine LeO.bind ?_ (fun _ => ?_))
      | exact ih0 _ _ _
      | exact LeO.none _
      | refine LeO.ite ?_ ?_
      | refine LeO.bind ?_ (fun _ => ?_)
theorem remouldref07_Next.calls (k:Nat) (A0:Option Addr) (c0:Nat) (l0:List Int) (a1:Int) (r1:Int) (r2:Bool) (w:World) (hr0:Kd.C (Kd.int .i64) w A0 l0.length l0) (hc0:l0.length<=c0) (h:remouldref07_Next.f k l0 a1=some (r1,r2)) :
  Calls Tryz.prog 27 #[.slice A0 l0.length c0,.int .i64 a1] w fun e w'=>e=.returned (.tuple #[.int .i64 r1,.bool r2])/\Drawn0 w w':=by
 have HR0:=Aside0.mk hr0;have HC0:=Aside0.mk hc0;clear hr0 hc0;have H:(remouldref07_Next.l0 k l0 a1 0)=some (r1,r2):=h;clear h;have H':=Aside0.mk H;clear H;go_enter Tryz.func27,Tryz.ntmps27;go_wp2
 go_loopg [6] k (fun kq v6 w'=>∃(x6_1:Int),v6=.int .i64 x6_1/\Aside0 (remouldref07_Next.l0 kq l0 a1 x6_1=some (r1,r2))/\Aside0 (kq<=k)/\Drawn0 w w')
 case atStart=>exact⟨(0),(by first | rfl | (simp; done) | (simp[*]; done)),H',⟨Nat.le_refl _⟩,by repeat (first | exact Drawn0.refl _ | apply Drawn0.step)⟩
 case round =>
  clear H';try clear c2
  try clear p2
  obtain⟨x6_1,rfl,HA,HK1,⟨m1,rfl⟩⟩:=hrel;cases gk with
  | zero=>exact absurd HA.out (by simp[remouldref07_Next.l0])
  | succ k1 =>
   have H:=HA.out;clear HA;simp only[remouldref07_Next.l0]at H
   by_cases c3:x6_1 < (l0.length:Int)
   ·
    rw[if_pos c3]at H;have c3b0:decide (x6_1 < (l0.length:Int))=true:=decide_eq_true c3;clear c3
    by_cases c4:0<=x6_1
    ·
     rw[if_pos c4]at H;have c4b0:decide (0<=x6_1)=true:=decide_eq_true c4;clear c4
     by_cases c5:(rd l0 x6_1) > a1
     ·
      rw[if_pos c5]at H;have c5b0:decide (a1 < (rd l0 x6_1))=true:=decide_eq_true c5;clear c5;simp only[Option.some.injEq,Prod.mk.injEq]at H;obtain⟨rfl,rfl⟩:=H;have p146:0<=(x6_1:Int):=of_decide_eq_true (by assumption);have q146:x6_1 < (l0.length:Int):=of_decide_eq_true (by assumption);obtain⟨ad146,e146,hx146_0⟩:=Kd.at_int HR0.out x6_1 p146 q146;cases e146
      replace p146:=eq_true p146
      replace q146:=eq_true q146
      have p147:0<=(x6_1:Int):=of_decide_eq_true (by assumption);have q147:x6_1 < (l0.length:Int):=of_decide_eq_true (by assumption);obtain⟨ad147,e147,hx147_0⟩:=Kd.at_int HR0.out x6_1 p147 q147;obtain rfl:ad146=ad147:=(by injection e147)
      replace p147:=eq_true p147
      replace q147:=eq_true q147
      go_wp2
      go_ret2
      exact⟨by first | rfl | (simp; done) | (simp[*]; done),by repeat (first | exact Drawn0.refl _ | apply Drawn0.step)⟩
     ·
      rw[if_neg c5]at H;have c5b0:decide (a1 < (rd l0 x6_1))=false:=decide_eq_false c5;clear c5;have H':=Aside0.mk H;clear H;have p146:0<=(x6_1:Int):=of_decide_eq_true (by assumption);have q146:x6_1 < (l0.length:Int):=of_decide_eq_true (by assumption);obtain⟨ad146,e146,hx146_0⟩:=Kd.at_int HR0.out x6_1 p146 q146;cases e146
      replace p146:=eq_true p146
      replace q146:=eq_true q146
      go_wp2
      go_roundg k1
      case measure=>have:=HK1.out; omega
      case rel=>exact⟨(wrap64 (x6_1+1)),(by first | rfl | (simp; done) | (simp[*]; done)),H',⟨by have:=HK1.out; omega⟩,by repeat (first | exact Drawn0.refl _ | apply Drawn0.step)⟩
    · rw[if_neg c4]at H;exact absurd H (by simp)
   ·
    rw[if_neg c3]at H;have c3b0:decide (x6_1 < (l0.length:Int))=false:=decide_eq_false c3;clear c3;simp only[Option.some.injEq,Prod.mk.injEq]at H;obtain⟨rfl,rfl⟩:=H;go_wp2
    go_ret2
    exact⟨by first | rfl | (simp; done) | (simp[*]; done),by repeat (first | exact Drawn0.refl _ | apply Drawn0.step)⟩
/-! ### remouldlaw07_agrees: function 28 -/
def remouldlaw07_agrees.f (a0:Int) (a1:Int) (a2:Bool) (a3:Int) (a4:Bool):Option (Bool):=if a2=true then (if a4=true then (if a0=a3 then (some (a1 == 0)) else (some false)) else (if a0=0 then (some (a1 == 6)) else (some false))) else (if a0=0 then (some (a1 == 2)) else (some false))
theorem remouldlaw07_agrees.calls (a0:Int) (a1:Int) (a2:Bool) (a3:Int) (a4:Bool) (r:Bool) (w:World) (h:remouldlaw07_agrees.f a0 a1 a2 a3 a4=some r) :
  Calls Tryz.prog 28 #[.int .i64 a0,.int .i64 a1,.bool a2,.int .i64 a3,.bool a4] w fun e w'=>e=.returned (.bool r)/\Drawn0 w w':=by
 have H:(if a2=true then (if a4=true then (if a0=a3 then (some (a1 == 0)) else (some false)) else (if a0=0 then (some (a1 == 6)) else (some false))) else (if a0=0 then (some (a1 == 2)) else (some false)))=some r:=h;clear h
 by_cases c6:a2=true
 ·
  subst c6;have H1:(if a4=true then (if a0=a3 then (some (a1 == 0)) else (some false)) else (if a0=0 then (some (a1 == 6)) else (some false)))=some r:=by rw[if_pos rfl]at H; exact H
  clear H;have H:=H1;clear H1
  by_cases c7:a4=true
  ·
   subst c7;have H1:(if a0=a3 then (some (a1 == 0)) else (some false))=some r:=by rw[if_pos rfl]at H; exact H
   clear H;have H:=H1;clear H1
   by_cases c8:a0=a3
   ·
    rw[if_pos c8]at H;have c8b0:(a0 == a3)=true:=beq_iff_eq.mpr c8;have c8b1:(a0 != a3)=false:=bne_eq_false_iff_eq.mpr c8;clear c8;obtain rfl:=Option.some.inj H;go_enter Tryz.func28,Tryz.ntmps28;go_wp2
    go_ret
    exact⟨by first | rfl | (simp; done) | (simp[*]; done),by repeat (first | exact Drawn0.refl _ | apply Drawn0.step)⟩
   ·
    rw[if_neg c8]at H;have c8b0:(a0 == a3)=false:=beq_eq_false_iff_ne.mpr c8;have c8b1:(a0 != a3)=true:=bne_iff_ne.mpr c8;obtain rfl:=Option.some.inj H;go_enter Tryz.func28,Tryz.ntmps28;go_wp2
    go_ret
    exact⟨by first | rfl | (simp; done) | (simp[*]; done),by repeat (first | exact Drawn0.refl _ | apply Drawn0.step)⟩
  ·
   replace c7:=Bool.eq_false_iff.mpr c7
   subst c7;have H1:(if a0=0 then (some (a1 == 6)) else (some false))=some r:=by rw[if_neg (show ¬(false=true) by decide)]at H; exact H
   clear H;have H:=H1;clear H1
   by_cases c9:a0=0
   ·
    rw[if_pos c9]at H;have c9b0:(a0 == 0)=true:=beq_iff_eq.mpr c9;have c9b1:(a0 != 0)=false:=bne_eq_false_iff_eq.mpr c9;clear c9;obtain rfl:=Option.some.inj H;go_enter Tryz.func28,Tryz.ntmps28;go_wp2
    go_ret
    exact⟨by first | rfl | (simp; done) | (simp[*]; done),by repeat (first | exact Drawn0.refl _ | apply Drawn0.step)⟩
   ·
    rw[if_neg c9]at H;have c9b0:(a0 == 0)=false:=beq_eq_false_iff_ne.mpr c9;have c9b1:(a0 != 0)=true:=bne_iff_ne.mpr c9;obtain rfl:=Option.some.inj H;go_enter Tryz.func28,Tryz.ntmps28;go_wp2
    go_ret
    exact⟨by first | rfl | (simp; done) | (simp[*]; done),by repeat (first | exact Drawn0.refl _ | apply Drawn0.step)⟩
 ·
  replace c6:=Bool.eq_false_iff.mpr c6
  subst c6;have H1:(if a0=0 then (some (a1 == 2)) else (some false))=some r:=by rw[if_neg (show ¬(false=true) by decide)]at H; exact H
  clear H;have H:=H1;clear H1
  by_cases c10:a0=0
  ·
   rw[if_pos c10]at H;have c10b0:(a0 == 0)=true:=beq_iff_eq.mpr c10;have c10b1:(a0 != 0)=false:=bne_eq_false_iff_eq.mpr c10;clear c10;obtain rfl:=Option.some.inj H;go_enter Tryz.func28,Tryz.ntmps28;go_wp2
   go_ret
   exact⟨by first | rfl | (simp; done) | (simp[*]; done),by repeat (first | exact Drawn0.refl _ | apply Drawn0.step)⟩
  ·
   rw[if_neg c10]at H;have c10b0:(a0 == 0)=false:=beq_eq_false_iff_ne.mpr c10;have c10b1:(a0 != 0)=true:=bne_iff_ne.mpr c10;obtain rfl:=Option.some.inj H;go_enter Tryz.func28,Tryz.ntmps28;go_wp2
   go_ret
   exact⟨by first | rfl | (simp; done) | (simp[*]; done),by repeat (first | exact Drawn0.refl _ | apply Drawn0.step)⟩
-- NOT PRINTED: function 29 (rack_Rack_Max)
/-! ### remouldref07_Before: function 30 -/
def remouldref07_Before.l0:Nat->List Int->Int->Int->Option (Int × Bool)
 | 0,_,_,_=>none
 | k+1,x0,x1,x6=>if x6>=0 then (if 0<=x6 then (if x6 < (x0.length:Int) then (if (rd x0 x6) < x1 then (some (rd x0 x6,true)) else (remouldref07_Before.l0 k x0 x1 (wrap64 (x6-1)))) else (none)) else (none)) else (some (0,false))
def remouldref07_Before.f (k:Nat) (l0:List Int) (a1:Int):Option (Int × Bool):=remouldref07_Before.l0 k l0 a1 (wrap64 ((l0.length:Int)-1))
theorem remouldref07_Before.mono_l:∀k,(∀y0 y1 y2,LeO (remouldref07_Before.l0 k y0 y1 y2) (remouldref07_Before.l0 (k+1) y0 y1 y2))
 | 0=>fun _ _ _ r h=>by simp[remouldref07_Before.l0]at h
 | k+1=>by
  have ih0:=remouldref07_Before.mono_l k
  ·
   intro y0 y1 y2;unfold remouldref07_Before.l0;repeat' first
   | (with_reducible exact ih0 _ _ _)
   | (with_reducible exact LeO.refl _)
   | (with_reducible exact LeO.none _)
   | (with_reducible refine LeO.ite ?_ ?_)
   | (with_reducible refine LeO.bind ?_ (fun _=>?_))
   | exact ih0 _ _ _
   | exact LeO.none _
   | refine LeO.ite ?_ ?_
   | refine LeO.bind ?_ (fun _=>?_)
theorem remouldref07_Before.mono : ∀ a0 a1 k, LeO (remouldref07_Before.f k a0 a1) (remouldref07_Before.f (k + 1) a0 a1) := by
  intro a0 a1 k
  have ih0 := remouldref07_Before.mono_l k
  unfold remouldref07_Before.f
  repeat' first
      | (with_reducible exact ih0 _ _ _)
      | (with_reducible exact LeO.refl _)
      | (with_reducible exact LeO.none _)
      | (with_reducible refine LeO.ite ?_ ?_)
      | (with_reducible refine LeO.bind ?_ (fun _ => ?_))
      | exact ih0 _ _ _
      | exact LeO.none _
      | refine LeO.ite ?_ ?_
      | refine LeO.bind ?_ (fun _ => ?_)
theorem remouldref07_Before.calls (k:Nat) (A0:Option Addr) (c0:Nat) (l0:List Int) (a1:Int) (r1:Int) (r2:Bool) (w:World) (hr0:Kd.C (Kd.int .i64) w A0 l0.length l0) (hc0:l0.length<=c0) (h:remouldref07_Before.f k l0 a1=some (r1,r2)) :
  Calls Tryz.prog 30 #[.slice A0 l0.length c0,.int .i64 a1] w fun e w'=>e=.returned (.tuple #[.int .i64 r1,.bool r2])/\Drawn0 w w':=by
 have HR0:=Aside0.mk hr0;have HC0:=Aside0.mk hc0;clear hr0 hc0;have H:(remouldref07_Before.l0 k l0 a1 (wrap64 ((l0.length:Int)-1)))=some (r1,r2):=h;clear h;have H':=Aside0.mk H;clear H;go_enter Tryz.func30,Tryz.ntmps30;go_wp2
 go_loopg [6] k (fun kq v6 w'=>∃(x6_1:Int),v6=.int .i64 x6_1/\Aside0 (remouldref07_Before.l0 kq l0 a1 x6_1=some (r1,r2))/\Aside0 (kq<=k)/\Drawn0 w w')
 case atStart=>exact⟨(wrap64 ((l0.length:Int)-1)),(by first | rfl | (simp; done) | (simp[*]; done)),H',⟨Nat.le_refl _⟩,by repeat (first | exact Drawn0.refl _ | apply Drawn0.step)⟩
 case round =>
  clear H';try clear p2
  obtain⟨x6_1,rfl,HA,HK1,⟨m1,rfl⟩⟩:=hrel;cases gk with
  | zero=>exact absurd HA.out (by simp[remouldref07_Before.l0])
  | succ k1 =>
   have H:=HA.out;clear HA;simp only[remouldref07_Before.l0]at H
   by_cases c3:x6_1>=0
   ·
    rw[if_pos c3]at H;have c3b0:decide (0<=x6_1)=true:=decide_eq_true c3;clear c3
    by_cases c4:0<=x6_1
    ·
     rw[if_pos c4]at H;have c4b0:decide (0<=x6_1)=true:=decide_eq_true c4;clear c4
     by_cases c5:x6_1 < (l0.length:Int)
     ·
      rw[if_pos c5]at H;have c5b0:decide (x6_1 < (l0.length:Int))=true:=decide_eq_true c5;clear c5
      by_cases c6:(rd l0 x6_1) < a1
      ·
       rw[if_pos c6]at H;have c6b0:decide ((rd l0 x6_1) < a1)=true:=decide_eq_true c6;clear c6;simp only[Option.some.injEq,Prod.mk.injEq]at H;obtain⟨rfl,rfl⟩:=H;have p148:0<=(x6_1:Int):=of_decide_eq_true (by assumption);have q148:x6_1 < (l0.length:Int):=of_decide_eq_true (by assumption);obtain⟨ad148,e148,hx148_0⟩:=Kd.at_int HR0.out x6_1 p148 q148;cases e148
       replace p148:=eq_true p148
       replace q148:=eq_true q148
       have p149:0<=(x6_1:Int):=of_decide_eq_true (by assumption);have q149:x6_1 < (l0.length:Int):=of_decide_eq_true (by assumption);obtain⟨ad149,e149,hx149_0⟩:=Kd.at_int HR0.out x6_1 p149 q149;obtain rfl:ad148=ad149:=(by injection e149)
       replace p149:=eq_true p149
       replace q149:=eq_true q149
       go_wp2
       go_ret2
       exact⟨by first | rfl | (simp; done) | (simp[*]; done),by repeat (first | exact Drawn0.refl _ | apply Drawn0.step)⟩
      ·
       rw[if_neg c6]at H;have c6b0:decide ((rd l0 x6_1) < a1)=false:=decide_eq_false c6;clear c6;have H':=Aside0.mk H;clear H;have p148:0<=(x6_1:Int):=of_decide_eq_true (by assumption);have q148:x6_1 < (l0.length:Int):=of_decide_eq_true (by assumption);obtain⟨ad148,e148,hx148_0⟩:=Kd.at_int HR0.out x6_1 p148 q148;cases e148
       replace p148:=eq_true p148
       replace q148:=eq_true q148
       go_wp2
       go_roundg k1
       case measure=>have:=HK1.out; omega
       case rel=>exact⟨(wrap64 (x6_1-1)),(by first | rfl | (simp; done) | (simp[*]; done)),H',⟨by have:=HK1.out; omega⟩,by repeat (first | exact Drawn0.refl _ | apply Drawn0.step)⟩
     · rw[if_neg c5]at H;exact absurd H (by simp)
    · rw[if_neg c4]at H;exact absurd H (by simp)
   ·
    rw[if_neg c3]at H;have c3b0:decide (0<=x6_1)=false:=decide_eq_false c3;clear c3;simp only[Option.some.injEq,Prod.mk.injEq]at H;obtain⟨rfl,rfl⟩:=H;go_wp2
    go_ret2
    exact⟨by first | rfl | (simp; done) | (simp[*]; done),by repeat (first | exact Drawn0.refl _ | apply Drawn0.step)⟩
-- NOT PRINTED: function 33 (rack_Rack_Work)
/-! ### remouldref07_Work: function 34 -/
mutual
def remouldref07_Work.j0:Nat->List Int->Int->Int->Bool->Option (Int)
 | 0,_,_,_,_=>none
 | k+1,x0,x1,x2,x24=>if x24=true then (some 1) else ((remouldref07_Places.f k (wrap64 (x1-1))).bind fun t186=>((remouldref07_shelves.f k x0 x1).bind fun bt187=>(remouldref07_Work.l0 k x1 x2 t186 bt187.1 bt187.2 0)))
def remouldref07_Work.l0:Nat->Int->Int->Int->List Int->List (List Int)->Int->Option (Int)
 | 0,_,_,_,_,_,_=>none
 | k+1,x1,x2,x7,x8,x9,x10=>if x10 < (x8.length:Int) then (if 0<=x10 then (if x7=0 then (none) else (if (rd x8 x10)=(wrap64 (Int.tdiv x2 x7)) then (if x10 < (x9.length:Int) then (if 0<=(wrap64 (((rd_L1 x9 x10).length:Int)-1)) then (if (wrap64 (((rd_L1 x9 x10).length:Int)-1)) < ((rd_L1 x9 x10).length:Int) then (if (rd (rd_L1 x9 x10) (wrap64 (((rd_L1 x9 x10).length:Int)-1))) > (Int.tmod x2 x7) then ((remouldref07_Work.f k (rd_L1 x9 x10) (wrap64 (x1-1)) (Int.tmod x2 x7)).bind fun t198=>(some (wrap64 (1+t198)))) else (remouldref07_Work.l0 k x1 x2 x7 x8 x9 (wrap64 (x10+1)))) else (none)) else (none)) else (none)) else (remouldref07_Work.l0 k x1 x2 x7 x8 x9 (wrap64 (x10+1))))) else (none)) else (if x7=0 then (none) else ((remouldref07_Work.f k x8 (wrap64 (x1-1)) (wrap64 (Int.tdiv x2 x7))).bind fun t199=>(some (wrap64 (1+t199)))))
def remouldref07_Work.f:Nat->List Int->Int->Int->Option (Int)
 | 0,_,_,_=>none
 | k+1,l0,a1,a2=>if a1=0 then (remouldref07_Work.j0 k l0 a1 a2 true) else (if (l0.length:Int)=0 then (remouldref07_Work.j0 k l0 a1 a2 true) else (if 0 < (l0.length:Int) then (remouldref07_Work.j0 k l0 a1 a2 (decide (a2 < (rd l0 0)))) else (none)))
end
theorem remouldref07_Work.mono_l:∀k,(∀y0 y1 y2,LeO (remouldref07_Work.f k y0 y1 y2) (remouldref07_Work.f (k+1) y0 y1 y2))/\(∀y0 y1 y2 y3,LeO (remouldref07_Work.j0 k y0 y1 y2 y3) (remouldref07_Work.j0 (k+1) y0 y1 y2 y3))/\(∀y0 y1 y2 y3 y4 y5,LeO (remouldref07_Work.l0 k y0 y1 y2 y3 y4 y5) (remouldref07_Work.l0 (k+1) y0 y1 y2 y3 y4 y5))
 | 0=>⟨fun _ _ _ r h=>by simp[remouldref07_Work.f]at h,fun _ _ _ _ r h=>by simp[remouldref07_Work.j0]at h,fun _ _ _ _ _ _ r h=>by simp[remouldref07_Work.l0]at h⟩
 | k+1=>by
  obtain⟨ih0,ih1,ih2⟩:=remouldref07_Work.mono_l k;refine⟨?_,?_,?_⟩
  ·
   intro y0 y1 y2;unfold remouldref07_Work.f;repeat' first
   | (with_reducible exact ih0 _ _ _)
   | (with_reducible exact ih1 _ _ _ _)
   | (with_reducible exact ih2 _ _ _ _ _ _)
   | (with_reducible exact remouldref07_Places.mono _ _)
   | (with_reducible exact remouldref07_shelves.mono _ _ _)
   | (with_reducible exact LeO.refl _)
   | (with_reducible exact LeO.none _)
   | (with_reducible refine LeO.ite ?_ ?_)
   | (with_reducible refine LeO.bind ?_ (fun _=>?_))
   | exact ih0 _ _ _
   | exact ih1 _ _ _ _
   | exact ih2 _ _ _ _ _ _
   | exact remouldref07_Places.mono _ _
   | exact remouldref07_shelves.mono _ _ _
   | exact LeO.none _
   | refine LeO.ite ?_ ?_
   | refine LeO.bind ?_ (fun _=>?_)
  ·
   intro y0 y1 y2 y3;unfold remouldref07_Work.j0;repeat' first
   | (with_reducible exact ih0 _ _ _)
   | (with_reducible exact ih1 _ _ _ _)
   | (with_reducible exact ih2 _ _ _ _ _ _)
   | (with_reducible exact remouldref07_Places.mono _ _)
   | (with_reducible exact remouldref07_shelves.mono _ _ _)
   | (with_reducible exact LeO.refl _)
   | (with_reducible exact LeO.none _)
   | (with_reducible refine LeO.ite ?_ ?_)
   | (with_reducible refine LeO.bind ?_ (fun _=>?_))
   | exact ih0 _ _ _
   | exact ih1 _ _ _ _
   | exact ih2 _ _ _ _ _ _
   | exact remouldref07_Places.mono _ _
   | exact remouldref07_shelves.mono _ _ _
   | exact LeO.none _
   | refine LeO.ite ?_ ?_
   | refine LeO.bind ?_ (fun _=>?_)
  ·
   intro y0 y1 y2 y3 y4 y5;unfold remouldref07_Work.l0;repeat' first
   | (with_reducible exact ih0 _ _ _)
   | (with_reducible exact ih1 _ _ _ _)
   | (with_reducible exact ih2 _ _ _ _ _ _)
   | (with_reducible exact remouldref07_Places.mono _ _)
   | (with_reducible exact remouldref07_shelves.mono _ _ _)
   | (with_reducible exact LeO.refl _)
   | (with_reducible exact LeO.none _)
   | (with_reducible refine LeO.ite ?_ ?_)
   | (with_reducible refine LeO.bind ?_ (fun _=>?_))
   | exact ih0 _ _ _
   | exact ih1 _ _ _ _
   | exact ih2 _ _ _ _ _ _
   | exact remouldref07_Places.mono _ _
   | exact remouldref07_shelves.mono _ _ _
   | exact LeO.none _
   | refine LeO.ite ?_ ?_
   | refine LeO.bind ?_ (fun _=>?_)
theorem remouldref07_Work.mono:∀a0 a1 a2 k,LeO (remouldref07_Work.f k a0 a1 a2) (remouldref07_Work.f (k+1) a0 a1 a2):=by
 intro a0 a1 a2 k;obtain⟨ih0,ih1,ih2⟩:=remouldref07_Work.mono_l k;exact ih0 a0 a1 a2
def remouldref07_Work.T8:Bool × List (List Nat × List Nat):=(true,[([],[]),([],[]),([0,1],[0,1]),([2],[2]),([],[]),([],[]),([4,5],[4,5]),([3,6],[3,6]),([7],[7]),([8],[8]),([8],[8]),([9,10,8],[8,9,10]),([11,8],[8,11]),([8],[8]),([8],[8]),([13,14,8],[8,13,14]),([15,8],[8,15]),([16,8],[8,16]),([17,8],[8,17]),([12,18,8],[8,12,18]),([19,8],[8,19]),([8],[8]),([8],[8]),([21,22,8],[8,21,22]),([20,23,8],[8,20,23]),([8,24],[8,24])])
def remouldref07_Work.B8:List Nat:=[0,0,3,7,0,0,48,127,255,511,511,2047,4095,511,511,25087,57855,123391,254463,524287,1048575,511,511,6291967,16777215,33554431]
theorem remouldref07_Work.tab8:rtab .any (opsOf Tryz.f34 8)=remouldref07_Work.T8:=by kernel_rfl
theorem remouldref07_Work.bits8:waitsOk remouldref07_Work.T8.2 remouldref07_Work.B8=true:=by kernel_rfl
def remouldref07_Work.T9:Bool × List (List Nat × List Nat):=(true,[([],[]),([],[]),([0,1],[0,1]),([2],[2]),([],[]),([4],[4]),([],[]),([],[]),([6,7],[6,7]),([3,5,8],[3,5,8]),([9],[9]),([10,9,0,1,2,3,4,5,6,7,8,9,10],[10])])
def remouldref07_Work.B9:List Nat:=[0,0,3,7,0,16,0,0,192,511,1023,2047]
theorem remouldref07_Work.tab9:rtab .any (opsOf Tryz.f34 9)=remouldref07_Work.T9:=by kernel_rfl
theorem remouldref07_Work.bits9:waitsOk remouldref07_Work.T9.2 remouldref07_Work.B9=true:=by kernel_rfl
theorem remouldref07_Work.calls (k:Nat):∀(A0:Option Addr) (c0:Nat) (l0:List Int) (a1:Int) (a2:Int) (r:Int) (w:World) (hr0:Kd.C (Kd.int .i64) w A0 l0.length l0) (hc0:l0.length<=c0) (h:remouldref07_Work.f k l0 a1 a2=some r),
  Calls Tryz.prog 34 #[.slice A0 l0.length c0,.int .i64 a1,.int .i64 a2] w fun e w'=>e=.returned (.int .i64 r)/\Below w.heap.size w w':=by
 induction k using Nat.strongRecOn with
 | _ k ih =>
 intro A0 c0 l0 a1 a2 r w hr0 hc0 h;cases k with
 | zero=>exact absurd h (by simp[remouldref07_Work.f])
 | succ k =>
 simp only[remouldref07_Work.f]at h;have HR0:=Aside0.mk hr0;have HC0:=Aside0.mk hc0;clear hr0 hc0;have HB:=Aside0.mk (Below.refl w.heap.size w);have H:(if a1=0 then (remouldref07_Work.j0 k l0 a1 a2 true) else (if (l0.length:Int)=0 then (remouldref07_Work.j0 k l0 a1 a2 true) else (if 0 < (l0.length:Int) then (remouldref07_Work.j0 k l0 a1 a2 (decide (a2 < (rd l0 0)))) else (none))))=some r:=h;clear h;have HC4:=Aside0.mk H;clear H;go_enter Tryz.func34,Tryz.ntmps34;go_upto_region 1 with (fail)
 go_cut [24] (fun v24 wc=>∃(kq:Nat) (x24_3:Bool),v24=.bool x24_3/\Aside0 (remouldref07_Work.j0 kq l0 a1 a2 x24_3=some r)/\Aside0 (kq<=k)/\Aside0 (Below w.heap.size w wc))
 case first =>
  have H:=HC4.out;clear HC4
  by_cases c5:a1=0
  ·
   rw[if_pos c5]at H;have c5b0:(a1 == 0)=true:=beq_iff_eq.mpr c5;have c5b1:(a1 != 0)=false:=bne_eq_false_iff_eq.mpr c5;clear c5
   (first | rw[c5b0] | (simp only[i64_w,i32_w]; rw[c5b0]) | skip)
   have H':=Aside0.mk H;clear H;go_wp2
   go_meet
   case rel=>exact⟨_,(true),(by first | rfl | (simp; done) | (simp[*]; done)),H',⟨by first | omega | exact Nat.le_refl _⟩,⟨by repeat (first | (with_reducible first | exact HB.out | apply below_alloc | apply pw_below_drewN | apply below_drew1) | exact HB.out)⟩⟩
  ·
   rw[if_neg c5]at H;have c5b0:(a1 == 0)=false:=beq_eq_false_iff_ne.mpr c5;have c5b1:(a1 != 0)=true:=bne_iff_ne.mpr c5
   (first | rw[c5b0] | (simp only[i64_w,i32_w]; rw[c5b0]) | skip)
   by_cases c6:(l0.length:Int)=0
   ·
    rw[if_pos c6]at H;have c6b0:((l0.length:Int) == 0)=true:=beq_iff_eq.mpr c6;have c6b1:((l0.length:Int) != 0)=false:=bne_eq_false_iff_eq.mpr c6;clear c6;have H':=Aside0.mk H;clear H;go_wp2
    go_meet
    case rel=>exact⟨_,(true),(by first | rfl | (simp; done) | (simp[*]; done)),H',⟨by first | omega | exact Nat.le_refl _⟩,⟨by repeat (first | (with_reducible first | exact HB.out | apply below_alloc | apply pw_below_drewN | apply below_drew1) | exact HB.out)⟩⟩
   ·
    rw[if_neg c6]at H;have c6b0:((l0.length:Int) == 0)=false:=beq_eq_false_iff_ne.mpr c6;have c6b1:((l0.length:Int) != 0)=true:=bne_iff_ne.mpr c6;have c6b2:¬(l0 = []):=fun h_=>c6 (by rw[h_]; rfl)
    by_cases c7:0 < (l0.length:Int)
    ·
     rw[if_pos c7]at H;have c7b0:decide (0 < (l0.length:Int))=true:=decide_eq_true c7;have c7b1:decide (0 < l0.length)=true:=decide_eq_true (by omega);clear c7;have H':=Aside0.mk H;clear H;have p185:0<=(0:Int):=(by omega)
     have q185:0 < (l0.length:Int):=of_decide_eq_true (by assumption);obtain⟨ad185,e185,hx185_0⟩:=Kd.at_int HR0.out 0 p185 q185;cases e185;have qi185:(0 < l0.length)=True:=eq_true (by omega)
     (try rw[show((0:Int)).toNat=0 from rfl]at hx185_0)
     (try rw[Addr.add_zero']at hx185_0)
     replace hx185_0:=(HB.out.cell (World.block_lt_of_cell? w _ hx185_0)).trans hx185_0
     replace p185:=eq_true p185
     replace q185:=eq_true q185
     go_wp2
     go_meet
     case rel=>exact⟨_,(decide (a2 < (rd l0 0))),(by first | rfl | (simp; done) | (simp[*]; done)),H',⟨by first | omega | exact Nat.le_refl _⟩,⟨by repeat (first | (with_reducible first | exact HB.out | apply below_alloc | apply pw_below_drewN | apply below_drew1) | exact HB.out)⟩⟩
    · rw[if_neg c7]at H;exact absurd H (by simp)
 case rest =>
  clear HC4;try clear p1
  try clear q1
  try clear hx1
  try clear qi1
  try clear p2
  try clear c3
  try clear c5
  try clear c5b0
  try clear c5b1
  try clear c6
  try clear c6b0
  try clear c6b1
  try clear c6b2
  try clear c7
  try clear c7b0
  try clear c7b1
  try clear hx185_0
  try clear p185
  try clear q185
  obtain⟨kq,x24_3,rfl,HA,HJ3,HB⟩:=hcut;cases kq with
  | zero=>exact absurd HA.out (by simp[remouldref07_Work.j0])
  | succ kj3 =>
   have H:=HA.out;clear HA;simp only[remouldref07_Work.j0]at H
   by_cases c8:x24_3=true
   ·
    subst c8;have H1:(some 1)=some r:=by rw[if_pos rfl]at H; exact H
    clear H;have H:=H1;clear H1;obtain rfl:=Option.some.inj H;go_wp2
    go_ret
    exact⟨by first | rfl | (simp[errW_none,errW_some] <;> rfl) | (simp[*,errW_none,errW_some] <;> rfl),by repeat (first | (with_reducible first | exact HB.out | apply below_alloc | apply pw_below_drewN | apply below_drew1) | exact HB.out)⟩
   ·
    replace c8:=Bool.eq_false_iff.mpr c8
    subst c8;have H1:((remouldref07_Places.f kj3 (wrap64 (a1-1))).bind fun t186=>((remouldref07_shelves.f kj3 l0 a1).bind fun bt187=>(remouldref07_Work.l0 kj3 a1 a2 t186 bt187.1 bt187.2 0)))=some r:=by rw[if_neg (show ¬(false=true) by decide)]at H; exact H
    clear H;have H:=H1;clear H1
    replace H:=Option.bind_eq_some_iff.mp H
    obtain⟨t186,A90,H⟩:=H
    replace H:((remouldref07_shelves.f kj3 l0 a1).bind fun bt187=>(remouldref07_Work.l0 kj3 a1 a2 t186 bt187.1 bt187.2 0))=some r:=H
    have A9:=Aside0.mk A90;clear A90
    replace H:=Option.bind_eq_some_iff.mp H
    obtain⟨⟨t187,t188⟩,A100,H⟩:=H
    replace H:(remouldref07_Work.l0 kj3 a1 a2 t186 t187 t188 0)=some r:=H
    have A10:=Aside0.mk A100;clear A100;have H':=Aside0.mk H;clear H;go_wp2_with (first | ((with_reducible refine gate_callee (f:=31) rfl ?_); refine goesL_ (some 27) rfl rfl Tryz.func31 (by kernel_rfl) rfl #[.int .i64 (wrap64 (a1-1))] rfl (by(try simp only[List.map_toArray,List.map_cons,List.map_nil]); first | done | rfl | (simp only[List.length_drop,List.length_take]; rfl)) ?_; (with_reducible refine(remouldref07_Places.calls kj3 (wrap64 (a1-1)) t186 _ A9.out).mono ?_); rintro e w' ⟨rfl,⟨nd,rfl⟩⟩; refine⟨_,rfl,?_⟩) | ((with_reducible refine gate_callee (f:=38) rfl ?_); refine goesL_ (some 31) rfl rfl Tryz.func38 (by kernel_rfl) rfl #[.slice A0 l0.length c0,.int .i64 a1] rfl (by(try simp only[List.map_toArray,List.map_cons,List.map_nil]); first | done | rfl | (simp only[List.length_drop,List.length_take]; rfl)) ?_; (with_reducible refine(remouldref07_shelves.calls kj3 _ _ l0 a1 t187 t188 _ ?side1 ?side2 A10.out).mono ?_); (case side1=>repeat (first | exact(Kd.C_below HR0.out (by repeat (first | (with_reducible first | exact HB.out | apply below_alloc | apply pw_below_drewN | apply below_drew1) | exact HB.out))) | (with_reducible refine Kd.C_alloc ?_ _) | (with_reducible refine Kd.C_drewN ?_ _) | (with_reducible refine Kd.C_drew ?_))); (case side2=>exact HC0.out); rintro e w11 ⟨v189,v191,rfl,ho0,ho1,hb⟩; refine⟨_,rfl,?_⟩; have n0_:=Aside0.mk (Kd.R_lower ho0 (below_size (by repeat (first | (with_reducible first | exact HB.out | apply below_alloc | apply pw_below_drewN | apply below_drew1) | exact HB.out)))); have n1_:=Aside0.mk (Kd.S_lower ho1 (below_size (by repeat (first | (with_reducible first | exact HB.out | apply below_alloc | apply pw_below_drewN | apply below_drew1) | exact HB.out)))); have n2_:=Aside0.mk (below_step (by repeat (first | (with_reducible first | exact HB.out | apply below_alloc | apply pw_below_drewN | apply below_drew1) | exact HB.out)) hb); clear HB; have HO190:=n0_; have HO192:=n1_; have HB:=n2_; clear n0_ n1_ n2_; (try clear hb); (try clear hb2); (try clear hk); (try clear hi); (try clear ho0); (try clear ho1)))
    go_loopg [10] kj3 (fun kq v10 w'=>∃(x10_2:Int),v10=.int .i64 x10_2/\Aside0 (remouldref07_Work.l0 kq a1 a2 t186 t187 t188 x10_2=some r)/\Aside0 (kq<=kj3)/\Aside0 (Kd.R (Kd.int .i64) 3 w' w.heap.size (fun _=>True) v189 t187)/\Aside0 (Kd.S (Kd.slice 3 (Kd.int .i64)) 28 w' w.heap.size (fun k_=>some k_≠(v189:Value).ownBlock) v191 t188)/\Aside0 (Below w.heap.size w w'))
    case atStart=>exact⟨(0),(by first | rfl | (simp; done) | (simp[*]; done)),H',⟨Nat.le_refl _⟩,⟨by(with_reducible repeat (first | apply Kd.R_alloc | apply Kd.R_drewN | apply Kd.R_drew)); exact HO190.out⟩,⟨by(with_reducible repeat (first | apply Kd.S_alloc | apply Kd.S_drewN | apply Kd.S_drew)); exact HO192.out⟩,⟨by repeat (first | (with_reducible first | exact HB.out | apply below_alloc | apply pw_below_drewN | apply below_drew1) | exact HB.out)⟩⟩
    case round =>
     clear H';try clear p1
     try clear q1
     try clear hx1
     try clear qi1
     try clear p2
     try clear c3
     try clear c5
     try clear c5b0
     try clear c5b1
     try clear c6
     try clear c6b0
     try clear c6b1
     try clear c6b2
     try clear p6
     try clear c7
     try clear c7b0
     try clear c7b1
     try clear c8
     try clear hx185_0
     try clear p1
     try clear p185
     try clear p2
     try clear q1
     try clear q185
     obtain⟨x10_2,rfl,HA,HK2,HO_8,HO_9,HB⟩:=hrel;cases gk with
     | zero=>exact absurd HA.out (by simp[remouldref07_Work.l0])
     | succ k2 =>
      have H:=HA.out;clear HA;simp only[remouldref07_Work.l0]at H
      by_cases c12:x10_2 < (t187.length:Int)
      ·
       rw[if_pos c12]at H;have c12b0:decide (x10_2 < (t187.length:Int))=true:=decide_eq_true c12;clear c12
       by_cases c13:0<=x10_2
       ·
        rw[if_pos c13]at H;have c13b0:decide (0<=x10_2)=true:=decide_eq_true c13;clear c13
        by_cases c14:t186=0
        · rw[if_pos c14]at H;exact absurd H (by simp)
        ·
         rw[if_neg c14]at H;have c14b0:(t186 == 0)=false:=beq_eq_false_iff_ne.mpr c14;have c14b1:(t186 != 0)=true:=bne_iff_ne.mpr c14
         by_cases c15:(rd t187 x10_2)=(wrap64 (Int.tdiv a2 t186))
         ·
          rw[if_pos c15]at H;have c15b0:((rd t187 x10_2) == (wrap64 (Int.tdiv a2 t186)))=true:=beq_iff_eq.mpr c15;have c15b1:((rd t187 x10_2) != (wrap64 (Int.tdiv a2 t186)))=false:=bne_eq_false_iff_eq.mpr c15;clear c15
          by_cases c16:x10_2 < (t188.length:Int)
          ·
           rw[if_pos c16]at H;have c16b0:decide (x10_2 < (t188.length:Int))=true:=decide_eq_true c16;clear c16;obtain⟨ji17,hji17⟩:∃j_:Int,(wrap64 (((rd_L1 t188 x10_2).length:Int)-1))=j_:=⟨_,rfl⟩
           replace H:(if 0<=(ji17) then (if (ji17) < ((rd_L1 t188 x10_2).length:Int) then (if (rd (rd_L1 t188 x10_2) (ji17)) > (Int.tmod a2 t186) then ((remouldref07_Work.f k2 (rd_L1 t188 x10_2) (wrap64 (a1-1)) (Int.tmod a2 t186)).bind fun t198=>(some (wrap64 (1+t198)))) else (remouldref07_Work.l0 k2 a1 a2 t186 t187 t188 (wrap64 (x10_2+1)))) else (none)) else (none))=some r:=by first | (rw[hji17]at H; exact H) | (simp only[hji17]at H ⊢; exact H)
           have hji17w:(IntKind.i64.wrap (((rd_L1 t188 x10_2).length:Int)-1))=ji17:=(i64_w _).trans hji17
           by_cases c18:0<=(ji17)
           ·
            rw[if_pos c18]at H;have c18b0:decide (0<=(ji17))=true:=decide_eq_true c18;clear c18
            by_cases c19:(ji17) < ((rd_L1 t188 x10_2).length:Int)
            ·
             rw[if_pos c19]at H;have c19b0:decide ((ji17) < ((rd_L1 t188 x10_2).length:Int))=true:=decide_eq_true c19;clear c19
             by_cases c20:(rd (rd_L1 t188 x10_2) (ji17)) > (Int.tmod a2 t186)
             ·
              rw[if_pos c20]at H;have c20b0:decide ((Int.tmod a2 t186) < (rd (rd_L1 t188 x10_2) (ji17)))=true:=decide_eq_true c20;clear c20
              replace H:=Option.bind_eq_some_iff.mp H
              obtain⟨t198,A210,H⟩:=H
              replace H:(some (wrap64 (1+t198)))=some r:=H
              have A21:=Aside0.mk A210;clear A210;obtain rfl:=Option.some.inj H;obtain⟨Ao22,co22,eo22⟩:=Kd.R_slice HO_8.out;subst eo22;try go_wp2
              have n0_:=Aside0.mk (Kd.R_drew HO_8.out);have n1_:=Aside0.mk (Kd.S_drew HO_9.out);have n2_:=Aside0.mk (below_drew1 HB.out);clear HO_8;clear HO_9;clear HB;have HO_8:=n0_;have HO_9:=n1_;have HB:=n2_;clear n0_ n1_ n2_;have p193:0<=(x10_2:Int):=of_decide_eq_true (by assumption);have q193:x10_2 < (t187.length:Int):=of_decide_eq_true (by assumption);obtain⟨ad193,e193,hx193_0⟩:=Kd.at_int (Kd.R_reads' HO_8.out).2.2 x10_2 p193 q193;cases e193
              replace p193:=eq_true p193
              replace q193:=eq_true q193
              obtain⟨Ao24,co24,eo24⟩:=Kd.S_slice HO_9.out
              (first | subst eo24 | (injection eo24 with f1_ f2_ f3_; have f4_:=f1_.symm; have f5_:=f3_.symm; clear f1_ f2_ f3_; subst f4_; subst f5_))
              have p194:0<=(x10_2:Int):=of_decide_eq_true (by assumption);have q194:x10_2 < (t188.length:Int):=of_decide_eq_true (by assumption);obtain⟨ad194,A194_0,c194_0,e194,hx194_0,hl194_0,hi194_0⟩:=at_L1 (Kd.S_reads' HO_9.out).2.2 x10_2 p194 q194;cases e194;obtain⟨ce194,hce194,hMe194,hcc194⟩:=Kd.S_get HO_9.out [] x10_2 p194 (by first | exact q194 | exact of_decide_eq_true (by assumption) | (have e_:=(Kd.S_reads' HO_9.out).1; omega));obtain⟨ve194_0,rfl,ge194_0⟩:=hMe194;have hv194_0:=hcc194 0 _ rfl;rw[Nat.add_zero,show((Kd.slice 3 (Kd.int .i64))).sz=1 from rfl,Nat.mul_one]at hv194_0
              replace hv194_0:=Option.some.inj (hv194_0.symm.trans hx194_0)
              rw[hv194_0]at ge194_0;have HL194_0:=Aside0.mk (show Kd.R (Kd.int .i64) 3 _ _ _ _ (rd_L1 t188 x10_2) from ge194_0);clear hv194_0 ge194_0;clear hcc194 hce194;have HR194_0:=Aside0.mk hi194_0;have HC194_0:=Aside0.mk hl194_0;clear hi194_0 hl194_0
              replace p194:=eq_true p194
              replace q194:=eq_true q194
              have p195:0<=(x10_2:Int):=of_decide_eq_true (by assumption);have q195:x10_2 < (t188.length:Int):=of_decide_eq_true (by assumption);obtain⟨ad195,A195_0,c195_0,e195,hx195_0,hl195_0,hi195_0⟩:=at_L1 (Kd.S_reads' HO_9.out).2.2 x10_2 p195 q195;obtain rfl:ad194=ad195:=(by injection e195)
              obtain⟨ce195,hce195,hMe195,hcc195⟩:=Kd.S_get HO_9.out [] x10_2 p195 (by first | exact q195 | exact of_decide_eq_true (by assumption) | (have e_:=(Kd.S_reads' HO_9.out).1; omega));obtain⟨ve195_0,rfl,ge195_0⟩:=hMe195;have hv195_0:=hcc195 0 _ rfl;rw[Nat.add_zero,show((Kd.slice 3 (Kd.int .i64))).sz=1 from rfl,Nat.mul_one]at hv195_0
              replace hv195_0:=Option.some.inj (hv195_0.symm.trans hx195_0)
              rw[hv195_0]at ge195_0;have HL195_0:=Aside0.mk (show Kd.R (Kd.int .i64) 3 _ _ _ _ (rd_L1 t188 x10_2) from ge195_0);clear hv195_0 ge195_0;clear hcc195 hce195;have HR195_0:=Aside0.mk hi195_0;have HC195_0:=Aside0.mk hl195_0;clear hi195_0 hl195_0
              replace p195:=eq_true p195
              replace q195:=eq_true q195
              have ea_:=Option.some.inj (hx194_0.symm.trans hx195_0);injection ea_ with ea_ en_ ec_;subst ea_;subst ec_;clear en_;have p196:0<=((ji17):Int):=of_decide_eq_true (by assumption);have q196:(ji17) < ((rd_L1 t188 x10_2).length:Int):=of_decide_eq_true (by assumption);obtain⟨ad196,e196,hx196_0⟩:=Kd.at_int (by repeat (first | (with_reducible exact HR194_0.out) | (with_reducible refine Kd.C_alloc ?_ _) | (with_reducible refine Kd.C_drewN ?_ _) | (with_reducible refine Kd.C_drew ?_) | exact HR194_0.out)) (ji17) p196 q196;cases e196
              replace p196:=eq_true p196
              replace q196:=eq_true q196
              refine start_ (n:=26) (S:=fun w'=>w'.cell? (ad193.add (x10_2).toNat)=some (.int .i64 (rd t187 x10_2))/\w'.cell? (ad194.add (x10_2).toNat)=some (.slice (some ad196) (rd_L1 t188 x10_2).length c194_0)/\w'.cell? (ad194.add (x10_2).toNat)=some (.slice (some ad196) (rd_L1 t188 x10_2).length c194_0)/\w'.cell? (ad196.add ((ji17)).toNat)=some (.int .i64 (rd (rd_L1 t188 x10_2) (ji17)))) (ds:=[]) #[false,false,false,false,false,false,false,false,false,false,false,false,false,false,false,false,false,false,false,false,false,false,false,false,false,false] (by kernel_rfl) rfl rfl ⟨hx193_0,hx194_0,hx195_0,hx196_0⟩ (fun hHeld=>?_); refine with_tabW remouldref07_Work.tab8 remouldref07_Work.bits8 (fun HT_ HW_=>?_);generalize wr.drew=w23 at HO_8 HO_9 HB HL194_0 HL195_0 HR194_0 HR195_0 hx193_0 hx194_0 hx195_0 hx196_0 hHeld ⊢;refine pure_ (i:=0) (N:=some 40) (v:=?_) (a':=?_) #[true,false,false,false,false,false,false,false,false,false,false,false,false,false,false,false,false,false,false,false,false,false,false,false,false,false] rfl rfl (any_of HT_.out (by kernel_rfl)) (fun _ _ _ h=>h) (Or.inl ⟨by rfl,?_⟩) ?_ ?_
              rotate_left
              ·
               intro w';go_simp
               with_reducible rfl
              rotate_left
              · simp only[Act.put,List.setIfInBounds_toArray,List.set_cons_zero,List.set_cons_succ,i64_w,i32_w];rfl
              refine pure_ (i:=1) (N:=some 41) (v:=?_) (a':=?_) #[true,true,false,false,false,false,false,false,false,false,false,false,false,false,false,false,false,false,false,false,false,false,false,false,false,false] rfl rfl (any_of HT_.out (by kernel_rfl)) (fun _ _ _ h=>h) (Or.inl ⟨by rfl,?_⟩) ?_ ?_
              rotate_left
              ·
               intro w';go_simp
               with_reducible rfl
              rotate_left
              · simp only[Act.put,List.setIfInBounds_toArray,List.set_cons_zero,List.set_cons_succ,i64_w,i32_w];rfl
              refine pure_ (i:=2) (N:=some 42) (v:=?_) (a':=?_) #[true,true,true,false,false,false,false,false,false,false,false,false,false,false,false,false,false,false,false,false,false,false,false,false,false,false] rfl rfl (any_of HT_.out (by kernel_rfl)) (fun _ _ _ h=>h) (Or.inl ⟨by rfl,?_⟩) ?_ ?_
              rotate_left
              ·
               intro w';go_simp
               with_reducible rfl
              rotate_left
              · simp only[Act.put,List.setIfInBounds_toArray,List.set_cons_zero,List.set_cons_succ,i64_w,i32_w];rfl
              refine pure_ (i:=4) (N:=some 44) (v:=?_) (a':=?_) #[true,true,true,false,true,false,false,false,false,false,false,false,false,false,false,false,false,false,false,false,false,false,false,false,false,false] rfl rfl (any_of HT_.out (by kernel_rfl)) (fun _ _ _ h=>h) (Or.inl ⟨by rfl,?_⟩) ?_ ?_
              rotate_left
              ·
               intro w';go_simp
               with_reducible rfl
              rotate_left
              · simp only[Act.put,List.setIfInBounds_toArray,List.set_cons_zero,List.set_cons_succ,i64_w,i32_w];rfl
              refine pure_ (i:=5) (N:=some 45) (v:=?_) (a':=?_) #[true,true,true,false,true,true,false,false,false,false,false,false,false,false,false,false,false,false,false,false,false,false,false,false,false,false] rfl rfl (any_of HT_.out (by kernel_rfl)) (fun _ _ _ h=>h) (Or.inl ⟨by rfl,?_⟩) ?_ ?_
              rotate_left
              ·
               intro w';go_simp
               with_reducible rfl
              rotate_left
              · simp only[Act.put,List.setIfInBounds_toArray,List.set_cons_zero,List.set_cons_succ,i64_w,i32_w];rfl
              refine pure_ (i:=6) (N:=some 46) (v:=?_) (a':=?_) #[true,true,true,false,true,true,true,false,false,false,false,false,false,false,false,false,false,false,false,false,false,false,false,false,false,false] rfl rfl (any_of HT_.out (by kernel_rfl)) (fun _ _ _ h=>h) (Or.inl ⟨by rfl,?_⟩) ?_ ?_
              rotate_left
              ·
               intro w';go_simp
               with_reducible rfl
              rotate_left
              · simp only[Act.put,List.setIfInBounds_toArray,List.set_cons_zero,List.set_cons_succ,i64_w,i32_w];rfl
              refine take_ (i:=3) (N:=some 43) (v:=?_) (a':=?_) #[true,true,true,true,true,true,true,false,false,false,false,false,false,false,false,false,false,false,false,false,false,false,false,false,false,false] rfl rfl (take_ofW HT_.out HW_.out (by kernel_rfl)) (fun _ _ _ h=>h) (Or.inl ⟨by rfl,?_⟩) hHeld ?_ ?_
              rotate_left
              ·
               rintro w' ⟨s0,s1,s2,s3⟩;go_simp
               with_reducible rfl
              rotate_left
              · simp only[Act.put,List.setIfInBounds_toArray,List.set_cons_zero,List.set_cons_succ,i64_w,i32_w];rfl
              refine pure_ (i:=7) (N:=some 47) (v:=?_) (a':=?_) #[true,true,true,true,true,true,true,true,false,false,false,false,false,false,false,false,false,false,false,false,false,false,false,false,false,false] rfl rfl (any_of HT_.out (by kernel_rfl)) (fun _ _ _ h=>h) (Or.inl ⟨by rfl,?_⟩) ?_ ?_
              rotate_left
              ·
               intro w';go_simp
               with_reducible rfl
              rotate_left
              · simp only[Act.put,List.setIfInBounds_toArray,List.set_cons_zero,List.set_cons_succ,i64_w,i32_w];rfl
              refine pure_ (i:=8) (N:=some 48) (v:=?_) (a':=?_) #[true,true,true,true,true,true,true,true,true,false,false,false,false,false,false,false,false,false,false,false,false,false,false,false,false,false] rfl rfl (any_of HT_.out (by kernel_rfl)) (fun _ _ _ h=>h) (Or.inl ⟨by rfl,?_⟩) ?_ ?_
              rotate_left
              ·
               intro w';go_simp
               with_reducible rfl
              rotate_left
              · simp only[Act.put,List.setIfInBounds_toArray,List.set_cons_zero,List.set_cons_succ,i64_w,i32_w];rfl
              refine pure_ (i:=9) (N:=some 49) (v:=?_) (a':=?_) #[true,true,true,true,true,true,true,true,true,true,false,false,false,false,false,false,false,false,false,false,false,false,false,false,false,false] rfl rfl (any_of HT_.out (by kernel_rfl)) (fun _ _ _ h=>h) (Or.inl ⟨by rfl,?_⟩) ?_ ?_
              rotate_left
              ·
               intro w';go_simp
               with_reducible rfl
              rotate_left
              · simp only[Act.put,List.setIfInBounds_toArray,List.set_cons_zero,List.set_cons_succ,i64_w,i32_w];rfl
              refine pure_ (i:=10) (N:=some 50) (v:=?_) (a':=?_) #[true,true,true,true,true,true,true,true,true,true,true,false,false,false,false,false,false,false,false,false,false,false,false,false,false,false] rfl rfl (any_of HT_.out (by kernel_rfl)) (fun _ _ _ h=>h) (Or.inl ⟨by rfl,?_⟩) ?_ ?_
              rotate_left
              ·
               intro w';go_simp
               with_reducible rfl
              rotate_left
              · simp only[Act.put,List.setIfInBounds_toArray,List.set_cons_zero,List.set_cons_succ,i64_w,i32_w];rfl
              refine pure_ (i:=11) (N:=some 51) (v:=?_) (a':=?_) #[true,true,true,true,true,true,true,true,true,true,true,true,false,false,false,false,false,false,false,false,false,false,false,false,false,false] rfl rfl (any_of HT_.out (by kernel_rfl)) (fun _ _ _ h=>h) (Or.inl ⟨by rfl,?_⟩) ?_ ?_
              rotate_left
              ·
               intro w';go_simp
               with_reducible rfl
              rotate_left
              · simp only[Act.put,List.setIfInBounds_toArray,List.set_cons_zero,List.set_cons_succ,i64_w,i32_w];rfl
              refine pure_ (i:=13) (N:=some 53) (v:=?_) (a':=?_) #[true,true,true,true,true,true,true,true,true,true,true,true,false,true,false,false,false,false,false,false,false,false,false,false,false,false] rfl rfl (any_of HT_.out (by kernel_rfl)) (fun _ _ _ h=>h) (Or.inl ⟨by rfl,?_⟩) ?_ ?_
              rotate_left
              ·
               intro w';go_simp
               with_reducible rfl
              rotate_left
              · simp only[Act.put,List.setIfInBounds_toArray,List.set_cons_zero,List.set_cons_succ,i64_w,i32_w];rfl
              refine pure_ (i:=14) (N:=some 54) (v:=?_) (a':=?_) #[true,true,true,true,true,true,true,true,true,true,true,true,false,true,true,false,false,false,false,false,false,false,false,false,false,false] rfl rfl (any_of HT_.out (by kernel_rfl)) (fun _ _ _ h=>h) (Or.inl ⟨by rfl,?_⟩) ?_ ?_
              rotate_left
              ·
               intro w';go_simp
               with_reducible rfl
              rotate_left
              · simp only[Act.put,List.setIfInBounds_toArray,List.set_cons_zero,List.set_cons_succ,i64_w,i32_w];rfl
              refine pure_ (i:=15) (N:=some 55) (v:=?_) (a':=?_) #[true,true,true,true,true,true,true,true,true,true,true,true,false,true,true,true,false,false,false,false,false,false,false,false,false,false] rfl rfl (any_of HT_.out (by kernel_rfl)) (fun _ _ _ h=>h) (Or.inl ⟨by rfl,?_⟩) ?_ ?_
              rotate_left
              ·
               intro w';go_simp
               with_reducible rfl
              rotate_left
              · simp only[Act.put,List.setIfInBounds_toArray,List.set_cons_zero,List.set_cons_succ,i64_w,i32_w];rfl
              refine pure_ (i:=21) (N:=some 61) (v:=?_) (a':=?_) #[true,true,true,true,true,true,true,true,true,true,true,true,false,true,true,true,false,false,false,false,false,true,false,false,false,false] rfl rfl (any_of HT_.out (by kernel_rfl)) (fun _ _ _ h=>h) (Or.inl ⟨by rfl,?_⟩) ?_ ?_
              rotate_left
              ·
               intro w';go_simp
               with_reducible rfl
              rotate_left
              · simp only[Act.put,List.setIfInBounds_toArray,List.set_cons_zero,List.set_cons_succ,i64_w,i32_w];rfl
              refine pure_ (i:=22) (N:=some 62) (v:=?_) (a':=?_) #[true,true,true,true,true,true,true,true,true,true,true,true,false,true,true,true,false,false,false,false,false,true,true,false,false,false] rfl rfl (any_of HT_.out (by kernel_rfl)) (fun _ _ _ h=>h) (Or.inl ⟨by rfl,?_⟩) ?_ ?_
              rotate_left
              ·
               intro w';go_simp
               with_reducible rfl
              rotate_left
              · simp only[Act.put,List.setIfInBounds_toArray,List.set_cons_zero,List.set_cons_succ,i64_w,i32_w];rfl
              refine pure_ (i:=23) (N:=some 63) (v:=?_) (a':=?_) #[true,true,true,true,true,true,true,true,true,true,true,true,false,true,true,true,false,false,false,false,false,true,true,true,false,false] rfl rfl (any_of HT_.out (by kernel_rfl)) (fun _ _ _ h=>h) (Or.inl ⟨by rfl,?_⟩) ?_ ?_
              rotate_left
              ·
               intro w';go_simp
               with_reducible rfl
              rotate_left
              · simp only[Act.put,List.setIfInBounds_toArray,List.set_cons_zero,List.set_cons_succ,i64_w,i32_w];rfl
              refine take_ (i:=12) (N:=some 52) (v:=?_) (a':=?_) #[true,true,true,true,true,true,true,true,true,true,true,true,true,true,true,true,false,false,false,false,false,true,true,true,false,false] rfl rfl (take_ofW HT_.out HW_.out (by kernel_rfl)) (fun _ _ _ h=>h) (Or.inl ⟨by rfl,?_⟩) hHeld ?_ ?_
              rotate_left
              ·
               rintro w' ⟨s0,s1,s2,s3⟩;go_simp
               with_reducible rfl
              rotate_left
              · simp only[Act.put,List.setIfInBounds_toArray,List.set_cons_zero,List.set_cons_succ,i64_w,i32_w];rfl
              refine take_ (i:=16) (N:=some 56) (v:=?_) (a':=?_) #[true,true,true,true,true,true,true,true,true,true,true,true,true,true,true,true,true,false,false,false,false,true,true,true,false,false] rfl rfl (take_ofW HT_.out HW_.out (by kernel_rfl)) (fun _ _ _ h=>h) (Or.inl ⟨by rfl,?_⟩) hHeld ?_ ?_
              rotate_left
              ·
               rintro w' ⟨s0,s1,s2,s3⟩;go_simp
               with_reducible rfl
              rotate_left
              · simp only[Act.put,List.setIfInBounds_toArray,List.set_cons_zero,List.set_cons_succ,i64_w,i32_w];rfl
              refine pure_ (i:=17) (N:=some 57) (v:=?_) (a':=?_) #[true,true,true,true,true,true,true,true,true,true,true,true,true,true,true,true,true,true,false,false,false,true,true,true,false,false] rfl rfl (any_of HT_.out (by kernel_rfl)) (fun _ _ _ h=>h) (Or.inl ⟨by rfl,?_⟩) ?_ ?_
              rotate_left
              ·
               intro w';go_simp
               with_reducible rfl
              rotate_left
              · simp only[Act.put,List.setIfInBounds_toArray,List.set_cons_zero,List.set_cons_succ,i64_w,i32_w];rfl
              refine pure_ (i:=18) (N:=some 58) (v:=?_) (a':=?_) #[true,true,true,true,true,true,true,true,true,true,true,true,true,true,true,true,true,true,true,false,false,true,true,true,false,false] rfl rfl (any_of HT_.out (by kernel_rfl)) (fun _ _ _ h=>h) (Or.inl ⟨by rfl,?_⟩) ?_ ?_
              rotate_left
              ·
               intro w';go_simp
               with_reducible rfl
              rotate_left
              · simp only[Act.put,List.setIfInBounds_toArray,List.set_cons_zero,List.set_cons_succ,i64_w,i32_w];rfl
              refine pure_ (i:=19) (N:=some 59) (v:=?_) (a':=?_) #[true,true,true,true,true,true,true,true,true,true,true,true,true,true,true,true,true,true,true,true,false,true,true,true,false,false] rfl rfl (any_of HT_.out (by kernel_rfl)) (fun _ _ _ h=>h) (Or.inl ⟨by rfl,?_⟩) ?_ ?_
              rotate_left
              ·
               intro w';go_simp
               with_reducible rfl
              rotate_left
              · simp only[Act.put,List.setIfInBounds_toArray,List.set_cons_zero,List.set_cons_succ,i64_w,i32_w];rfl
              refine take_ (i:=20) (N:=some 60) (v:=?_) (a':=?_) #[true,true,true,true,true,true,true,true,true,true,true,true,true,true,true,true,true,true,true,true,true,true,true,true,false,false] rfl rfl (take_ofW HT_.out HW_.out (by kernel_rfl)) (fun _ _ _ h=>h) (Or.inl ⟨by rfl,?_⟩) hHeld ?_ ?_
              rotate_left
              ·
               rintro w' ⟨s0,s1,s2,s3⟩;go_simp
               with_reducible rfl
              rotate_left
              · simp only[Act.put,List.setIfInBounds_toArray,List.set_cons_zero,List.set_cons_succ,i64_w,i32_w];rfl
              refine pure_ (i:=24) (N:=some 64) (v:=?_) (a':=?_) #[true,true,true,true,true,true,true,true,true,true,true,true,true,true,true,true,true,true,true,true,true,true,true,true,true,false] rfl rfl (any_of HT_.out (by kernel_rfl)) (fun _ _ _ h=>h) (Or.inl ⟨by rfl,?_⟩) ?_ ?_
              rotate_left
              ·
               intro w';go_simp
               with_reducible rfl
              rotate_left
              · simp only[Act.put,List.setIfInBounds_toArray,List.set_cons_zero,List.set_cons_succ,i64_w,i32_w];rfl
              refine pure_ (i:=25) (N:=some 65) (v:=?_) (a':=?_) #[true,true,true,true,true,true,true,true,true,true,true,true,true,true,true,true,true,true,true,true,true,true,true,true,true,true] rfl rfl (any_of HT_.out (by kernel_rfl)) (fun _ _ _ h=>h) (Or.inl ⟨by rfl,?_⟩) ?_ ?_
              rotate_left
              ·
               intro w';go_simp
               with_reducible rfl
              rotate_left
              · simp only[Act.put,List.setIfInBounds_toArray,List.set_cons_zero,List.set_cons_succ,i64_w,i32_w];rfl
              refine done_ (done_of HT_.out (by kernel_rfl)) ?_;try go_wp2
              have n0_:=Aside0.mk (Kd.R_drew HO_8.out);have n1_:=Aside0.mk (Kd.S_drew HO_9.out);have n2_:=Aside0.mk (Kd.R_drew HL194_0.out);have n3_:=Aside0.mk (Kd.R_drew HL195_0.out);have n4_:=Aside0.mk (Kd.C_drew HR194_0.out);have n5_:=Aside0.mk (Kd.C_drew HR195_0.out);have n6_:=Aside0.mk (below_drew1 HB.out);clear HO_8;clear HO_9;clear HL194_0;clear HL195_0;clear HR194_0;clear HR195_0;clear HB;have HO_8:=n0_;have HO_9:=n1_;have HL194_0:=n2_;have HL195_0:=n3_;have HR194_0:=n4_;have HR195_0:=n5_;have HB:=n6_;clear n0_ n1_ n2_ n3_ n4_ n5_ n6_;have p197:0<=(x10_2:Int):=of_decide_eq_true (by assumption);have q197:x10_2 < (t188.length:Int):=of_decide_eq_true (by assumption);obtain⟨ad197,A197_0,c197_0,e197,hx197_0,hl197_0,hi197_0⟩:=at_L1 (Kd.S_reads' HO_9.out).2.2 x10_2 p197 q197;obtain rfl:ad194=ad197:=(by injection e197)
              obtain⟨ce197,hce197,hMe197,hcc197⟩:=Kd.S_get HO_9.out [] x10_2 p197 (by first | exact q197 | exact of_decide_eq_true (by assumption) | (have e_:=(Kd.S_reads' HO_9.out).1; omega));obtain⟨ve197_0,rfl,ge197_0⟩:=hMe197;have hv197_0:=hcc197 0 _ rfl;rw[Nat.add_zero,show((Kd.slice 3 (Kd.int .i64))).sz=1 from rfl,Nat.mul_one]at hv197_0
              replace hv197_0:=Option.some.inj (hv197_0.symm.trans hx197_0)
              rw[hv197_0]at ge197_0;have HL197_0:=Aside0.mk (show Kd.R (Kd.int .i64) 3 _ _ _ _ (rd_L1 t188 x10_2) from ge197_0);clear hv197_0 ge197_0;clear hcc197 hce197;have HR197_0:=Aside0.mk hi197_0;have HC197_0:=Aside0.mk hl197_0;clear hi197_0 hl197_0
              replace p197:=eq_true p197
              replace q197:=eq_true q197
              refine start_ (n:=12) (S:=fun w'=>w'.cell? (ad194.add (x10_2).toNat)=some (.slice A197_0 (rd_L1 t188 x10_2).length c197_0)) (ds:=[]) #[false,false,false,false,false,false,false,false,false,false,false,false] (by kernel_rfl) rfl rfl (hx197_0) (fun hHeld=>?_); refine with_tabW remouldref07_Work.tab9 remouldref07_Work.bits9 (fun HT_ HW_=>?_);generalize w23.drew=w25 at HO_8 HO_9 HL194_0 HL195_0 HR194_0 HR195_0 HB HL197_0 HR197_0 hx197_0 hHeld ⊢;refine pure_ (i:=0) (N:=some 66) (v:=?_) (a':=?_) #[true,false,false,false,false,false,false,false,false,false,false,false] rfl rfl (any_of HT_.out (by kernel_rfl)) (fun _ _ _ h=>h) (Or.inl ⟨by rfl,?_⟩) ?_ ?_
              rotate_left
              ·
               intro w';go_simp
               with_reducible rfl
              rotate_left
              · simp only[Act.put,List.setIfInBounds_toArray,List.set_cons_zero,List.set_cons_succ,i64_w,i32_w];rfl
              refine pure_ (i:=1) (N:=some 67) (v:=?_) (a':=?_) #[true,true,false,false,false,false,false,false,false,false,false,false] rfl rfl (any_of HT_.out (by kernel_rfl)) (fun _ _ _ h=>h) (Or.inl ⟨by rfl,?_⟩) ?_ ?_
              rotate_left
              ·
               intro w';go_simp
               with_reducible rfl
              rotate_left
              · simp only[Act.put,List.setIfInBounds_toArray,List.set_cons_zero,List.set_cons_succ,i64_w,i32_w];rfl
              refine pure_ (i:=2) (N:=some 68) (v:=?_) (a':=?_) #[true,true,true,false,false,false,false,false,false,false,false,false] rfl rfl (any_of HT_.out (by kernel_rfl)) (fun _ _ _ h=>h) (Or.inl ⟨by rfl,?_⟩) ?_ ?_
              rotate_left
              ·
               intro w';go_simp
               with_reducible rfl
              rotate_left
              · simp only[Act.put,List.setIfInBounds_toArray,List.set_cons_zero,List.set_cons_succ,i64_w,i32_w];rfl
              refine pure_ (i:=4) (N:=some 70) (v:=?_) (a':=?_) #[true,true,true,false,true,false,false,false,false,false,false,false] rfl rfl (any_of HT_.out (by kernel_rfl)) (fun _ _ _ h=>h) (Or.inl ⟨by rfl,?_⟩) ?_ ?_
              rotate_left
              ·
               intro w';go_simp
               with_reducible rfl
              rotate_left
              · simp only[Act.put,List.setIfInBounds_toArray,List.set_cons_zero,List.set_cons_succ,i64_w,i32_w];rfl
              refine pure_ (i:=5) (N:=some 71) (v:=?_) (a':=?_) #[true,true,true,false,true,true,false,false,false,false,false,false] rfl rfl (any_of HT_.out (by kernel_rfl)) (fun _ _ _ h=>h) (Or.inl ⟨by rfl,?_⟩) ?_ ?_
              rotate_left
              ·
               intro w';go_simp
               with_reducible rfl
              rotate_left
              · simp only[Act.put,List.setIfInBounds_toArray,List.set_cons_zero,List.set_cons_succ,i64_w,i32_w];rfl
              refine pure_ (i:=6) (N:=some 72) (v:=?_) (a':=?_) #[true,true,true,false,true,true,true,false,false,false,false,false] rfl rfl (any_of HT_.out (by kernel_rfl)) (fun _ _ _ h=>h) (Or.inl ⟨by rfl,?_⟩) ?_ ?_
              rotate_left
              ·
               intro w';go_simp
               with_reducible rfl
              rotate_left
              · simp only[Act.put,List.setIfInBounds_toArray,List.set_cons_zero,List.set_cons_succ,i64_w,i32_w];rfl
              refine pure_ (i:=7) (N:=some 73) (v:=?_) (a':=?_) #[true,true,true,false,true,true,true,true,false,false,false,false] rfl rfl (any_of HT_.out (by kernel_rfl)) (fun _ _ _ h=>h) (Or.inl ⟨by rfl,?_⟩) ?_ ?_
              rotate_left
              ·
               intro w';go_simp
               with_reducible rfl
              rotate_left
              · simp only[Act.put,List.setIfInBounds_toArray,List.set_cons_zero,List.set_cons_succ,i64_w,i32_w];rfl
              refine pure_ (i:=8) (N:=some 74) (v:=?_) (a':=?_) #[true,true,true,false,true,true,true,true,true,false,false,false] rfl rfl (any_of HT_.out (by kernel_rfl)) (fun _ _ _ h=>h) (Or.inl ⟨by rfl,?_⟩) ?_ ?_
              rotate_left
              ·
               intro w';go_simp
               with_reducible rfl
              rotate_left
              · simp only[Act.put,List.setIfInBounds_toArray,List.set_cons_zero,List.set_cons_succ,i64_w,i32_w];rfl
              refine take_ (i:=3) (N:=some 69) (v:=?_) (a':=?_) #[true,true,true,true,true,true,true,true,true,false,false,false] rfl rfl (take_ofW HT_.out HW_.out (by kernel_rfl)) (fun _ _ _ h=>h) (Or.inl ⟨by rfl,?_⟩) hHeld ?_ ?_
              rotate_left
              ·
               intro w' s0;go_simp
               with_reducible rfl
              rotate_left
              · simp only[Act.put,List.setIfInBounds_toArray,List.set_cons_zero,List.set_cons_succ,i64_w,i32_w];rfl
              refine one_ (i:=9) (N:=some 75) #[true,true,true,true,true,true,true,true,true,true,false,false] rfl rfl (one_of HT_.out (by kernel_rfl)) (by decide) (fun K hK=>?_);refine goes_ Tryz.func34 (by kernel_rfl) rfl #[.slice A197_0 (rd_L1 t188 x10_2).length c197_0,.int .i64 (wrap64 (a1-1)),.int .i64 (Int.tmod a2 t186)] (by rfl) rfl rfl (by(try simp only[List.map_toArray,List.map_cons,List.map_nil]); first | done | rfl | (simp only[List.length_drop,List.length_take]; rfl)) ?_
              with_reducible refine(ih k2 (by have:=HJ3.out; have:=HK2.out; omega) _ _ (rd_L1 t188 x10_2) (wrap64 (a1-1)) (Int.tmod a2 t186) t198 _ ?side1 ?side2 A21.out).mono ?_
              (case side1=>repeat (first | exact(by repeat (first | (with_reducible exact HR197_0.out) | (with_reducible refine Kd.C_alloc ?_ _) | (with_reducible refine Kd.C_drewN ?_ _) | (with_reducible refine Kd.C_drew ?_) | exact HR197_0.out)) | (with_reducible refine Kd.C_alloc ?_ _) | (with_reducible refine Kd.C_drewN ?_ _) | (with_reducible refine Kd.C_drew ?_)))
              (case side2=>exact HC197_0.out)
              rintro e w26 ⟨rfl,hb⟩;have HS0_:=(hb.cell (World.block_lt_of_cell? _ _ (hHeld))).trans (hHeld);refine⟨_,rfl,?_⟩;have n0_:=Aside0.mk (Kd.R_below (by(with_reducible repeat (first | apply Kd.R_alloc | apply Kd.R_drewN | apply Kd.R_drew)); exact HO_8.out) hb);have n1_:=Aside0.mk (Kd.S_below (by(with_reducible repeat (first | apply Kd.S_alloc | apply Kd.S_drewN | apply Kd.S_drew)); exact HO_9.out) hb);have n2_:=Aside0.mk (Kd.R_below (by(with_reducible repeat (first | apply Kd.R_alloc | apply Kd.R_drewN | apply Kd.R_drew)); exact HL194_0.out) hb);have n3_:=Aside0.mk (Kd.R_below (by(with_reducible repeat (first | apply Kd.R_alloc | apply Kd.R_drewN | apply Kd.R_drew)); exact HL195_0.out) hb);have n4_:=Aside0.mk (Kd.R_below (by(with_reducible repeat (first | apply Kd.R_alloc | apply Kd.R_drewN | apply Kd.R_drew)); exact HL197_0.out) hb);have n5_:=Aside0.mk (Kd.C_below (by repeat (first | (with_reducible exact HR194_0.out) | (with_reducible refine Kd.C_alloc ?_ _) | (with_reducible refine Kd.C_drewN ?_ _) | (with_reducible refine Kd.C_drew ?_) | exact HR194_0.out)) hb);have n6_:=Aside0.mk (Kd.C_below (by repeat (first | (with_reducible exact HR195_0.out) | (with_reducible refine Kd.C_alloc ?_ _) | (with_reducible refine Kd.C_drewN ?_ _) | (with_reducible refine Kd.C_drew ?_) | exact HR195_0.out)) hb);have n7_:=Aside0.mk (Kd.C_below (by repeat (first | (with_reducible exact HR197_0.out) | (with_reducible refine Kd.C_alloc ?_ _) | (with_reducible refine Kd.C_drewN ?_ _) | (with_reducible refine Kd.C_drew ?_) | exact HR197_0.out)) hb);have n8_:=Aside0.mk (below_step (by repeat (first | (with_reducible first | exact HB.out | apply below_alloc | apply pw_below_drewN | apply below_drew1) | exact HB.out)) hb);clear HO_8;clear HO_9;clear HL194_0;clear HL195_0;clear HL197_0;clear HR194_0;clear HR195_0;clear HR197_0;clear HB;have HO_8:=n0_;have HO_9:=n1_;have HL194_0:=n2_;have HL195_0:=n3_;have HL197_0:=n4_;have HR194_0:=n5_;have HR195_0:=n6_;have HR197_0:=n7_;have HB:=n8_;clear n0_ n1_ n2_ n3_ n4_ n5_ n6_ n7_ n8_
              (try clear hb)
              (try clear hb2)
              (try clear hk)
              (try clear hi)
              refine hK.out _ _ (HS0_) (fun hHeld=>?_);clear hK K;refine norm_ (a':=?_) ?_ ?_
              rotate_left
              · show Act.put _ (some 75) _=_;simp only[Act.put,List.setIfInBounds_toArray,List.set_cons_zero,List.set_cons_succ,i64_w,i32_w];rfl
              refine pure_ (i:=10) (N:=some 76) (v:=?_) (a':=?_) #[true,true,true,true,true,true,true,true,true,true,true,false] rfl rfl (any_of HT_.out (by kernel_rfl)) (fun _ _ _ h=>h) (Or.inl ⟨by rfl,?_⟩) ?_ ?_
              rotate_left
              ·
               intro w';go_simp
               with_reducible rfl
              rotate_left
              · simp only[Act.put,List.setIfInBounds_toArray,List.set_cons_zero,List.set_cons_succ,i64_w,i32_w];rfl
              refine pure_ (i:=11) (N:=some 6) (v:=?_) (a':=?_) #[true,true,true,true,true,true,true,true,true,true,true,true] rfl rfl (any_of HT_.out (by kernel_rfl)) (fun _ _ _ h=>h) (Or.inl ⟨by rfl,?_⟩) ?_ ?_
              rotate_left
              ·
               intro w';go_simp
               with_reducible rfl
              rotate_left
              · simp only[Act.put,List.setIfInBounds_toArray,List.set_cons_zero,List.set_cons_succ,i64_w,i32_w];rfl
              refine done_ (done_of HT_.out (by kernel_rfl)) ?_;try go_wp2
              go_ret
              exact⟨by first | rfl | (simp[errW_none,errW_some] <;> rfl) | (simp only[<-hji17]; first | rfl | (simp[errW_none,errW_some] <;> rfl)) | (simp[*,errW_none,errW_some] <;> rfl),by repeat (first | (with_reducible first | exact HB.out | apply below_alloc | apply pw_below_drewN | apply below_drew1) | exact HB.out)⟩
             ·
              rw[if_neg c20]at H;have c20b0:decide ((Int.tmod a2 t186) < (rd (rd_L1 t188 x10_2) (ji17)))=false:=decide_eq_false c20;clear c20;have H':=Aside0.mk H;clear H;obtain⟨Ao27,co27,eo27⟩:=Kd.R_slice HO_8.out;subst eo27;try go_wp2
              have n0_:=Aside0.mk (Kd.R_drew HO_8.out);have n1_:=Aside0.mk (Kd.S_drew HO_9.out);have n2_:=Aside0.mk (below_drew1 HB.out);clear HO_8;clear HO_9;clear HB;have HO_8:=n0_;have HO_9:=n1_;have HB:=n2_;clear n0_ n1_ n2_;have p193:0<=(x10_2:Int):=of_decide_eq_true (by assumption);have q193:x10_2 < (t187.length:Int):=of_decide_eq_true (by assumption);obtain⟨ad193,e193,hx193_0⟩:=Kd.at_int (Kd.R_reads' HO_8.out).2.2 x10_2 p193 q193;cases e193
              replace p193:=eq_true p193
              replace q193:=eq_true q193
              obtain⟨Ao29,co29,eo29⟩:=Kd.S_slice HO_9.out
              (first | subst eo29 | (injection eo29 with f1_ f2_ f3_; have f4_:=f1_.symm; have f5_:=f3_.symm; clear f1_ f2_ f3_; subst f4_; subst f5_))
              have p194:0<=(x10_2:Int):=of_decide_eq_true (by assumption);have q194:x10_2 < (t188.length:Int):=of_decide_eq_true (by assumption);obtain⟨ad194,A194_0,c194_0,e194,hx194_0,hl194_0,hi194_0⟩:=at_L1 (Kd.S_reads' HO_9.out).2.2 x10_2 p194 q194;cases e194;obtain⟨ce194,hce194,hMe194,hcc194⟩:=Kd.S_get HO_9.out [] x10_2 p194 (by first | exact q194 | exact of_decide_eq_true (by assumption) | (have e_:=(Kd.S_reads' HO_9.out).1; omega));obtain⟨ve194_0,rfl,ge194_0⟩:=hMe194;have hv194_0:=hcc194 0 _ rfl;rw[Nat.add_zero,show((Kd.slice 3 (Kd.int .i64))).sz=1 from rfl,Nat.mul_one]at hv194_0
              replace hv194_0:=Option.some.inj (hv194_0.symm.trans hx194_0)
              rw[hv194_0]at ge194_0;have HL194_0:=Aside0.mk (show Kd.R (Kd.int .i64) 3 _ _ _ _ (rd_L1 t188 x10_2) from ge194_0);clear hv194_0 ge194_0;clear hcc194 hce194;have HR194_0:=Aside0.mk hi194_0;have HC194_0:=Aside0.mk hl194_0;clear hi194_0 hl194_0
              replace p194:=eq_true p194
              replace q194:=eq_true q194
              have p195:0<=(x10_2:Int):=of_decide_eq_true (by assumption);have q195:x10_2 < (t188.length:Int):=of_decide_eq_true (by assumption);obtain⟨ad195,A195_0,c195_0,e195,hx195_0,hl195_0,hi195_0⟩:=at_L1 (Kd.S_reads' HO_9.out).2.2 x10_2 p195 q195;obtain rfl:ad194=ad195:=(by injection e195)
              obtain⟨ce195,hce195,hMe195,hcc195⟩:=Kd.S_get HO_9.out [] x10_2 p195 (by first | exact q195 | exact of_decide_eq_true (by assumption) | (have e_:=(Kd.S_reads' HO_9.out).1; omega));obtain⟨ve195_0,rfl,ge195_0⟩:=hMe195;have hv195_0:=hcc195 0 _ rfl;rw[Nat.add_zero,show((Kd.slice 3 (Kd.int .i64))).sz=1 from rfl,Nat.mul_one]at hv195_0
              replace hv195_0:=Option.some.inj (hv195_0.symm.trans hx195_0)
              rw[hv195_0]at ge195_0;have HL195_0:=Aside0.mk (show Kd.R (Kd.int .i64) 3 _ _ _ _ (rd_L1 t188 x10_2) from ge195_0);clear hv195_0 ge195_0;clear hcc195 hce195;have HR195_0:=Aside0.mk hi195_0;have HC195_0:=Aside0.mk hl195_0;clear hi195_0 hl195_0
              replace p195:=eq_true p195
              replace q195:=eq_true q195
              have ea_:=Option.some.inj (hx194_0.symm.trans hx195_0);injection ea_ with ea_ en_ ec_;subst ea_;subst ec_;clear en_;have p196:0<=((ji17):Int):=of_decide_eq_true (by assumption);have q196:(ji17) < ((rd_L1 t188 x10_2).length:Int):=of_decide_eq_true (by assumption);obtain⟨ad196,e196,hx196_0⟩:=Kd.at_int (by repeat (first | (with_reducible exact HR194_0.out) | (with_reducible refine Kd.C_alloc ?_ _) | (with_reducible refine Kd.C_drewN ?_ _) | (with_reducible refine Kd.C_drew ?_) | exact HR194_0.out)) (ji17) p196 q196;cases e196
              replace p196:=eq_true p196
              replace q196:=eq_true q196
              refine start_ (n:=26) (S:=fun w'=>w'.cell? (ad193.add (x10_2).toNat)=some (.int .i64 (rd t187 x10_2))/\w'.cell? (ad194.add (x10_2).toNat)=some (.slice (some ad196) (rd_L1 t188 x10_2).length c194_0)/\w'.cell? (ad194.add (x10_2).toNat)=some (.slice (some ad196) (rd_L1 t188 x10_2).length c194_0)/\w'.cell? (ad196.add ((ji17)).toNat)=some (.int .i64 (rd (rd_L1 t188 x10_2) (ji17)))) (ds:=[]) #[false,false,false,false,false,false,false,false,false,false,false,false,false,false,false,false,false,false,false,false,false,false,false,false,false,false] (by kernel_rfl) rfl rfl ⟨hx193_0,hx194_0,hx195_0,hx196_0⟩ (fun hHeld=>?_); refine with_tabW remouldref07_Work.tab8 remouldref07_Work.bits8 (fun HT_ HW_=>?_);generalize wr.drew=w28 at HO_8 HO_9 HB HL194_0 HL195_0 HR194_0 HR195_0 hx193_0 hx194_0 hx195_0 hx196_0 hHeld ⊢;refine pure_ (i:=0) (N:=some 40) (v:=?_) (a':=?_) #[true,false,false,false,false,false,false,false,false,false,false,false,false,false,false,false,false,false,false,false,false,false,false,false,false,false] rfl rfl (any_of HT_.out (by kernel_rfl)) (fun _ _ _ h=>h) (Or.inl ⟨by rfl,?_⟩) ?_ ?_
              rotate_left
              ·
               intro w';go_simp
               with_reducible rfl
              rotate_left
              · simp only[Act.put,List.setIfInBounds_toArray,List.set_cons_zero,List.set_cons_succ,i64_w,i32_w];rfl
              refine pure_ (i:=1) (N:=some 41) (v:=?_) (a':=?_) #[true,true,false,false,false,false,false,false,false,false,false,false,false,false,false,false,false,false,false,false,false,false,false,false,false,false] rfl rfl (any_of HT_.out (by kernel_rfl)) (fun _ _ _ h=>h) (Or.inl ⟨by rfl,?_⟩) ?_ ?_
              rotate_left
              ·
               intro w';go_simp
               with_reducible rfl
              rotate_left
              · simp only[Act.put,List.setIfInBounds_toArray,List.set_cons_zero,List.set_cons_succ,i64_w,i32_w];rfl
              refine pure_ (i:=2) (N:=some 42) (v:=?_) (a':=?_) #[true,true,true,false,false,false,false,false,false,false,false,false,false,false,false,false,false,false,false,false,false,false,false,false,false,false] rfl rfl (any_of HT_.out (by kernel_rfl)) (fun _ _ _ h=>h) (Or.inl ⟨by rfl,?_⟩) ?_ ?_
              rotate_left
              ·
               intro w';go_simp
               with_reducible rfl
              rotate_left
              · simp only[Act.put,List.setIfInBounds_toArray,List.set_cons_zero,List.set_cons_succ,i64_w,i32_w];rfl
              refine pure_ (i:=4) (N:=some 44) (v:=?_) (a':=?_) #[true,true,true,false,true,false,false,false,false,false,false,false,false,false,false,false,false,false,false,false,false,false,false,false,false,false] rfl rfl (any_of HT_.out (by kernel_rfl)) (fun _ _ _ h=>h) (Or.inl ⟨by rfl,?_⟩) ?_ ?_
              rotate_left
              ·
               intro w';go_simp
               with_reducible rfl
              rotate_left
              · simp only[Act.put,List.setIfInBounds_toArray,List.set_cons_zero,List.set_cons_succ,i64_w,i32_w];rfl
              refine pure_ (i:=5) (N:=some 45) (v:=?_) (a':=?_) #[true,true,true,false,true,true,false,false,false,false,false,false,false,false,false,false,false,false,false,false,false,false,false,false,false,false] rfl rfl (any_of HT_.out (by kernel_rfl)) (fun _ _ _ h=>h) (Or.inl ⟨by rfl,?_⟩) ?_ ?_
              rotate_left
              ·
               intro w';go_simp
               with_reducible rfl
              rotate_left
              · simp only[Act.put,List.setIfInBounds_toArray,List.set_cons_zero,List.set_cons_succ,i64_w,i32_w];rfl
              refine pure_ (i:=6) (N:=some 46) (v:=?_) (a':=?_) #[true,true,true,false,true,true,true,false,false,false,false,false,false,false,false,false,false,false,false,false,false,false,false,false,false,false] rfl rfl (any_of HT_.out (by kernel_rfl)) (fun _ _ _ h=>h) (Or.inl ⟨by rfl,?_⟩) ?_ ?_
              rotate_left
              ·
               intro w';go_simp
               with_reducible rfl
              rotate_left
              · simp only[Act.put,List.setIfInBounds_toArray,List.set_cons_zero,List.set_cons_succ,i64_w,i32_w];rfl
              refine take_ (i:=3) (N:=some 43) (v:=?_) (a':=?_) #[true,true,true,true,true,true,true,false,false,false,false,false,false,false,false,false,false,false,false,false,false,false,false,false,false,false] rfl rfl (take_ofW HT_.out HW_.out (by kernel_rfl)) (fun _ _ _ h=>h) (Or.inl ⟨by rfl,?_⟩) hHeld ?_ ?_
              rotate_left
              ·
               rintro w' ⟨s0,s1,s2,s3⟩;go_simp
               with_reducible rfl
              rotate_left
              · simp only[Act.put,List.setIfInBounds_toArray,List.set_cons_zero,List.set_cons_succ,i64_w,i32_w];rfl
              refine pure_ (i:=7) (N:=some 47) (v:=?_) (a':=?_) #[true,true,true,true,true,true,true,true,false,false,false,false,false,false,false,false,false,false,false,false,false,false,false,false,false,false] rfl rfl (any_of HT_.out (by kernel_rfl)) (fun _ _ _ h=>h) (Or.inl ⟨by rfl,?_⟩) ?_ ?_
              rotate_left
              ·
               intro w';go_simp
               with_reducible rfl
              rotate_left
              · simp only[Act.put,List.setIfInBounds_toArray,List.set_cons_zero,List.set_cons_succ,i64_w,i32_w];rfl
              refine pure_ (i:=8) (N:=some 48) (v:=?_) (a':=?_) #[true,true,true,true,true,true,true,true,true,false,false,false,false,false,false,false,false,false,false,false,false,false,false,false,false,false] rfl rfl (any_of HT_.out (by kernel_rfl)) (fun _ _ _ h=>h) (Or.inl ⟨by rfl,?_⟩) ?_ ?_
              rotate_left
              ·
               intro w';go_simp
               with_reducible rfl
              rotate_left
              · simp only[Act.put,List.setIfInBounds_toArray,List.set_cons_zero,List.set_cons_succ,i64_w,i32_w];rfl
              refine pure_ (i:=9) (N:=some 49) (v:=?_) (a':=?_) #[true,true,true,true,true,true,true,true,true,true,false,false,false,false,false,false,false,false,false,false,false,false,false,false,false,false] rfl rfl (any_of HT_.out (by kernel_rfl)) (fun _ _ _ h=>h) (Or.inl ⟨by rfl,?_⟩) ?_ ?_
              rotate_left
              ·
               intro w';go_simp
               with_reducible rfl
              rotate_left
              · simp only[Act.put,List.setIfInBounds_toArray,List.set_cons_zero,List.set_cons_succ,i64_w,i32_w];rfl
              refine pure_ (i:=10) (N:=some 50) (v:=?_) (a':=?_) #[true,true,true,true,true,true,true,true,true,true,true,false,false,false,false,false,false,false,false,false,false,false,false,false,false,false] rfl rfl (any_of HT_.out (by kernel_rfl)) (fun _ _ _ h=>h) (Or.inl ⟨by rfl,?_⟩) ?_ ?_
              rotate_left
              ·
               intro w';go_simp
               with_reducible rfl
              rotate_left
              · simp only[Act.put,List.setIfInBounds_toArray,List.set_cons_zero,List.set_cons_succ,i64_w,i32_w];rfl
              refine pure_ (i:=11) (N:=some 51) (v:=?_) (a':=?_) #[true,true,true,true,true,true,true,true,true,true,true,true,false,false,false,false,false,false,false,false,false,false,false,false,false,false] rfl rfl (any_of HT_.out (by kernel_rfl)) (fun _ _ _ h=>h) (Or.inl ⟨by rfl,?_⟩) ?_ ?_
              rotate_left
              ·
               intro w';go_simp
               with_reducible rfl
              rotate_left
              · simp only[Act.put,List.setIfInBounds_toArray,List.set_cons_zero,List.set_cons_succ,i64_w,i32_w];rfl
              refine pure_ (i:=13) (N:=some 53) (v:=?_) (a':=?_) #[true,true,true,true,true,true,true,true,true,true,true,true,false,true,false,false,false,false,false,false,false,false,false,false,false,false] rfl rfl (any_of HT_.out (by kernel_rfl)) (fun _ _ _ h=>h) (Or.inl ⟨by rfl,?_⟩) ?_ ?_
              rotate_left
              ·
               intro w';go_simp
               with_reducible rfl
              rotate_left
              · simp only[Act.put,List.setIfInBounds_toArray,List.set_cons_zero,List.set_cons_succ,i64_w,i32_w];rfl
              refine pure_ (i:=14) (N:=some 54) (v:=?_) (a':=?_) #[true,true,true,true,true,true,true,true,true,true,true,true,false,true,true,false,false,false,false,false,false,false,false,false,false,false] rfl rfl (any_of HT_.out (by kernel_rfl)) (fun _ _ _ h=>h) (Or.inl ⟨by rfl,?_⟩) ?_ ?_
              rotate_left
              ·
               intro w';go_simp
               with_reducible rfl
              rotate_left
              · simp only[Act.put,List.setIfInBounds_toArray,List.set_cons_zero,List.set_cons_succ,i64_w,i32_w];rfl
              refine pure_ (i:=15) (N:=some 55) (v:=?_) (a':=?_) #[true,true,true,true,true,true,true,true,true,true,true,true,false,true,true,true,false,false,false,false,false,false,false,false,false,false] rfl rfl (any_of HT_.out (by kernel_rfl)) (fun _ _ _ h=>h) (Or.inl ⟨by rfl,?_⟩) ?_ ?_
              rotate_left
              ·
               intro w';go_simp
               with_reducible rfl
              rotate_left
              · simp only[Act.put,List.setIfInBounds_toArray,List.set_cons_zero,List.set_cons_succ,i64_w,i32_w];rfl
              refine pure_ (i:=21) (N:=some 61) (v:=?_) (a':=?_) #[true,true,true,true,true,true,true,true,true,true,true,true,false,true,true,true,false,false,false,false,false,true,false,false,false,false] rfl rfl (any_of HT_.out (by kernel_rfl)) (fun _ _ _ h=>h) (Or.inl ⟨by rfl,?_⟩) ?_ ?_
              rotate_left
              ·
               intro w';go_simp
               with_reducible rfl
              rotate_left
              · simp only[Act.put,List.setIfInBounds_toArray,List.set_cons_zero,List.set_cons_succ,i64_w,i32_w];rfl
              refine pure_ (i:=22) (N:=some 62) (v:=?_) (a':=?_) #[true,true,true,true,true,true,true,true,true,true,true,true,false,true,true,true,false,false,false,false,false,true,true,false,false,false] rfl rfl (any_of HT_.out (by kernel_rfl)) (fun _ _ _ h=>h) (Or.inl ⟨by rfl,?_⟩) ?_ ?_
              rotate_left
              ·
               intro w';go_simp
               with_reducible rfl
              rotate_left
              · simp only[Act.put,List.setIfInBounds_toArray,List.set_cons_zero,List.set_cons_succ,i64_w,i32_w];rfl
              refine pure_ (i:=23) (N:=some 63) (v:=?_) (a':=?_) #[true,true,true,true,true,true,true,true,true,true,true,true,false,true,true,true,false,false,false,false,false,true,true,true,false,false] rfl rfl (any_of HT_.out (by kernel_rfl)) (fun _ _ _ h=>h) (Or.inl ⟨by rfl,?_⟩) ?_ ?_
              rotate_left
              ·
               intro w';go_simp
               with_reducible rfl
              rotate_left
              · simp only[Act.put,List.setIfInBounds_toArray,List.set_cons_zero,List.set_cons_succ,i64_w,i32_w];rfl
              refine take_ (i:=12) (N:=some 52) (v:=?_) (a':=?_) #[true,true,true,true,true,true,true,true,true,true,true,true,true,true,true,true,false,false,false,false,false,true,true,true,false,false] rfl rfl (take_ofW HT_.out HW_.out (by kernel_rfl)) (fun _ _ _ h=>h) (Or.inl ⟨by rfl,?_⟩) hHeld ?_ ?_
              rotate_left
              ·
               rintro w' ⟨s0,s1,s2,s3⟩;go_simp
               with_reducible rfl
              rotate_left
              · simp only[Act.put,List.setIfInBounds_toArray,List.set_cons_zero,List.set_cons_succ,i64_w,i32_w];rfl
              refine take_ (i:=16) (N:=some 56) (v:=?_) (a':=?_) #[true,true,true,true,true,true,true,true,true,true,true,true,true,true,true,true,true,false,false,false,false,true,true,true,false,false] rfl rfl (take_ofW HT_.out HW_.out (by kernel_rfl)) (fun _ _ _ h=>h) (Or.inl ⟨by rfl,?_⟩) hHeld ?_ ?_
              rotate_left
              ·
               rintro w' ⟨s0,s1,s2,s3⟩;go_simp
               with_reducible rfl
              rotate_left
              · simp only[Act.put,List.setIfInBounds_toArray,List.set_cons_zero,List.set_cons_succ,i64_w,i32_w];rfl
              refine pure_ (i:=17) (N:=some 57) (v:=?_) (a':=?_) #[true,true,true,true,true,true,true,true,true,true,true,true,true,true,true,true,true,true,false,false,false,true,true,true,false,false] rfl rfl (any_of HT_.out (by kernel_rfl)) (fun _ _ _ h=>h) (Or.inl ⟨by rfl,?_⟩) ?_ ?_
              rotate_left
              ·
               intro w';go_simp
               with_reducible rfl
              rotate_left
              · simp only[Act.put,List.setIfInBounds_toArray,List.set_cons_zero,List.set_cons_succ,i64_w,i32_w];rfl
              refine pure_ (i:=18) (N:=some 58) (v:=?_) (a':=?_) #[true,true,true,true,true,true,true,true,true,true,true,true,true,true,true,true,true,true,true,false,false,true,true,true,false,false] rfl rfl (any_of HT_.out (by kernel_rfl)) (fun _ _ _ h=>h) (Or.inl ⟨by rfl,?_⟩) ?_ ?_
              rotate_left
              ·
               intro w';go_simp
               with_reducible rfl
              rotate_left
              · simp only[Act.put,List.setIfInBounds_toArray,List.set_cons_zero,List.set_cons_succ,i64_w,i32_w];rfl
              refine pure_ (i:=19) (N:=some 59) (v:=?_) (a':=?_) #[true,true,true,true,true,true,true,true,true,true,true,true,true,true,true,true,true,true,true,true,false,true,true,true,false,false] rfl rfl (any_of HT_.out (by kernel_rfl)) (fun _ _ _ h=>h) (Or.inl ⟨by rfl,?_⟩) ?_ ?_
              rotate_left
              ·
               intro w';go_simp
               with_reducible rfl
              rotate_left
              · simp only[Act.put,List.setIfInBounds_toArray,List.set_cons_zero,List.set_cons_succ,i64_w,i32_w];rfl
              refine take_ (i:=20) (N:=some 60) (v:=?_) (a':=?_) #[true,true,true,true,true,true,true,true,true,true,true,true,true,true,true,true,true,true,true,true,true,true,true,true,false,false] rfl rfl (take_ofW HT_.out HW_.out (by kernel_rfl)) (fun _ _ _ h=>h) (Or.inl ⟨by rfl,?_⟩) hHeld ?_ ?_
              rotate_left
              ·
               rintro w' ⟨s0,s1,s2,s3⟩;go_simp
               with_reducible rfl
              rotate_left
              · simp only[Act.put,List.setIfInBounds_toArray,List.set_cons_zero,List.set_cons_succ,i64_w,i32_w];rfl
              refine pure_ (i:=24) (N:=some 64) (v:=?_) (a':=?_) #[true,true,true,true,true,true,true,true,true,true,true,true,true,true,true,true,true,true,true,true,true,true,true,true,true,false] rfl rfl (any_of HT_.out (by kernel_rfl)) (fun _ _ _ h=>h) (Or.inl ⟨by rfl,?_⟩) ?_ ?_
              rotate_left
              ·
               intro w';go_simp
               with_reducible rfl
              rotate_left
              · simp only[Act.put,List.setIfInBounds_toArray,List.set_cons_zero,List.set_cons_succ,i64_w,i32_w];rfl
              refine pure_ (i:=25) (N:=some 65) (v:=?_) (a':=?_) #[true,true,true,true,true,true,true,true,true,true,true,true,true,true,true,true,true,true,true,true,true,true,true,true,true,true] rfl rfl (any_of HT_.out (by kernel_rfl)) (fun _ _ _ h=>h) (Or.inl ⟨by rfl,?_⟩) ?_ ?_
              rotate_left
              ·
               intro w';go_simp
               with_reducible rfl
              rotate_left
              · simp only[Act.put,List.setIfInBounds_toArray,List.set_cons_zero,List.set_cons_succ,i64_w,i32_w];rfl
              refine done_ (done_of HT_.out (by kernel_rfl)) ?_;try go_wp2
              go_roundg k2
              case measure=>have:=HJ3.out; have:=HK2.out; omega
              case rel=>exact⟨(wrap64 (x10_2+1)),(by first | rfl | (simp; done) | (simp[*]; done)),H',⟨by have:=HJ3.out; have:=HK2.out; omega⟩,⟨by(with_reducible repeat (first | apply Kd.R_alloc | apply Kd.R_drewN | apply Kd.R_drew)); exact HO_8.out⟩,⟨by(with_reducible repeat (first | apply Kd.S_alloc | apply Kd.S_drewN | apply Kd.S_drew)); exact HO_9.out⟩,⟨by repeat (first | (with_reducible first | exact HB.out | apply below_alloc | apply pw_below_drewN | apply below_drew1) | exact HB.out)⟩⟩
            · rw[if_neg c19]at H;exact absurd H (by simp)
           · rw[if_neg c18]at H;exact absurd H (by simp)
          · rw[if_neg c16]at H;exact absurd H (by simp)
         ·
          rw[if_neg c15]at H;have c15b0:((rd t187 x10_2) == (wrap64 (Int.tdiv a2 t186)))=false:=beq_eq_false_iff_ne.mpr c15;have c15b1:((rd t187 x10_2) != (wrap64 (Int.tdiv a2 t186)))=true:=bne_iff_ne.mpr c15;have H':=Aside0.mk H;clear H;obtain⟨Ao30,co30,eo30⟩:=Kd.R_slice HO_8.out;subst eo30;try go_wp2
          have n0_:=Aside0.mk (Kd.R_drew HO_8.out);have n1_:=Aside0.mk (Kd.S_drew HO_9.out);have n2_:=Aside0.mk (below_drew1 HB.out);clear HO_8;clear HO_9;clear HB;have HO_8:=n0_;have HO_9:=n1_;have HB:=n2_;clear n0_ n1_ n2_;have p193:0<=(x10_2:Int):=of_decide_eq_true (by assumption);have q193:x10_2 < (t187.length:Int):=of_decide_eq_true (by assumption);obtain⟨ad193,e193,hx193_0⟩:=Kd.at_int (Kd.R_reads' HO_8.out).2.2 x10_2 p193 q193;cases e193
          replace p193:=eq_true p193
          replace q193:=eq_true q193
          refine start_ (n:=26) (S:=fun w'=>w'.cell? (ad193.add (x10_2).toNat)=some (.int .i64 (rd t187 x10_2))) (ds:=[]) #[false,false,false,false,false,false,false,false,false,false,false,false,false,false,false,false,false,false,false,false,false,false,false,false,false,false] (by kernel_rfl) rfl rfl (hx193_0) (fun hHeld=>?_); refine with_tabW remouldref07_Work.tab8 remouldref07_Work.bits8 (fun HT_ HW_=>?_);generalize wr.drew=w31 at HO_8 HO_9 HB hx193_0 hHeld ⊢;refine pure_ (i:=0) (N:=some 40) (v:=?_) (a':=?_) #[true,false,false,false,false,false,false,false,false,false,false,false,false,false,false,false,false,false,false,false,false,false,false,false,false,false] rfl rfl (any_of HT_.out (by kernel_rfl)) (fun _ _ _ h=>h) (Or.inl ⟨by rfl,?_⟩) ?_ ?_
          rotate_left
          ·
           intro w';go_simp
           with_reducible rfl
          rotate_left
          · simp only[Act.put,List.setIfInBounds_toArray,List.set_cons_zero,List.set_cons_succ,i64_w,i32_w];rfl
          refine pure_ (i:=1) (N:=some 41) (v:=?_) (a':=?_) #[true,true,false,false,false,false,false,false,false,false,false,false,false,false,false,false,false,false,false,false,false,false,false,false,false,false] rfl rfl (any_of HT_.out (by kernel_rfl)) (fun _ _ _ h=>h) (Or.inl ⟨by rfl,?_⟩) ?_ ?_
          rotate_left
          ·
           intro w';go_simp
           with_reducible rfl
          rotate_left
          · simp only[Act.put,List.setIfInBounds_toArray,List.set_cons_zero,List.set_cons_succ,i64_w,i32_w];rfl
          refine pure_ (i:=2) (N:=some 42) (v:=?_) (a':=?_) #[true,true,true,false,false,false,false,false,false,false,false,false,false,false,false,false,false,false,false,false,false,false,false,false,false,false] rfl rfl (any_of HT_.out (by kernel_rfl)) (fun _ _ _ h=>h) (Or.inl ⟨by rfl,?_⟩) ?_ ?_
          rotate_left
          ·
           intro w';go_simp
           with_reducible rfl
          rotate_left
          · simp only[Act.put,List.setIfInBounds_toArray,List.set_cons_zero,List.set_cons_succ,i64_w,i32_w];rfl
          refine pure_ (i:=4) (N:=some 44) (v:=?_) (a':=?_) #[true,true,true,false,true,false,false,false,false,false,false,false,false,false,false,false,false,false,false,false,false,false,false,false,false,false] rfl rfl (any_of HT_.out (by kernel_rfl)) (fun _ _ _ h=>h) (Or.inl ⟨by rfl,?_⟩) ?_ ?_
          rotate_left
          ·
           intro w';go_simp
           with_reducible rfl
          rotate_left
          · simp only[Act.put,List.setIfInBounds_toArray,List.set_cons_zero,List.set_cons_succ,i64_w,i32_w];rfl
          refine pure_ (i:=5) (N:=some 45) (v:=?_) (a':=?_) #[true,true,true,false,true,true,false,false,false,false,false,false,false,false,false,false,false,false,false,false,false,false,false,false,false,false] rfl rfl (any_of HT_.out (by kernel_rfl)) (fun _ _ _ h=>h) (Or.inl ⟨by rfl,?_⟩) ?_ ?_
          rotate_left
          ·
           intro w';go_simp
           with_reducible rfl
          rotate_left
          · simp only[Act.put,List.setIfInBounds_toArray,List.set_cons_zero,List.set_cons_succ,i64_w,i32_w];rfl
          refine pure_ (i:=6) (N:=some 46) (v:=?_) (a':=?_) #[true,true,true,false,true,true,true,false,false,false,false,false,false,false,false,false,false,false,false,false,false,false,false,false,false,false] rfl rfl (any_of HT_.out (by kernel_rfl)) (fun _ _ _ h=>h) (Or.inl ⟨by rfl,?_⟩) ?_ ?_
          rotate_left
          ·
           intro w';go_simp
           with_reducible rfl
          rotate_left
          · simp only[Act.put,List.setIfInBounds_toArray,List.set_cons_zero,List.set_cons_succ,i64_w,i32_w];rfl
          refine take_ (i:=3) (N:=some 43) (v:=?_) (a':=?_) #[true,true,true,true,true,true,true,false,false,false,false,false,false,false,false,false,false,false,false,false,false,false,false,false,false,false] rfl rfl (take_ofW HT_.out HW_.out (by kernel_rfl)) (fun _ _ _ h=>h) (Or.inl ⟨by rfl,?_⟩) hHeld ?_ ?_
          rotate_left
          ·
           intro w' s0;go_simp
           with_reducible rfl
          rotate_left
          · simp only[Act.put,List.setIfInBounds_toArray,List.set_cons_zero,List.set_cons_succ,i64_w,i32_w];rfl
          refine pure_ (i:=7) (N:=some 47) (v:=?_) (a':=?_) #[true,true,true,true,true,true,true,true,false,false,false,false,false,false,false,false,false,false,false,false,false,false,false,false,false,false] rfl rfl (any_of HT_.out (by kernel_rfl)) (fun _ _ _ h=>h) (Or.inl ⟨by rfl,?_⟩) ?_ ?_
          rotate_left
          ·
           intro w';go_simp
           with_reducible rfl
          rotate_left
          · simp only[Act.put,List.setIfInBounds_toArray,List.set_cons_zero,List.set_cons_succ,i64_w,i32_w];rfl
          refine pure_ (i:=8) (N:=some 48) (v:=?_) (a':=?_) #[true,true,true,true,true,true,true,true,true,false,false,false,false,false,false,false,false,false,false,false,false,false,false,false,false,false] rfl rfl (any_of HT_.out (by kernel_rfl)) (fun _ _ _ h=>h) (Or.inl ⟨by rfl,?_⟩) ?_ ?_
          rotate_left
          ·
           intro w';go_simp
           with_reducible rfl
          rotate_left
          · simp only[Act.put,List.setIfInBounds_toArray,List.set_cons_zero,List.set_cons_succ,i64_w,i32_w];rfl
          refine pure_ (i:=9) (N:=some 49) (v:=undef) (a':=?_) #[true,true,true,true,true,true,true,true,true,true,false,false,false,false,false,false,false,false,false,false,false,false,false,false,false,false] rfl rfl (any_of HT_.out (by kernel_rfl)) (fun _ _ _ h=>h) (Or.inr ⟨by rfl,rfl⟩) ?_ ?_
          rotate_left
          · simp only[Act.put,List.setIfInBounds_toArray,List.set_cons_zero,List.set_cons_succ,i64_w,i32_w];rfl
          refine pure_ (i:=10) (N:=some 50) (v:=undef) (a':=?_) #[true,true,true,true,true,true,true,true,true,true,true,false,false,false,false,false,false,false,false,false,false,false,false,false,false,false] rfl rfl (any_of HT_.out (by kernel_rfl)) (fun _ _ _ h=>h) (Or.inr ⟨by rfl,rfl⟩) ?_ ?_
          rotate_left
          · simp only[Act.put,List.setIfInBounds_toArray,List.set_cons_zero,List.set_cons_succ,i64_w,i32_w];rfl
          refine pure_ (i:=11) (N:=some 51) (v:=undef) (a':=?_) #[true,true,true,true,true,true,true,true,true,true,true,true,false,false,false,false,false,false,false,false,false,false,false,false,false,false] rfl rfl (any_of HT_.out (by kernel_rfl)) (fun _ _ _ h=>h) (Or.inr ⟨by rfl,rfl⟩) ?_ ?_
          rotate_left
          · simp only[Act.put,List.setIfInBounds_toArray,List.set_cons_zero,List.set_cons_succ,i64_w,i32_w];rfl
          refine pure_ (i:=12) (N:=some 52) (v:=undef) (a':=?_) #[true,true,true,true,true,true,true,true,true,true,true,true,true,false,false,false,false,false,false,false,false,false,false,false,false,false] rfl rfl (any_of HT_.out (by kernel_rfl)) (fun _ _ _ h=>h) (Or.inr ⟨by rfl,rfl⟩) ?_ ?_
          rotate_left
          · simp only[Act.put,List.setIfInBounds_toArray,List.set_cons_zero,List.set_cons_succ,i64_w,i32_w];rfl
          refine pure_ (i:=13) (N:=some 53) (v:=undef) (a':=?_) #[true,true,true,true,true,true,true,true,true,true,true,true,true,true,false,false,false,false,false,false,false,false,false,false,false,false] rfl rfl (any_of HT_.out (by kernel_rfl)) (fun _ _ _ h=>h) (Or.inr ⟨by rfl,rfl⟩) ?_ ?_
          rotate_left
          · simp only[Act.put,List.setIfInBounds_toArray,List.set_cons_zero,List.set_cons_succ,i64_w,i32_w];rfl
          refine pure_ (i:=14) (N:=some 54) (v:=undef) (a':=?_) #[true,true,true,true,true,true,true,true,true,true,true,true,true,true,true,false,false,false,false,false,false,false,false,false,false,false] rfl rfl (any_of HT_.out (by kernel_rfl)) (fun _ _ _ h=>h) (Or.inr ⟨by rfl,rfl⟩) ?_ ?_
          rotate_left
          · simp only[Act.put,List.setIfInBounds_toArray,List.set_cons_zero,List.set_cons_succ,i64_w,i32_w];rfl
          refine pure_ (i:=15) (N:=some 55) (v:=undef) (a':=?_) #[true,true,true,true,true,true,true,true,true,true,true,true,true,true,true,true,false,false,false,false,false,false,false,false,false,false] rfl rfl (any_of HT_.out (by kernel_rfl)) (fun _ _ _ h=>h) (Or.inr ⟨by rfl,rfl⟩) ?_ ?_
          rotate_left
          · simp only[Act.put,List.setIfInBounds_toArray,List.set_cons_zero,List.set_cons_succ,i64_w,i32_w];rfl
          refine pure_ (i:=16) (N:=some 56) (v:=undef) (a':=?_) #[true,true,true,true,true,true,true,true,true,true,true,true,true,true,true,true,true,false,false,false,false,false,false,false,false,false] rfl rfl (any_of HT_.out (by kernel_rfl)) (fun _ _ _ h=>h) (Or.inr ⟨by rfl,rfl⟩) ?_ ?_
          rotate_left
          · simp only[Act.put,List.setIfInBounds_toArray,List.set_cons_zero,List.set_cons_succ,i64_w,i32_w];rfl
          refine pure_ (i:=17) (N:=some 57) (v:=undef) (a':=?_) #[true,true,true,true,true,true,true,true,true,true,true,true,true,true,true,true,true,true,false,false,false,false,false,false,false,false] rfl rfl (any_of HT_.out (by kernel_rfl)) (fun _ _ _ h=>h) (Or.inr ⟨by rfl,rfl⟩) ?_ ?_
          rotate_left
          · simp only[Act.put,List.setIfInBounds_toArray,List.set_cons_zero,List.set_cons_succ,i64_w,i32_w];rfl
          refine pure_ (i:=18) (N:=some 58) (v:=undef) (a':=?_) #[true,true,true,true,true,true,true,true,true,true,true,true,true,true,true,true,true,true,true,false,false,false,false,false,false,false] rfl rfl (any_of HT_.out (by kernel_rfl)) (fun _ _ _ h=>h) (Or.inr ⟨by rfl,rfl⟩) ?_ ?_
          rotate_left
          · simp only[Act.put,List.setIfInBounds_toArray,List.set_cons_zero,List.set_cons_succ,i64_w,i32_w];rfl
          refine pure_ (i:=19) (N:=some 59) (v:=undef) (a':=?_) #[true,true,true,true,true,true,true,true,true,true,true,true,true,true,true,true,true,true,true,true,false,false,false,false,false,false] rfl rfl (any_of HT_.out (by kernel_rfl)) (fun _ _ _ h=>h) (Or.inr ⟨by rfl,rfl⟩) ?_ ?_
          rotate_left
          · simp only[Act.put,List.setIfInBounds_toArray,List.set_cons_zero,List.set_cons_succ,i64_w,i32_w];rfl
          refine pure_ (i:=20) (N:=some 60) (v:=undef) (a':=?_) #[true,true,true,true,true,true,true,true,true,true,true,true,true,true,true,true,true,true,true,true,true,false,false,false,false,false] rfl rfl (any_of HT_.out (by kernel_rfl)) (fun _ _ _ h=>h) (Or.inr ⟨by rfl,rfl⟩) ?_ ?_
          rotate_left
          · simp only[Act.put,List.setIfInBounds_toArray,List.set_cons_zero,List.set_cons_succ,i64_w,i32_w];rfl
          refine pure_ (i:=21) (N:=some 61) (v:=undef) (a':=?_) #[true,true,true,true,true,true,true,true,true,true,true,true,true,true,true,true,true,true,true,true,true,true,false,false,false,false] rfl rfl (any_of HT_.out (by kernel_rfl)) (fun _ _ _ h=>h) (Or.inr ⟨by rfl,rfl⟩) ?_ ?_
          rotate_left
          · simp only[Act.put,List.setIfInBounds_toArray,List.set_cons_zero,List.set_cons_succ,i64_w,i32_w];rfl
          refine pure_ (i:=22) (N:=some 62) (v:=undef) (a':=?_) #[true,true,true,true,true,true,true,true,true,true,true,true,true,true,true,true,true,true,true,true,true,true,true,false,false,false] rfl rfl (any_of HT_.out (by kernel_rfl)) (fun _ _ _ h=>h) (Or.inr ⟨by rfl,rfl⟩) ?_ ?_
          rotate_left
          · simp only[Act.put,List.setIfInBounds_toArray,List.set_cons_zero,List.set_cons_succ,i64_w,i32_w];rfl
          refine pure_ (i:=23) (N:=some 63) (v:=undef) (a':=?_) #[true,true,true,true,true,true,true,true,true,true,true,true,true,true,true,true,true,true,true,true,true,true,true,true,false,false] rfl rfl (any_of HT_.out (by kernel_rfl)) (fun _ _ _ h=>h) (Or.inr ⟨by rfl,rfl⟩) ?_ ?_
          rotate_left
          · simp only[Act.put,List.setIfInBounds_toArray,List.set_cons_zero,List.set_cons_succ,i64_w,i32_w];rfl
          refine pure_ (i:=24) (N:=some 64) (v:=undef) (a':=?_) #[true,true,true,true,true,true,true,true,true,true,true,true,true,true,true,true,true,true,true,true,true,true,true,true,true,false] rfl rfl (any_of HT_.out (by kernel_rfl)) (fun _ _ _ h=>h) (Or.inr ⟨by rfl,rfl⟩) ?_ ?_
          rotate_left
          · simp only[Act.put,List.setIfInBounds_toArray,List.set_cons_zero,List.set_cons_succ,i64_w,i32_w];rfl
          refine pure_ (i:=25) (N:=some 65) (v:=?_) (a':=?_) #[true,true,true,true,true,true,true,true,true,true,true,true,true,true,true,true,true,true,true,true,true,true,true,true,true,true] rfl rfl (any_of HT_.out (by kernel_rfl)) (fun _ _ _ h=>h) (Or.inl ⟨by rfl,?_⟩) ?_ ?_
          rotate_left
          ·
           intro w';go_simp
           with_reducible rfl
          rotate_left
          · simp only[Act.put,List.setIfInBounds_toArray,List.set_cons_zero,List.set_cons_succ,i64_w,i32_w];rfl
          refine done_ (done_of HT_.out (by kernel_rfl)) ?_;try go_wp2
          go_roundg k2
          case measure=>have:=HJ3.out; have:=HK2.out; omega
          case rel=>exact⟨(wrap64 (x10_2+1)),(by first | rfl | (simp; done) | (simp[*]; done)),H',⟨by have:=HJ3.out; have:=HK2.out; omega⟩,⟨by(with_reducible repeat (first | apply Kd.R_alloc | apply Kd.R_drewN | apply Kd.R_drew)); exact HO_8.out⟩,⟨by(with_reducible repeat (first | apply Kd.S_alloc | apply Kd.S_drewN | apply Kd.S_drew)); exact HO_9.out⟩,⟨by repeat (first | (with_reducible first | exact HB.out | apply below_alloc | apply pw_below_drewN | apply below_drew1) | exact HB.out)⟩⟩
       · rw[if_neg c13]at H;exact absurd H (by simp)
      ·
       rw[if_neg c12]at H;have c12b0:decide (x10_2 < (t187.length:Int))=false:=decide_eq_false c12;clear c12
       by_cases c32:t186=0
       · rw[if_pos c32]at H;exact absurd H (by simp)
       ·
        rw[if_neg c32]at H;have c32b0:(t186 == 0)=false:=beq_eq_false_iff_ne.mpr c32;have c32b1:(t186 != 0)=true:=bne_iff_ne.mpr c32
        replace H:=Option.bind_eq_some_iff.mp H
        obtain⟨t199,A330,H⟩:=H
        replace H:(some (wrap64 (1+t199)))=some r:=H
        have A33:=Aside0.mk A330;clear A330;obtain rfl:=Option.some.inj H;obtain⟨Ao34,co34,eo34⟩:=Kd.R_slice HO_8.out;subst eo34;go_wp2_with (first | ((with_reducible refine gate_callee (f:=34) rfl ?_); refine goesL_ (some 83) rfl rfl Tryz.func34 (by kernel_rfl) rfl #[.slice Ao34 t187.length co34,.int .i64 (wrap64 (a1-1)),.int .i64 (wrap64 (Int.tdiv a2 t186))] rfl (by(try simp only[List.map_toArray,List.map_cons,List.map_nil]); first | done | rfl | (simp only[List.length_drop,List.length_take]; rfl)) ?_; (with_reducible refine(ih k2 (by have:=HJ3.out; have:=HK2.out; omega) _ _ t187 (wrap64 (a1-1)) (wrap64 (Int.tdiv a2 t186)) t199 _ ?side1 ?side2 A33.out).mono ?_); (case side1=>repeat (first | exact(Kd.R_reads' HO_8.out).2.2 | (with_reducible refine Kd.C_alloc ?_ _) | (with_reducible refine Kd.C_drewN ?_ _) | (with_reducible refine Kd.C_drew ?_))); (case side2=>exact(Kd.R_reads' HO_8.out).2.1); rintro e w35 ⟨rfl,hb⟩; refine⟨_,rfl,?_⟩; have n0_:=Aside0.mk (Kd.R_below (by(with_reducible repeat (first | apply Kd.R_alloc | apply Kd.R_drewN | apply Kd.R_drew)); exact HO_8.out) hb); have n1_:=Aside0.mk (Kd.S_below (by(with_reducible repeat (first | apply Kd.S_alloc | apply Kd.S_drewN | apply Kd.S_drew)); exact HO_9.out) hb); have n2_:=Aside0.mk (below_step (by repeat (first | (with_reducible first | exact HB.out | apply below_alloc | apply pw_below_drewN | apply below_drew1) | exact HB.out)) hb); clear HO_8; clear HO_9; clear HB; have HO_8:=n0_; have HO_9:=n1_; have HB:=n2_; clear n0_ n1_ n2_; (try clear hb); (try clear hb2); (try clear hk); (try clear hi)))
        go_ret
        exact⟨by first | rfl | (simp[errW_none,errW_some] <;> rfl) | (simp[*,errW_none,errW_some] <;> rfl),by repeat (first | (with_reducible first | exact HB.out | apply below_alloc | apply pw_below_drewN | apply below_drew1) | exact HB.out)⟩
/-! ### remouldref07_Count: function 36 -/
def remouldref07_Count.l0:Nat->List Int->Int->Int->Int->Int->Option (Int)
 | 0,_,_,_,_,_=>none
 | k+1,x0,x1,x2,x7,x8=>if x8 < (x0.length:Int) then (if 0<=x8 then (if (rd x0 x8)>=x1 then (if (rd x0 x8)<=x2 then (remouldref07_Count.l0 k x0 x1 x2 (wrap64 (x7+1)) (wrap64 (x8+1))) else (remouldref07_Count.l0 k x0 x1 x2 x7 (wrap64 (x8+1)))) else (remouldref07_Count.l0 k x0 x1 x2 x7 (wrap64 (x8+1)))) else (none)) else (some x7)
def remouldref07_Count.f (k:Nat) (l0:List Int) (a1:Int) (a2:Int):Option (Int):=remouldref07_Count.l0 k l0 a1 a2 0 0
theorem remouldref07_Count.mono_l:∀k,(∀y0 y1 y2 y3 y4,LeO (remouldref07_Count.l0 k y0 y1 y2 y3 y4) (remouldref07_Count.l0 (k+1) y0 y1 y2 y3 y4))
 | 0=>fun _ _ _ _ _ r h=>by simp[remouldref07_Count.l0]at h
 | k+1=>by
  have ih0:=remouldref07_Count.mono_l k
  ·
   intro y0 y1 y2 y3 y4;unfold remouldref07_Count.l0;repeat' first
   | (with_reducible exact ih0 _ _ _ _ _)
   | (with_reducible exact LeO.refl _)
   | (with_reducible exact LeO.none _)
   | (with_reducible refine LeO.ite ?_ ?_)
   | (with_reducible refine LeO.bind ?_ (fun _=>?_))
   | exact ih0 _ _ _ _ _
   | exact LeO.none _
   | refine LeO.ite ?_ ?_
   | refine LeO.bind ?_ (fun _=>?_)
theorem remouldref07_Count.mono : ∀ a0 a1 a2 k, LeO (remouldref07_Count.f k a0 a1 a2) (remouldref07_Count.f (k + 1) a0 a1 a2) := by
  intro a0 a1 a2 k
  have ih0 := remouldref07_Count.mono_l k
  unfold remouldref07_Count.f
  repeat' first
      | (with_reducible exact ih0 _ _ _ _ _)
      | (with_reducible exact LeO.refl _)
      | (with_reducible exact LeO.none _)
      | (with_reducible refine LeO.ite ?_ ?_)
      | (with_reducible refine LeO.bind ?_ (fun _ => ?_))
      | exact ih0 _ _ _ _ _
      | exact LeO.none _
      | refine LeO.ite ?_ ?_
      | refine LeO.bind ?_ (fun _ => ?_)
theorem remouldref07_Count.calls (k:Nat) (A0:Option Addr) (c0:Nat) (l0:List Int) (a1:Int) (a2:Int) (r:Int) (w:World) (hr0:Kd.C (Kd.int .i64) w A0 l0.length l0) (hc0:l0.length<=c0) (h:remouldref07_Count.f k l0 a1 a2=some r) :
  Calls Tryz.prog 36 #[.slice A0 l0.length c0,.int .i64 a1,.int .i64 a2] w fun e w'=>e=.returned (.int .i64 r)/\Drawn0 w w':=by
 have HR0:=Aside0.mk hr0;have HC0:=Aside0.mk hc0;clear hr0 hc0;have H:(remouldref07_Count.l0 k l0 a1 a2 0 0)=some r:=h;clear h;have H':=Aside0.mk H;clear H;go_enter Tryz.func36,Tryz.ntmps36;go_wp2
 go_loopg [7,8] k (fun kq v7 v8 w'=>∃(x7_1:Int) (x8_1:Int),v7=.int .i64 x7_1/\v8=.int .i64 x8_1/\Aside0 (remouldref07_Count.l0 kq l0 a1 a2 x7_1 x8_1=some r)/\Aside0 (kq<=k)/\Drawn0 w w')
 case atStart=>exact⟨(0),(0),(by first | rfl | (simp; done) | (simp[*]; done)),(by first | rfl | (simp; done) | (simp[*]; done)),H',⟨Nat.le_refl _⟩,by repeat (first | exact Drawn0.refl _ | apply Drawn0.step)⟩
 case round =>
  clear H';try clear p2
  try clear c3
  obtain⟨x7_1,x8_1,rfl,rfl,HA,HK1,⟨m1,rfl⟩⟩:=hrel;cases gk with
  | zero=>exact absurd HA.out (by simp[remouldref07_Count.l0])
  | succ k1 =>
   have H:=HA.out;clear HA;simp only[remouldref07_Count.l0]at H
   by_cases c4:x8_1 < (l0.length:Int)
   ·
    rw[if_pos c4]at H;have c4b0:decide (x8_1 < (l0.length:Int))=true:=decide_eq_true c4;clear c4
    by_cases c5:0<=x8_1
    ·
     rw[if_pos c5]at H;have c5b0:decide (0<=x8_1)=true:=decide_eq_true c5;clear c5
     by_cases c6:(rd l0 x8_1)>=a1
     ·
      rw[if_pos c6]at H;have c6b0:decide (a1<=(rd l0 x8_1))=true:=decide_eq_true c6;clear c6
      by_cases c7:(rd l0 x8_1)<=a2
      ·
       rw[if_pos c7]at H;have c7b0:decide ((rd l0 x8_1)<=a2)=true:=decide_eq_true c7;clear c7;have H':=Aside0.mk H;clear H;have p200:0<=(x8_1:Int):=of_decide_eq_true (by assumption);have q200:x8_1 < (l0.length:Int):=of_decide_eq_true (by assumption);obtain⟨ad200,e200,hx200_0⟩:=Kd.at_int HR0.out x8_1 p200 q200;cases e200
       replace p200:=eq_true p200
       replace q200:=eq_true q200
       have p201:0<=(x8_1:Int):=of_decide_eq_true (by assumption);have q201:x8_1 < (l0.length:Int):=of_decide_eq_true (by assumption);obtain⟨ad201,e201,hx201_0⟩:=Kd.at_int HR0.out x8_1 p201 q201;obtain rfl:ad200=ad201:=(by injection e201)
       replace p201:=eq_true p201
       replace q201:=eq_true q201
       go_wp2
       go_roundg k1
       case measure=>have:=HK1.out; omega
       case rel=>exact⟨(wrap64 (x7_1+1)),(wrap64 (x8_1+1)),(by first | rfl | (simp; done) | (simp[*]; done)),(by first | rfl | (simp; done) | (simp[*]; done)),H',⟨by have:=HK1.out; omega⟩,by repeat (first | exact Drawn0.refl _ | apply Drawn0.step)⟩
      ·
       rw[if_neg c7]at H;have c7b0:decide ((rd l0 x8_1)<=a2)=false:=decide_eq_false c7;clear c7;have H':=Aside0.mk H;clear H;have p200:0<=(x8_1:Int):=of_decide_eq_true (by assumption);have q200:x8_1 < (l0.length:Int):=of_decide_eq_true (by assumption);obtain⟨ad200,e200,hx200_0⟩:=Kd.at_int HR0.out x8_1 p200 q200;cases e200
       replace p200:=eq_true p200
       replace q200:=eq_true q200
       have p201:0<=(x8_1:Int):=of_decide_eq_true (by assumption);have q201:x8_1 < (l0.length:Int):=of_decide_eq_true (by assumption);obtain⟨ad201,e201,hx201_0⟩:=Kd.at_int HR0.out x8_1 p201 q201;obtain rfl:ad200=ad201:=(by injection e201)
       replace p201:=eq_true p201
       replace q201:=eq_true q201
       go_wp2
       go_roundg k1
       case measure=>have:=HK1.out; omega
       case rel=>exact⟨(x7_1),(wrap64 (x8_1+1)),(by first | rfl | (simp; done) | (simp[*]; done)),(by first | rfl | (simp; done) | (simp[*]; done)),H',⟨by have:=HK1.out; omega⟩,by repeat (first | exact Drawn0.refl _ | apply Drawn0.step)⟩
     ·
      rw[if_neg c6]at H;have c6b0:decide (a1<=(rd l0 x8_1))=false:=decide_eq_false c6;clear c6;have H':=Aside0.mk H;clear H;have p200:0<=(x8_1:Int):=of_decide_eq_true (by assumption);have q200:x8_1 < (l0.length:Int):=of_decide_eq_true (by assumption);obtain⟨ad200,e200,hx200_0⟩:=Kd.at_int HR0.out x8_1 p200 q200;cases e200
      replace p200:=eq_true p200
      replace q200:=eq_true q200
      go_wp2
      go_roundg k1
      case measure=>have:=HK1.out; omega
      case rel=>exact⟨(x7_1),(wrap64 (x8_1+1)),(by first | rfl | (simp; done) | (simp[*]; done)),(by first | rfl | (simp; done) | (simp[*]; done)),H',⟨by have:=HK1.out; omega⟩,by repeat (first | exact Drawn0.refl _ | apply Drawn0.step)⟩
    · rw[if_neg c5]at H;exact absurd H (by simp)
   ·
    rw[if_neg c4]at H;have c4b0:decide (x8_1 < (l0.length:Int))=false:=decide_eq_false c4;clear c4;obtain rfl:=Option.some.inj H;go_wp2
    go_ret
    exact⟨by first | rfl | (simp; done) | (simp[*]; done),by repeat (first | exact Drawn0.refl _ | apply Drawn0.step)⟩
-- NOT PRINTED: function 10 (remouldlaw07_called)
end Go.Proofs.YtpnfmbeccjehiabGreatDoor.PR
