/- The reference's Shape as the kit's print tells them. -/
import Derived.Test.YtpnfmbeccjehiabGreatDoorQ3
set_option maxHeartbeats 8000000
set_option maxRecDepth 100000
namespace Go.Proofs.YtpnfmbeccjehiabGreatDoor.PR
open Go.RowKit Go.Proofs.YtpnfmbeccjehiabGreatDoorW.PrintWords Go.Proofs.YtpnfmbeccjehiabGreatDoorW.PrintLast Go.Proofs.YtpnfmbeccjehiabGreatDoorW.PrintMore
attribute [local go_sem] max2_int min2_int max_two min_two max_three min_three max_four min_four
set_option linter.unusedVariables false
set_option linter.unusedSimpArgs false
/-! ### remouldref07_Shape: function 12 -/
mutual
def remouldref07_Shape.l0:Nat->Int->ByteArray->List Int->List (List Int)->Int->Option (ByteArray)
 | 0,_,_,_,_,_=>none
 | k+1,x1,x5,x6,x7,x8=>if x8 < (x6.length:Int) then (if x5.size+1<=9223372036854775807 then (if 0<=x8 then ((remouldref07_Digits.f k (rd x6 x8)).bind fun t216=>(if (x5 ++ (⟨#[124]⟩:ByteArray)).size+t216.size<=9223372036854775807 then (if ((x5 ++ (⟨#[124]⟩:ByteArray)) ++ t216).size+1<=9223372036854775807 then (if x8 < (x7.length:Int) then ((remouldref07_Shape.f k (rd_L1 x7 x8) (wrap64 (x1-1))).bind fun t218=>(if (((x5 ++ (⟨#[124]⟩:ByteArray)) ++ t216) ++ (⟨#[58]⟩:ByteArray)).size+t218.size<=9223372036854775807 then (remouldref07_Shape.l0 k x1 ((((x5 ++ (⟨#[124]⟩:ByteArray)) ++ t216) ++ (⟨#[58]⟩:ByteArray)) ++ t218) x6 x7 (wrap64 (x8+1))) else (none))) else (none)) else (none)) else (none))) else (none)) else (none)) else (if x5.size+1<=9223372036854775807 then (some (x5 ++ (⟨#[41]⟩:ByteArray))) else (none))
def remouldref07_Shape.f:Nat->List Int->Int->Option (ByteArray)
 | 0,_,_=>none
 | k+1,l0,a1=>if (l0.length:Int)=0 then (some (⟨#[45]⟩:ByteArray)) else (if 0 < (l0.length:Int) then ((remouldref07_Digits.f k (rd l0 0)).bind fun t205=>(if t205.size+1<=9223372036854775807 then (if 0<=(wrap64 ((l0.length:Int)-1)) then (if (wrap64 ((l0.length:Int)-1)) < (l0.length:Int) then ((remouldref07_Digits.f k (rd l0 (wrap64 ((l0.length:Int)-1)))).bind fun t207=>(if (t205 ++ (⟨#[58]⟩:ByteArray)).size+t207.size<=9223372036854775807 then (if a1=0 then (some ((t205 ++ (⟨#[58]⟩:ByteArray)) ++ t207)) else (if (l0.length:Int)=1 then (if ((t205 ++ (⟨#[58]⟩:ByteArray)) ++ t207).size+2<=9223372036854775807 then (some (((t205 ++ (⟨#[58]⟩:ByteArray)) ++ t207) ++ (⟨#[40,41]⟩:ByteArray))) else (none)) else ((remouldref07_shelves.f k l0 a1).bind fun bt208=>(if ((t205 ++ (⟨#[58]⟩:ByteArray)) ++ t207).size+1<=9223372036854775807 then ((remouldref07_Shape.f k bt208.1 (wrap64 (a1-1))).bind fun t214=>(if (((t205 ++ (⟨#[58]⟩:ByteArray)) ++ t207) ++ (⟨#[40]⟩:ByteArray)).size+t214.size<=9223372036854775807 then (remouldref07_Shape.l0 k a1 ((((t205 ++ (⟨#[58]⟩:ByteArray)) ++ t207) ++ (⟨#[40]⟩:ByteArray)) ++ t214) bt208.1 bt208.2 0) else (none))) else (none))))) else (none))) else (none)) else (none)) else (none))) else (none))
end
theorem remouldref07_Shape.mono_l:∀k,(∀y0 y1,LeO (remouldref07_Shape.f k y0 y1) (remouldref07_Shape.f (k+1) y0 y1))/\(∀y0 y1 y2 y3 y4,LeO (remouldref07_Shape.l0 k y0 y1 y2 y3 y4) (remouldref07_Shape.l0 (k+1) y0 y1 y2 y3 y4))
 | 0=>⟨fun _ _ r h=>by simp[remouldref07_Shape.f]at h,fun _ _ _ _ _ r h=>by simp[remouldref07_Shape.l0]at h⟩
 | k+1=>by
  obtain⟨ih0,ih1⟩:=remouldref07_Shape.mono_l k;refine⟨?_,?_⟩
  ·
   intro y0 y1;unfold remouldref07_Shape.f;repeat' first
   | (with_reducible exact ih0 _ _)
   | (with_reducible exact ih1 _ _ _ _ _)
   | (with_reducible exact remouldref07_Digits.mono _ _)
   | (with_reducible exact remouldref07_shelves.mono _ _ _)
   | (with_reducible exact LeO.refl _)
   | (with_reducible exact LeO.none _)
   | (with_reducible refine LeO.ite ?_ ?_)
   | (with_reducible refine LeO.bind ?_ (fun _=>?_))
   | exact ih0 _ _
   | exact ih1 _ _ _ _ _
   | exact remouldref07_Digits.mono _ _
   | exact remouldref07_shelves.mono _ _ _
   | exact LeO.none _
   | refine LeO.ite ?_ ?_
   | refine LeO.bind ?_ (fun _=>?_)
  ·
   intro y0 y1 y2 y3 y4;unfold remouldref07_Shape.l0;repeat' first
   | (with_reducible exact ih0 _ _)
   | (with_reducible exact ih1 _ _ _ _ _)
   | (with_reducible exact remouldref07_Digits.mono _ _)
   | (with_reducible exact remouldref07_shelves.mono _ _ _)
   | (with_reducible exact LeO.refl _)
   | (with_reducible exact LeO.none _)
   | (with_reducible refine LeO.ite ?_ ?_)
   | (with_reducible refine LeO.bind ?_ (fun _=>?_))
   | exact ih0 _ _
   | exact ih1 _ _ _ _ _
   | exact remouldref07_Digits.mono _ _
   | exact remouldref07_shelves.mono _ _ _
   | exact LeO.none _
   | refine LeO.ite ?_ ?_
   | refine LeO.bind ?_ (fun _=>?_)
theorem remouldref07_Shape.mono:∀a0 a1 k,LeO (remouldref07_Shape.f k a0 a1) (remouldref07_Shape.f (k+1) a0 a1):=by
 intro a0 a1 k;obtain⟨ih0,ih1⟩:=remouldref07_Shape.mono_l k;exact ih0 a0 a1
def remouldref07_Shape.T3:Bool × List (List Nat × List Nat):=(true,[([],[]),([0],[0]),([1],[1]),([2],[2]),([3],[3]),([],[]),([],[]),([6],[6]),([7],[7]),([5,8],[5,8]),([9],[9]),([10,3],[10]),([4,11],[4,11]),([12,11,0,1,2,3,4,5,6,7,8,9,10,11,12],[12])])
def remouldref07_Shape.B3:List Nat:=[0,1,3,7,15,0,0,64,192,480,992,2031,4095,8191]
theorem remouldref07_Shape.tab3:rtab .any (opsOf Tryz.f12 3)=remouldref07_Shape.T3:=by kernel_rfl
theorem remouldref07_Shape.bits3:waitsOk remouldref07_Shape.T3.2 remouldref07_Shape.B3=true:=by kernel_rfl
def remouldref07_Shape.T13:Bool × List (List Nat × List Nat):=(true,[([],[]),([0],[0]),([],[]),([],[]),([2,3],[2,3]),([4],[4]),([5],[5]),([1,6],[1,6]),([7],[7]),([],[]),([],[]),([9,10],[9,10]),([11],[11]),([],[]),([13],[13]),([12,14,6],[12,14]),([8,15],[8,15]),([16,15,0,1,2,3,4,5,6,7,8,9,10,11,12,13,14,15,16],[0,16])])
def remouldref07_Shape.B13:List Nat:=[0,1,0,0,12,28,60,127,255,0,0,1536,3584,0,8192,32380,65535,131071]
theorem remouldref07_Shape.tab13:rtab .any (opsOf Tryz.f12 13)=remouldref07_Shape.T13:=by kernel_rfl
theorem remouldref07_Shape.bits13:waitsOk remouldref07_Shape.T13.2 remouldref07_Shape.B13=true:=by kernel_rfl
theorem remouldref07_Shape.calls (k:Nat):∀(A0:Option Addr) (c0:Nat) (l0:List Int) (a1:Int) (r:ByteArray) (w:World) (hr0:Kd.C (Kd.int .i64) w A0 l0.length l0) (hc0:l0.length<=c0) (h:remouldref07_Shape.f k l0 a1=some r),
  Calls Tryz.prog 12 #[.slice A0 l0.length c0,.int .i64 a1] w fun e w'=>e=.returned (.string r)/\Below w.heap.size w w':=by
 induction k using Nat.strongRecOn with
 | _ k ih =>
 intro A0 c0 l0 a1 r w hr0 hc0 h;cases k with
 | zero=>exact absurd h (by simp[remouldref07_Shape.f])
 | succ k =>
 simp only[remouldref07_Shape.f]at h;have HR0:=Aside0.mk hr0;have HC0:=Aside0.mk hc0;clear hr0 hc0;have HB:=Aside0.mk (Below.refl w.heap.size w);have H:(if (l0.length:Int)=0 then (some (⟨#[45]⟩:ByteArray)) else (if 0 < (l0.length:Int) then ((remouldref07_Digits.f k (rd l0 0)).bind fun t205=>(if t205.size+1<=9223372036854775807 then (if 0<=(wrap64 ((l0.length:Int)-1)) then (if (wrap64 ((l0.length:Int)-1)) < (l0.length:Int) then ((remouldref07_Digits.f k (rd l0 (wrap64 ((l0.length:Int)-1)))).bind fun t207=>(if (t205 ++ (⟨#[58]⟩:ByteArray)).size+t207.size<=9223372036854775807 then (if a1=0 then (some ((t205 ++ (⟨#[58]⟩:ByteArray)) ++ t207)) else (if (l0.length:Int)=1 then (if ((t205 ++ (⟨#[58]⟩:ByteArray)) ++ t207).size+2<=9223372036854775807 then (some (((t205 ++ (⟨#[58]⟩:ByteArray)) ++ t207) ++ (⟨#[40,41]⟩:ByteArray))) else (none)) else ((remouldref07_shelves.f k l0 a1).bind fun bt208=>(if ((t205 ++ (⟨#[58]⟩:ByteArray)) ++ t207).size+1<=9223372036854775807 then ((remouldref07_Shape.f k bt208.1 (wrap64 (a1-1))).bind fun t214=>(if (((t205 ++ (⟨#[58]⟩:ByteArray)) ++ t207) ++ (⟨#[40]⟩:ByteArray)).size+t214.size<=9223372036854775807 then (remouldref07_Shape.l0 k a1 ((((t205 ++ (⟨#[58]⟩:ByteArray)) ++ t207) ++ (⟨#[40]⟩:ByteArray)) ++ t214) bt208.1 bt208.2 0) else (none))) else (none))))) else (none))) else (none)) else (none)) else (none))) else (none)))=some r:=h;clear h
 by_cases c3:(l0.length:Int)=0
 ·
  rw[if_pos c3]at H;have c3b0:((l0.length:Int) == 0)=true:=beq_iff_eq.mpr c3;have c3b1:((l0.length:Int) != 0)=false:=bne_eq_false_iff_eq.mpr c3;clear c3;obtain rfl:=Option.some.inj H;go_enter Tryz.func12,Tryz.ntmps12;go_wp2
  go_ret
  exact⟨by first | rfl | (simp[errW_none,errW_some] <;> rfl) | (simp[*,errW_none,errW_some] <;> rfl),by repeat (first | (with_reducible first | exact HB.out | apply below_alloc | apply pw_below_drewN | apply below_drew1) | exact HB.out)⟩
 ·
  rw[if_neg c3]at H;have c3b0:((l0.length:Int) == 0)=false:=beq_eq_false_iff_ne.mpr c3;have c3b1:((l0.length:Int) != 0)=true:=bne_iff_ne.mpr c3;have c3b2:¬(l0 = []):=fun h_=>c3 (by rw[h_]; rfl)
  by_cases c4:0 < (l0.length:Int)
  ·
   rw[if_pos c4]at H;have c4b0:decide (0 < (l0.length:Int))=true:=decide_eq_true c4;have c4b1:decide (0 < l0.length)=true:=decide_eq_true (by omega);clear c4
   replace H:=Option.bind_eq_some_iff.mp H
   obtain⟨t205,A50,H⟩:=H
   replace H:(if t205.size+1<=9223372036854775807 then (if 0<=(wrap64 ((l0.length:Int)-1)) then (if (wrap64 ((l0.length:Int)-1)) < (l0.length:Int) then ((remouldref07_Digits.f k (rd l0 (wrap64 ((l0.length:Int)-1)))).bind fun t207=>(if (t205 ++ (⟨#[58]⟩:ByteArray)).size+t207.size<=9223372036854775807 then (if a1=0 then (some ((t205 ++ (⟨#[58]⟩:ByteArray)) ++ t207)) else (if (l0.length:Int)=1 then (if ((t205 ++ (⟨#[58]⟩:ByteArray)) ++ t207).size+2<=9223372036854775807 then (some (((t205 ++ (⟨#[58]⟩:ByteArray)) ++ t207) ++ (⟨#[40,41]⟩:ByteArray))) else (none)) else ((remouldref07_shelves.f k l0 a1).bind fun bt208=>(if ((t205 ++ (⟨#[58]⟩:ByteArray)) ++ t207).size+1<=9223372036854775807 then ((remouldref07_Shape.f k bt208.1 (wrap64 (a1-1))).bind fun t214=>(if (((t205 ++ (⟨#[58]⟩:ByteArray)) ++ t207) ++ (⟨#[40]⟩:ByteArray)).size+t214.size<=9223372036854775807 then (remouldref07_Shape.l0 k a1 ((((t205 ++ (⟨#[58]⟩:ByteArray)) ++ t207) ++ (⟨#[40]⟩:ByteArray)) ++ t214) bt208.1 bt208.2 0) else (none))) else (none))))) else (none))) else (none)) else (none)) else (none))=some r:=H
   have A5:=Aside0.mk A50;clear A50
   by_cases c6:t205.size+1<=9223372036854775807
   ·
    rw[if_pos c6]at H;have c6b0:=eq_true c6;have c6b1:decide (t205.size+1<=9223372036854775807)=true:=decide_eq_true c6;try have c6b2:(9223372036854775807 < t205.size+1)=False:=eq_false (Nat.not_lt.2 c6)
    obtain⟨ji7,hji7⟩:∃j_:Int,(wrap64 ((l0.length:Int)-1))=j_:=⟨_,rfl⟩
    replace H:(if 0<=(ji7) then (if (ji7) < (l0.length:Int) then ((remouldref07_Digits.f k (rd l0 (ji7))).bind fun t207=>(if (t205 ++ (⟨#[58]⟩:ByteArray)).size+t207.size<=9223372036854775807 then (if a1=0 then (some ((t205 ++ (⟨#[58]⟩:ByteArray)) ++ t207)) else (if (l0.length:Int)=1 then (if ((t205 ++ (⟨#[58]⟩:ByteArray)) ++ t207).size+2<=9223372036854775807 then (some (((t205 ++ (⟨#[58]⟩:ByteArray)) ++ t207) ++ (⟨#[40,41]⟩:ByteArray))) else (none)) else ((remouldref07_shelves.f k l0 a1).bind fun bt208=>(if ((t205 ++ (⟨#[58]⟩:ByteArray)) ++ t207).size+1<=9223372036854775807 then ((remouldref07_Shape.f k bt208.1 (wrap64 (a1-1))).bind fun t214=>(if (((t205 ++ (⟨#[58]⟩:ByteArray)) ++ t207) ++ (⟨#[40]⟩:ByteArray)).size+t214.size<=9223372036854775807 then (remouldref07_Shape.l0 k a1 ((((t205 ++ (⟨#[58]⟩:ByteArray)) ++ t207) ++ (⟨#[40]⟩:ByteArray)) ++ t214) bt208.1 bt208.2 0) else (none))) else (none))))) else (none))) else (none)) else (none))=some r:=by first | (rw[hji7]at H; exact H) | (simp only[hji7]at H ⊢; exact H)
    (try rw[hji7]at A5)
    have hji7w:(IntKind.i64.wrap ((l0.length:Int)-1))=ji7:=(i64_w _).trans hji7
    by_cases c8:0<=(ji7)
    ·
     rw[if_pos c8]at H;have c8b0:decide (0<=(ji7))=true:=decide_eq_true c8;clear c8
     by_cases c9:(ji7) < (l0.length:Int)
     ·
      rw[if_pos c9]at H;have c9b0:decide ((ji7) < (l0.length:Int))=true:=decide_eq_true c9;clear c9
      replace H:=Option.bind_eq_some_iff.mp H
      obtain⟨t207,A100,H⟩:=H
      replace H:(if (t205 ++ (⟨#[58]⟩:ByteArray)).size+t207.size<=9223372036854775807 then (if a1=0 then (some ((t205 ++ (⟨#[58]⟩:ByteArray)) ++ t207)) else (if (l0.length:Int)=1 then (if ((t205 ++ (⟨#[58]⟩:ByteArray)) ++ t207).size+2<=9223372036854775807 then (some (((t205 ++ (⟨#[58]⟩:ByteArray)) ++ t207) ++ (⟨#[40,41]⟩:ByteArray))) else (none)) else ((remouldref07_shelves.f k l0 a1).bind fun bt208=>(if ((t205 ++ (⟨#[58]⟩:ByteArray)) ++ t207).size+1<=9223372036854775807 then ((remouldref07_Shape.f k bt208.1 (wrap64 (a1-1))).bind fun t214=>(if (((t205 ++ (⟨#[58]⟩:ByteArray)) ++ t207) ++ (⟨#[40]⟩:ByteArray)).size+t214.size<=9223372036854775807 then (remouldref07_Shape.l0 k a1 ((((t205 ++ (⟨#[58]⟩:ByteArray)) ++ t207) ++ (⟨#[40]⟩:ByteArray)) ++ t214) bt208.1 bt208.2 0) else (none))) else (none))))) else (none))=some r:=H
      have A10:=Aside0.mk A100;clear A100
      by_cases c11:(t205 ++ (⟨#[58]⟩:ByteArray)).size+t207.size<=9223372036854775807
      ·
       rw[if_pos c11]at H;have c11b0:=eq_true c11;have c11b1:decide ((t205 ++ (⟨#[58]⟩:ByteArray)).size+t207.size<=9223372036854775807)=true:=decide_eq_true c11;try have c11b2:(9223372036854775807 < (t205 ++ (⟨#[58]⟩:ByteArray)).size+t207.size)=False:=eq_false (Nat.not_lt.2 c11)
       have c11b3:(9223372036854775807 < t205.size+1+t207.size)=False:=eq_false (Nat.not_lt.2 (by have h_:=c11; simp only[ByteArray.size_append]at h_; exact h_))
       by_cases c12:a1=0
       ·
        rw[if_pos c12]at H;have c12b0:(a1 == 0)=true:=beq_iff_eq.mpr c12;have c12b1:(a1 != 0)=false:=bne_eq_false_iff_eq.mpr c12;clear c12;obtain rfl:=Option.some.inj H;go_enter Tryz.func12,Tryz.ntmps12;try go_wp2
        have n0_:=Aside0.mk (below_drew1 HB.out);clear HB;have HB:=n0_;clear n0_;have p204:0<=(0:Int):=(by omega)
        have q204:0 < (l0.length:Int):=of_decide_eq_true (by assumption);obtain⟨ad204,e204,hx204_0⟩:=Kd.at_int HR0.out 0 p204 q204;have hw204_0:=hx204_0
        (try rw[show((0:Int)).toNat=0 from rfl]at hw204_0)
        (try rw[show 0 * 1=0 from rfl]at hw204_0)
        (try rw[Addr.add_zero']at hw204_0)
        cases e204;have qi204:(0 < l0.length)=True:=eq_true (by omega)
        (try rw[show((0:Int)).toNat=0 from rfl]at hx204_0)
        (try rw[Addr.add_zero']at hx204_0)
        replace hx204_0:=(HB.out.cell (World.block_lt_of_cell? w _ hx204_0)).trans hx204_0
        replace p204:=eq_true p204
        replace q204:=eq_true q204
        have p206:0<=((ji7):Int):=of_decide_eq_true (by assumption);have q206:(ji7) < (l0.length:Int):=of_decide_eq_true (by assumption);obtain⟨ad206,e206,hx206_0⟩:=Kd.at_int HR0.out (ji7) p206 q206;have hw206_0:=hx206_0;obtain rfl:ad204=ad206:=(by injection e206)
        replace hx206_0:=(HB.out.cell (World.block_lt_of_cell? w _ hx206_0)).trans hx206_0
        replace p206:=eq_true p206
        replace q206:=eq_true q206
        refine start_ (n:=14) (S:=fun w'=>w'.cell? ad204=some (.int .i64 (rd l0 0))/\w'.cell? (ad204.add ((ji7)).toNat)=some (.int .i64 (rd l0 (ji7)))) (ds:=[]) #[false,false,false,false,false,false,false,false,false,false,false,false,false,false] (by kernel_rfl) rfl rfl ⟨((HB.out.cell (World.block_lt_of_cell? w _ hw204_0)).trans hw204_0),((HB.out.cell (World.block_lt_of_cell? w _ hw206_0)).trans hw206_0)⟩ (fun hHeld=>?_); refine with_tabW remouldref07_Shape.tab3 remouldref07_Shape.bits3 (fun HT_ HW_=>?_);generalize w.drew=w13 at HB hx204_0 hx206_0 hHeld ⊢;refine pure_ (i:=0) (N:=some 12) (v:=?_) (a':=?_) #[true,false,false,false,false,false,false,false,false,false,false,false,false,false] rfl rfl (any_of HT_.out (by kernel_rfl)) (fun _ _ _ h=>h) (Or.inl ⟨by rfl,?_⟩) ?_ ?_
        rotate_left
        ·
         intro w';go_simp
         with_reducible rfl
        rotate_left
        · simp only[Act.put,List.setIfInBounds_toArray,List.set_cons_zero,List.set_cons_succ,i64_w,i32_w];rfl
        refine pure_ (i:=1) (N:=some 13) (v:=?_) (a':=?_) #[true,true,false,false,false,false,false,false,false,false,false,false,false,false] rfl rfl (any_of HT_.out (by kernel_rfl)) (fun _ _ _ h=>h) (Or.inl ⟨by rfl,?_⟩) ?_ ?_
        rotate_left
        ·
         intro w';go_simp
         with_reducible rfl
        rotate_left
        · simp only[Act.put,List.setIfInBounds_toArray,List.set_cons_zero,List.set_cons_succ,i64_w,i32_w];rfl
        refine pure_ (i:=5) (N:=some 17) (v:=?_) (a':=?_) #[true,true,false,false,false,true,false,false,false,false,false,false,false,false] rfl rfl (any_of HT_.out (by kernel_rfl)) (fun _ _ _ h=>h) (Or.inl ⟨by rfl,?_⟩) ?_ ?_
        rotate_left
        ·
         intro w';go_simp
         with_reducible rfl
        rotate_left
        · simp only[Act.put,List.setIfInBounds_toArray,List.set_cons_zero,List.set_cons_succ,i64_w,i32_w];rfl
        refine pure_ (i:=6) (N:=some 18) (v:=?_) (a':=?_) #[true,true,false,false,false,true,true,false,false,false,false,false,false,false] rfl rfl (any_of HT_.out (by kernel_rfl)) (fun _ _ _ h=>h) (Or.inl ⟨by rfl,?_⟩) ?_ ?_
        rotate_left
        ·
         intro w';go_simp
         with_reducible rfl
        rotate_left
        · simp only[Act.put,List.setIfInBounds_toArray,List.set_cons_zero,List.set_cons_succ,i64_w,i32_w];rfl
        refine pure_ (i:=7) (N:=some 19) (v:=?_) (a':=?_) #[true,true,false,false,false,true,true,true,false,false,false,false,false,false] rfl rfl (any_of HT_.out (by kernel_rfl)) (fun _ _ _ h=>h) (Or.inl ⟨by rfl,?_⟩) ?_ ?_
        rotate_left
        ·
         intro w';go_simp
         with_reducible rfl
        rotate_left
        · simp only[Act.put,List.setIfInBounds_toArray,List.set_cons_zero,List.set_cons_succ,i64_w,i32_w];rfl
        refine pure_ (i:=8) (N:=some 20) (v:=?_) (a':=?_) #[true,true,false,false,false,true,true,true,true,false,false,false,false,false] rfl rfl (any_of HT_.out (by kernel_rfl)) (fun _ _ _ h=>h) (Or.inl ⟨by rfl,?_⟩) ?_ ?_
        rotate_left
        ·
         intro w';go_simp
         with_reducible rfl
        rotate_left
        · simp only[Act.put,List.setIfInBounds_toArray,List.set_cons_zero,List.set_cons_succ,i64_w,i32_w];rfl
        refine pure_ (i:=9) (N:=some 21) (v:=?_) (a':=?_) #[true,true,false,false,false,true,true,true,true,true,false,false,false,false] rfl rfl (any_of HT_.out (by kernel_rfl)) (fun _ _ _ h=>h) (Or.inl ⟨by rfl,?_⟩) ?_ ?_
        rotate_left
        ·
         intro w';go_simp
         with_reducible rfl
        rotate_left
        · simp only[Act.put,List.setIfInBounds_toArray,List.set_cons_zero,List.set_cons_succ,i64_w,i32_w];rfl
        refine take_ (i:=2) (N:=some 14) (v:=?_) (a':=?_) #[true,true,true,false,false,true,true,true,true,true,false,false,false,false] rfl rfl (take_ofW HT_.out HW_.out (by kernel_rfl)) (fun _ _ _ h=>h) (Or.inl ⟨by rfl,?_⟩) hHeld ?_ ?_
        rotate_left
        ·
         rintro w' ⟨s0,s1⟩;go_simp
         with_reducible rfl
        rotate_left
        · simp only[Act.put,List.setIfInBounds_toArray,List.set_cons_zero,List.set_cons_succ,i64_w,i32_w];rfl
        refine take_ (i:=10) (N:=some 22) (v:=?_) (a':=?_) #[true,true,true,false,false,true,true,true,true,true,true,false,false,false] rfl rfl (take_ofW HT_.out HW_.out (by kernel_rfl)) (fun _ _ _ h=>h) (Or.inl ⟨by rfl,?_⟩) hHeld ?_ ?_
        rotate_left
        ·
         rintro w' ⟨s0,s1⟩;go_simp
         with_reducible rfl
        rotate_left
        · simp only[Act.put,List.setIfInBounds_toArray,List.set_cons_zero,List.set_cons_succ,i64_w,i32_w];rfl
        refine one_ (i:=3) (N:=some 15) #[true,true,true,true,false,true,true,true,true,true,true,false,false,false] rfl rfl (one_of HT_.out (by kernel_rfl)) (by decide) (fun K hK=>?_);refine goes_ Tryz.func37 (by kernel_rfl) rfl #[.int .i64 (rd l0 0)] (by rfl) rfl rfl (by(try simp only[List.map_toArray,List.map_cons,List.map_nil]); first | done | rfl | (simp only[List.length_drop,List.length_take]; rfl)) ?_
        with_reducible refine(remouldref07_Digits.calls k (rd l0 0) t205 _ A5.out).mono ?_
        rintro e w' ⟨rfl,⟨nd,rfl⟩⟩;refine⟨_,rfl,?_⟩;refine hK.out _ _ ⟨((HB.out.cell (World.block_lt_of_cell? w _ hw204_0)).trans hw204_0),((HB.out.cell (World.block_lt_of_cell? w _ hw206_0)).trans hw206_0)⟩ (fun hHeld=>?_);clear hK K;refine norm_ (a':=?_) ?_ ?_
        rotate_left
        · show Act.put _ (some 15) _=_;simp only[Act.put,List.setIfInBounds_toArray,List.set_cons_zero,List.set_cons_succ,i64_w,i32_w];rfl
        refine pure_ (i:=4) (N:=some 16) (v:=?_) (a':=?_) #[true,true,true,true,true,true,true,true,true,true,true,false,false,false] rfl rfl (any_of HT_.out (by kernel_rfl)) (fun _ _ _ h=>h) (Or.inl ⟨by rfl,?_⟩) ?_ ?_
        rotate_left
        ·
         intro w';go_simp
         with_reducible rfl
        rotate_left
        · simp only[Act.put,List.setIfInBounds_toArray,List.set_cons_zero,List.set_cons_succ,i64_w,i32_w];rfl
        refine one_ (i:=11) (N:=some 23) #[true,true,true,true,true,true,true,true,true,true,true,true,false,false] rfl rfl (one_of HT_.out (by kernel_rfl)) (by decide) (fun K hK=>?_);refine goes_ Tryz.func37 (by kernel_rfl) rfl #[.int .i64 (rd l0 (ji7))] (by rfl) rfl rfl (by(try simp only[List.map_toArray,List.map_cons,List.map_nil]); first | done | (simp only[hji7]; rfl) | rfl | (simp only[List.length_drop,List.length_take]; rfl)) ?_
        with_reducible refine(remouldref07_Digits.calls k (rd l0 (ji7)) t207 _ A10.out).mono ?_
        rintro e w' ⟨rfl,⟨nd,rfl⟩⟩;refine⟨_,rfl,?_⟩;refine hK.out _ _ ⟨((HB.out.cell (World.block_lt_of_cell? w _ hw204_0)).trans hw204_0),((HB.out.cell (World.block_lt_of_cell? w _ hw206_0)).trans hw206_0)⟩ (fun hHeld=>?_);clear hK K;refine norm_ (a':=?_) ?_ ?_
        rotate_left
        · show Act.put _ (some 23) _=_;simp only[Act.put,List.setIfInBounds_toArray,List.set_cons_zero,List.set_cons_succ,i64_w,i32_w];rfl
        refine pure_ (i:=12) (N:=some 24) (v:=?_) (a':=?_) #[true,true,true,true,true,true,true,true,true,true,true,true,true,false] rfl rfl (any_of HT_.out (by kernel_rfl)) (fun _ _ _ h=>h) (Or.inl ⟨by rfl,?_⟩) ?_ ?_
        rotate_left
        ·
         intro w';go_simp
         with_reducible rfl
        rotate_left
        · simp only[Act.put,List.setIfInBounds_toArray,List.set_cons_zero,List.set_cons_succ,i64_w,i32_w];rfl
        refine pure_ (i:=13) (N:=some 5) (v:=?_) (a':=?_) #[true,true,true,true,true,true,true,true,true,true,true,true,true,true] rfl rfl (any_of HT_.out (by kernel_rfl)) (fun _ _ _ h=>h) (Or.inl ⟨by rfl,?_⟩) ?_ ?_
        rotate_left
        ·
         intro w';go_simp
         with_reducible rfl
        rotate_left
        · simp only[Act.put,List.setIfInBounds_toArray,List.set_cons_zero,List.set_cons_succ,i64_w,i32_w];rfl
        refine done_ (done_of HT_.out (by kernel_rfl)) ?_;try go_wp2
        go_ret
        exact⟨by first | rfl | (simp[errW_none,errW_some] <;> rfl) | (simp only[<-hji7]; first | rfl | (simp[errW_none,errW_some] <;> rfl)) | (simp[*,errW_none,errW_some] <;> rfl),by repeat (first | (with_reducible first | exact HB.out | apply below_alloc | apply pw_below_drewN | apply below_drew1) | exact HB.out)⟩
       ·
        rw[if_neg c12]at H;have c12b0:(a1 == 0)=false:=beq_eq_false_iff_ne.mpr c12;have c12b1:(a1 != 0)=true:=bne_iff_ne.mpr c12
        by_cases c14:(l0.length:Int)=1
        ·
         rw[if_pos c14]at H;have c14b0:((l0.length:Int) == 1)=true:=beq_iff_eq.mpr c14;have c14b1:((l0.length:Int) != 1)=false:=bne_eq_false_iff_eq.mpr c14;clear c14
         by_cases c15:((t205 ++ (⟨#[58]⟩:ByteArray)) ++ t207).size+2<=9223372036854775807
         ·
          rw[if_pos c15]at H;have c15b0:=eq_true c15;have c15b1:decide (((t205 ++ (⟨#[58]⟩:ByteArray)) ++ t207).size+2<=9223372036854775807)=true:=decide_eq_true c15;try have c15b2:(9223372036854775807 < ((t205 ++ (⟨#[58]⟩:ByteArray)) ++ t207).size+2)=False:=eq_false (Nat.not_lt.2 c15)
          have c15b3:(9223372036854775807 < t205.size+1+t207.size+2)=False:=eq_false (Nat.not_lt.2 (by have h_:=c15; simp only[ByteArray.size_append]at h_; exact h_));obtain rfl:=Option.some.inj H;go_enter Tryz.func12,Tryz.ntmps12;try go_wp2
          have n0_:=Aside0.mk (below_drew1 HB.out);clear HB;have HB:=n0_;clear n0_;have p204:0<=(0:Int):=(by omega)
          have q204:0 < (l0.length:Int):=of_decide_eq_true (by assumption);obtain⟨ad204,e204,hx204_0⟩:=Kd.at_int HR0.out 0 p204 q204;have hw204_0:=hx204_0
          (try rw[show((0:Int)).toNat=0 from rfl]at hw204_0)
          (try rw[show 0 * 1=0 from rfl]at hw204_0)
          (try rw[Addr.add_zero']at hw204_0)
          cases e204;have qi204:(0 < l0.length)=True:=eq_true (by omega)
          (try rw[show((0:Int)).toNat=0 from rfl]at hx204_0)
          (try rw[Addr.add_zero']at hx204_0)
          replace hx204_0:=(HB.out.cell (World.block_lt_of_cell? w _ hx204_0)).trans hx204_0
          replace p204:=eq_true p204
          replace q204:=eq_true q204
          have p206:0<=((ji7):Int):=of_decide_eq_true (by assumption);have q206:(ji7) < (l0.length:Int):=of_decide_eq_true (by assumption);obtain⟨ad206,e206,hx206_0⟩:=Kd.at_int HR0.out (ji7) p206 q206;have hw206_0:=hx206_0;obtain rfl:ad204=ad206:=(by injection e206)
          replace hx206_0:=(HB.out.cell (World.block_lt_of_cell? w _ hx206_0)).trans hx206_0
          replace p206:=eq_true p206
          replace q206:=eq_true q206
          refine start_ (n:=14) (S:=fun w'=>w'.cell? ad204=some (.int .i64 (rd l0 0))/\w'.cell? (ad204.add ((ji7)).toNat)=some (.int .i64 (rd l0 (ji7)))) (ds:=[]) #[false,false,false,false,false,false,false,false,false,false,false,false,false,false] (by kernel_rfl) rfl rfl ⟨((HB.out.cell (World.block_lt_of_cell? w _ hw204_0)).trans hw204_0),((HB.out.cell (World.block_lt_of_cell? w _ hw206_0)).trans hw206_0)⟩ (fun hHeld=>?_); refine with_tabW remouldref07_Shape.tab3 remouldref07_Shape.bits3 (fun HT_ HW_=>?_);generalize w.drew=w16 at HB hx204_0 hx206_0 hHeld ⊢;refine pure_ (i:=0) (N:=some 12) (v:=?_) (a':=?_) #[true,false,false,false,false,false,false,false,false,false,false,false,false,false] rfl rfl (any_of HT_.out (by kernel_rfl)) (fun _ _ _ h=>h) (Or.inl ⟨by rfl,?_⟩) ?_ ?_
          rotate_left
          ·
           intro w';go_simp
           with_reducible rfl
          rotate_left
          · simp only[Act.put,List.setIfInBounds_toArray,List.set_cons_zero,List.set_cons_succ,i64_w,i32_w];rfl
          refine pure_ (i:=1) (N:=some 13) (v:=?_) (a':=?_) #[true,true,false,false,false,false,false,false,false,false,false,false,false,false] rfl rfl (any_of HT_.out (by kernel_rfl)) (fun _ _ _ h=>h) (Or.inl ⟨by rfl,?_⟩) ?_ ?_
          rotate_left
          ·
           intro w';go_simp
           with_reducible rfl
          rotate_left
          · simp only[Act.put,List.setIfInBounds_toArray,List.set_cons_zero,List.set_cons_succ,i64_w,i32_w];rfl
          refine pure_ (i:=5) (N:=some 17) (v:=?_) (a':=?_) #[true,true,false,false,false,true,false,false,false,false,false,false,false,false] rfl rfl (any_of HT_.out (by kernel_rfl)) (fun _ _ _ h=>h) (Or.inl ⟨by rfl,?_⟩) ?_ ?_
          rotate_left
          ·
           intro w';go_simp
           with_reducible rfl
          rotate_left
          · simp only[Act.put,List.setIfInBounds_toArray,List.set_cons_zero,List.set_cons_succ,i64_w,i32_w];rfl
          refine pure_ (i:=6) (N:=some 18) (v:=?_) (a':=?_) #[true,true,false,false,false,true,true,false,false,false,false,false,false,false] rfl rfl (any_of HT_.out (by kernel_rfl)) (fun _ _ _ h=>h) (Or.inl ⟨by rfl,?_⟩) ?_ ?_
          rotate_left
          ·
           intro w';go_simp
           with_reducible rfl
          rotate_left
          · simp only[Act.put,List.setIfInBounds_toArray,List.set_cons_zero,List.set_cons_succ,i64_w,i32_w];rfl
          refine pure_ (i:=7) (N:=some 19) (v:=?_) (a':=?_) #[true,true,false,false,false,true,true,true,false,false,false,false,false,false] rfl rfl (any_of HT_.out (by kernel_rfl)) (fun _ _ _ h=>h) (Or.inl ⟨by rfl,?_⟩) ?_ ?_
          rotate_left
          ·
           intro w';go_simp
           with_reducible rfl
          rotate_left
          · simp only[Act.put,List.setIfInBounds_toArray,List.set_cons_zero,List.set_cons_succ,i64_w,i32_w];rfl
          refine pure_ (i:=8) (N:=some 20) (v:=?_) (a':=?_) #[true,true,false,false,false,true,true,true,true,false,false,false,false,false] rfl rfl (any_of HT_.out (by kernel_rfl)) (fun _ _ _ h=>h) (Or.inl ⟨by rfl,?_⟩) ?_ ?_
          rotate_left
          ·
           intro w';go_simp
           with_reducible rfl
          rotate_left
          · simp only[Act.put,List.setIfInBounds_toArray,List.set_cons_zero,List.set_cons_succ,i64_w,i32_w];rfl
          refine pure_ (i:=9) (N:=some 21) (v:=?_) (a':=?_) #[true,true,false,false,false,true,true,true,true,true,false,false,false,false] rfl rfl (any_of HT_.out (by kernel_rfl)) (fun _ _ _ h=>h) (Or.inl ⟨by rfl,?_⟩) ?_ ?_
          rotate_left
          ·
           intro w';go_simp
           with_reducible rfl
          rotate_left
          · simp only[Act.put,List.setIfInBounds_toArray,List.set_cons_zero,List.set_cons_succ,i64_w,i32_w];rfl
          refine take_ (i:=2) (N:=some 14) (v:=?_) (a':=?_) #[true,true,true,false,false,true,true,true,true,true,false,false,false,false] rfl rfl (take_ofW HT_.out HW_.out (by kernel_rfl)) (fun _ _ _ h=>h) (Or.inl ⟨by rfl,?_⟩) hHeld ?_ ?_
          rotate_left
          ·
           rintro w' ⟨s0,s1⟩;go_simp
           with_reducible rfl
          rotate_left
          · simp only[Act.put,List.setIfInBounds_toArray,List.set_cons_zero,List.set_cons_succ,i64_w,i32_w];rfl
          refine take_ (i:=10) (N:=some 22) (v:=?_) (a':=?_) #[true,true,true,false,false,true,true,true,true,true,true,false,false,false] rfl rfl (take_ofW HT_.out HW_.out (by kernel_rfl)) (fun _ _ _ h=>h) (Or.inl ⟨by rfl,?_⟩) hHeld ?_ ?_
          rotate_left
          ·
           rintro w' ⟨s0,s1⟩;go_simp
           with_reducible rfl
          rotate_left
          · simp only[Act.put,List.setIfInBounds_toArray,List.set_cons_zero,List.set_cons_succ,i64_w,i32_w];rfl
          refine one_ (i:=3) (N:=some 15) #[true,true,true,true,false,true,true,true,true,true,true,false,false,false] rfl rfl (one_of HT_.out (by kernel_rfl)) (by decide) (fun K hK=>?_);refine goes_ Tryz.func37 (by kernel_rfl) rfl #[.int .i64 (rd l0 0)] (by rfl) rfl rfl (by(try simp only[List.map_toArray,List.map_cons,List.map_nil]); first | done | rfl | (simp only[List.length_drop,List.length_take]; rfl)) ?_
          with_reducible refine(remouldref07_Digits.calls k (rd l0 0) t205 _ A5.out).mono ?_
          rintro e w' ⟨rfl,⟨nd,rfl⟩⟩;refine⟨_,rfl,?_⟩;refine hK.out _ _ ⟨((HB.out.cell (World.block_lt_of_cell? w _ hw204_0)).trans hw204_0),((HB.out.cell (World.block_lt_of_cell? w _ hw206_0)).trans hw206_0)⟩ (fun hHeld=>?_);clear hK K;refine norm_ (a':=?_) ?_ ?_
          rotate_left
          · show Act.put _ (some 15) _=_;simp only[Act.put,List.setIfInBounds_toArray,List.set_cons_zero,List.set_cons_succ,i64_w,i32_w];rfl
          refine pure_ (i:=4) (N:=some 16) (v:=?_) (a':=?_) #[true,true,true,true,true,true,true,true,true,true,true,false,false,false] rfl rfl (any_of HT_.out (by kernel_rfl)) (fun _ _ _ h=>h) (Or.inl ⟨by rfl,?_⟩) ?_ ?_
          rotate_left
          ·
           intro w';go_simp
           with_reducible rfl
          rotate_left
          · simp only[Act.put,List.setIfInBounds_toArray,List.set_cons_zero,List.set_cons_succ,i64_w,i32_w];rfl
          refine one_ (i:=11) (N:=some 23) #[true,true,true,true,true,true,true,true,true,true,true,true,false,false] rfl rfl (one_of HT_.out (by kernel_rfl)) (by decide) (fun K hK=>?_);refine goes_ Tryz.func37 (by kernel_rfl) rfl #[.int .i64 (rd l0 (ji7))] (by rfl) rfl rfl (by(try simp only[List.map_toArray,List.map_cons,List.map_nil]); first | done | (simp only[hji7]; rfl) | rfl | (simp only[List.length_drop,List.length_take]; rfl)) ?_
          with_reducible refine(remouldref07_Digits.calls k (rd l0 (ji7)) t207 _ A10.out).mono ?_
          rintro e w' ⟨rfl,⟨nd,rfl⟩⟩;refine⟨_,rfl,?_⟩;refine hK.out _ _ ⟨((HB.out.cell (World.block_lt_of_cell? w _ hw204_0)).trans hw204_0),((HB.out.cell (World.block_lt_of_cell? w _ hw206_0)).trans hw206_0)⟩ (fun hHeld=>?_);clear hK K;refine norm_ (a':=?_) ?_ ?_
          rotate_left
          · show Act.put _ (some 23) _=_;simp only[Act.put,List.setIfInBounds_toArray,List.set_cons_zero,List.set_cons_succ,i64_w,i32_w];rfl
          refine pure_ (i:=12) (N:=some 24) (v:=?_) (a':=?_) #[true,true,true,true,true,true,true,true,true,true,true,true,true,false] rfl rfl (any_of HT_.out (by kernel_rfl)) (fun _ _ _ h=>h) (Or.inl ⟨by rfl,?_⟩) ?_ ?_
          rotate_left
          ·
           intro w';go_simp
           with_reducible rfl
          rotate_left
          · simp only[Act.put,List.setIfInBounds_toArray,List.set_cons_zero,List.set_cons_succ,i64_w,i32_w];rfl
          refine pure_ (i:=13) (N:=some 5) (v:=?_) (a':=?_) #[true,true,true,true,true,true,true,true,true,true,true,true,true,true] rfl rfl (any_of HT_.out (by kernel_rfl)) (fun _ _ _ h=>h) (Or.inl ⟨by rfl,?_⟩) ?_ ?_
          rotate_left
          ·
           intro w';go_simp
           with_reducible rfl
          rotate_left
          · simp only[Act.put,List.setIfInBounds_toArray,List.set_cons_zero,List.set_cons_succ,i64_w,i32_w];rfl
          refine done_ (done_of HT_.out (by kernel_rfl)) ?_;try go_wp2
          go_ret
          exact⟨by first | rfl | (simp[errW_none,errW_some] <;> rfl) | (simp only[<-hji7]; first | rfl | (simp[errW_none,errW_some] <;> rfl)) | (simp[*,errW_none,errW_some] <;> rfl),by repeat (first | (with_reducible first | exact HB.out | apply below_alloc | apply pw_below_drewN | apply below_drew1) | exact HB.out)⟩
         · rw[if_neg c15]at H;exact absurd H (by simp)
        ·
         rw[if_neg c14]at H;have c14b0:((l0.length:Int) == 1)=false:=beq_eq_false_iff_ne.mpr c14;have c14b1:((l0.length:Int) != 1)=true:=bne_iff_ne.mpr c14
         replace H:=Option.bind_eq_some_iff.mp H
         obtain⟨⟨t208,t209⟩,A170,H⟩:=H
         replace H:(if ((t205 ++ (⟨#[58]⟩:ByteArray)) ++ t207).size+1<=9223372036854775807 then ((remouldref07_Shape.f k t208 (wrap64 (a1-1))).bind fun t214=>(if (((t205 ++ (⟨#[58]⟩:ByteArray)) ++ t207) ++ (⟨#[40]⟩:ByteArray)).size+t214.size<=9223372036854775807 then (remouldref07_Shape.l0 k a1 ((((t205 ++ (⟨#[58]⟩:ByteArray)) ++ t207) ++ (⟨#[40]⟩:ByteArray)) ++ t214) t208 t209 0) else (none))) else (none))=some r:=H
         have A17:=Aside0.mk A170;clear A170
         by_cases c18:((t205 ++ (⟨#[58]⟩:ByteArray)) ++ t207).size+1<=9223372036854775807
         ·
          rw[if_pos c18]at H;have c18b0:=eq_true c18;have c18b1:decide (((t205 ++ (⟨#[58]⟩:ByteArray)) ++ t207).size+1<=9223372036854775807)=true:=decide_eq_true c18;try have c18b2:(9223372036854775807 < ((t205 ++ (⟨#[58]⟩:ByteArray)) ++ t207).size+1)=False:=eq_false (Nat.not_lt.2 c18)
          have c18b3:(9223372036854775807 < t205.size+1+t207.size+1)=False:=eq_false (Nat.not_lt.2 (by have h_:=c18; simp only[ByteArray.size_append]at h_; exact h_))
          replace H:=Option.bind_eq_some_iff.mp H
          obtain⟨t214,A190,H⟩:=H
          replace H:(if (((t205 ++ (⟨#[58]⟩:ByteArray)) ++ t207) ++ (⟨#[40]⟩:ByteArray)).size+t214.size<=9223372036854775807 then (remouldref07_Shape.l0 k a1 ((((t205 ++ (⟨#[58]⟩:ByteArray)) ++ t207) ++ (⟨#[40]⟩:ByteArray)) ++ t214) t208 t209 0) else (none))=some r:=H
          have A19:=Aside0.mk A190;clear A190
          by_cases c20:(((t205 ++ (⟨#[58]⟩:ByteArray)) ++ t207) ++ (⟨#[40]⟩:ByteArray)).size+t214.size<=9223372036854775807
          ·
           rw[if_pos c20]at H;have c20b0:=eq_true c20;have c20b1:decide ((((t205 ++ (⟨#[58]⟩:ByteArray)) ++ t207) ++ (⟨#[40]⟩:ByteArray)).size+t214.size<=9223372036854775807)=true:=decide_eq_true c20;try have c20b2:(9223372036854775807 < (((t205 ++ (⟨#[58]⟩:ByteArray)) ++ t207) ++ (⟨#[40]⟩:ByteArray)).size+t214.size)=False:=eq_false (Nat.not_lt.2 c20)
           have c20b3:(9223372036854775807 < t205.size+1+t207.size+1+t214.size)=False:=eq_false (Nat.not_lt.2 (by have h_:=c20; simp only[ByteArray.size_append]at h_; exact h_));have H':=Aside0.mk H;clear H;go_enter Tryz.func12,Tryz.ntmps12;try go_wp2
           have n0_:=Aside0.mk (below_drew1 HB.out);clear HB;have HB:=n0_;clear n0_;have p204:0<=(0:Int):=(by omega)
           have q204:0 < (l0.length:Int):=of_decide_eq_true (by assumption);obtain⟨ad204,e204,hx204_0⟩:=Kd.at_int HR0.out 0 p204 q204;have hw204_0:=hx204_0
           (try rw[show((0:Int)).toNat=0 from rfl]at hw204_0)
           (try rw[show 0 * 1=0 from rfl]at hw204_0)
           (try rw[Addr.add_zero']at hw204_0)
           cases e204;have qi204:(0 < l0.length)=True:=eq_true (by omega)
           (try rw[show((0:Int)).toNat=0 from rfl]at hx204_0)
           (try rw[Addr.add_zero']at hx204_0)
           replace hx204_0:=(HB.out.cell (World.block_lt_of_cell? w _ hx204_0)).trans hx204_0
           replace p204:=eq_true p204
           replace q204:=eq_true q204
           have p206:0<=((ji7):Int):=of_decide_eq_true (by assumption);have q206:(ji7) < (l0.length:Int):=of_decide_eq_true (by assumption);obtain⟨ad206,e206,hx206_0⟩:=Kd.at_int HR0.out (ji7) p206 q206;have hw206_0:=hx206_0;obtain rfl:ad204=ad206:=(by injection e206)
           replace hx206_0:=(HB.out.cell (World.block_lt_of_cell? w _ hx206_0)).trans hx206_0
           replace p206:=eq_true p206
           replace q206:=eq_true q206
           refine start_ (n:=14) (S:=fun w'=>w'.cell? ad204=some (.int .i64 (rd l0 0))/\w'.cell? (ad204.add ((ji7)).toNat)=some (.int .i64 (rd l0 (ji7)))) (ds:=[]) #[false,false,false,false,false,false,false,false,false,false,false,false,false,false] (by kernel_rfl) rfl rfl ⟨((HB.out.cell (World.block_lt_of_cell? w _ hw204_0)).trans hw204_0),((HB.out.cell (World.block_lt_of_cell? w _ hw206_0)).trans hw206_0)⟩ (fun hHeld=>?_); refine with_tabW remouldref07_Shape.tab3 remouldref07_Shape.bits3 (fun HT_ HW_=>?_);generalize w.drew=w21 at HB hx204_0 hx206_0 hHeld ⊢;refine pure_ (i:=0) (N:=some 12) (v:=?_) (a':=?_) #[true,false,false,false,false,false,false,false,false,false,false,false,false,false] rfl rfl (any_of HT_.out (by kernel_rfl)) (fun _ _ _ h=>h) (Or.inl ⟨by rfl,?_⟩) ?_ ?_
           rotate_left
           ·
            intro w';go_simp
            with_reducible rfl
           rotate_left
           · simp only[Act.put,List.setIfInBounds_toArray,List.set_cons_zero,List.set_cons_succ,i64_w,i32_w];rfl
           refine pure_ (i:=1) (N:=some 13) (v:=?_) (a':=?_) #[true,true,false,false,false,false,false,false,false,false,false,false,false,false] rfl rfl (any_of HT_.out (by kernel_rfl)) (fun _ _ _ h=>h) (Or.inl ⟨by rfl,?_⟩) ?_ ?_
           rotate_left
           ·
            intro w';go_simp
            with_reducible rfl
           rotate_left
           · simp only[Act.put,List.setIfInBounds_toArray,List.set_cons_zero,List.set_cons_succ,i64_w,i32_w];rfl
           refine pure_ (i:=5) (N:=some 17) (v:=?_) (a':=?_) #[true,true,false,false,false,true,false,false,false,false,false,false,false,false] rfl rfl (any_of HT_.out (by kernel_rfl)) (fun _ _ _ h=>h) (Or.inl ⟨by rfl,?_⟩) ?_ ?_
           rotate_left
           ·
            intro w';go_simp
            with_reducible rfl
           rotate_left
           · simp only[Act.put,List.setIfInBounds_toArray,List.set_cons_zero,List.set_cons_succ,i64_w,i32_w];rfl
           refine pure_ (i:=6) (N:=some 18) (v:=?_) (a':=?_) #[true,true,false,false,false,true,true,false,false,false,false,false,false,false] rfl rfl (any_of HT_.out (by kernel_rfl)) (fun _ _ _ h=>h) (Or.inl ⟨by rfl,?_⟩) ?_ ?_
           rotate_left
           ·
            intro w';go_simp
            with_reducible rfl
           rotate_left
           · simp only[Act.put,List.setIfInBounds_toArray,List.set_cons_zero,List.set_cons_succ,i64_w,i32_w];rfl
           refine pure_ (i:=7) (N:=some 19) (v:=?_) (a':=?_) #[true,true,false,false,false,true,true,true,false,false,false,false,false,false] rfl rfl (any_of HT_.out (by kernel_rfl)) (fun _ _ _ h=>h) (Or.inl ⟨by rfl,?_⟩) ?_ ?_
           rotate_left
           ·
            intro w';go_simp
            with_reducible rfl
           rotate_left
           · simp only[Act.put,List.setIfInBounds_toArray,List.set_cons_zero,List.set_cons_succ,i64_w,i32_w];rfl
           refine pure_ (i:=8) (N:=some 20) (v:=?_) (a':=?_) #[true,true,false,false,false,true,true,true,true,false,false,false,false,false] rfl rfl (any_of HT_.out (by kernel_rfl)) (fun _ _ _ h=>h) (Or.inl ⟨by rfl,?_⟩) ?_ ?_
           rotate_left
           ·
            intro w';go_simp
            with_reducible rfl
           rotate_left
           · simp only[Act.put,List.setIfInBounds_toArray,List.set_cons_zero,List.set_cons_succ,i64_w,i32_w];rfl
           refine pure_ (i:=9) (N:=some 21) (v:=?_) (a':=?_) #[true,true,false,false,false,true,true,true,true,true,false,false,false,false] rfl rfl (any_of HT_.out (by kernel_rfl)) (fun _ _ _ h=>h) (Or.inl ⟨by rfl,?_⟩) ?_ ?_
           rotate_left
           ·
            intro w';go_simp
            with_reducible rfl
           rotate_left
           · simp only[Act.put,List.setIfInBounds_toArray,List.set_cons_zero,List.set_cons_succ,i64_w,i32_w];rfl
           refine take_ (i:=2) (N:=some 14) (v:=?_) (a':=?_) #[true,true,true,false,false,true,true,true,true,true,false,false,false,false] rfl rfl (take_ofW HT_.out HW_.out (by kernel_rfl)) (fun _ _ _ h=>h) (Or.inl ⟨by rfl,?_⟩) hHeld ?_ ?_
           rotate_left
           ·
            rintro w' ⟨s0,s1⟩;go_simp
            with_reducible rfl
           rotate_left
           · simp only[Act.put,List.setIfInBounds_toArray,List.set_cons_zero,List.set_cons_succ,i64_w,i32_w];rfl
           refine take_ (i:=10) (N:=some 22) (v:=?_) (a':=?_) #[true,true,true,false,false,true,true,true,true,true,true,false,false,false] rfl rfl (take_ofW HT_.out HW_.out (by kernel_rfl)) (fun _ _ _ h=>h) (Or.inl ⟨by rfl,?_⟩) hHeld ?_ ?_
           rotate_left
           ·
            rintro w' ⟨s0,s1⟩;go_simp
            with_reducible rfl
           rotate_left
           · simp only[Act.put,List.setIfInBounds_toArray,List.set_cons_zero,List.set_cons_succ,i64_w,i32_w];rfl
           refine one_ (i:=3) (N:=some 15) #[true,true,true,true,false,true,true,true,true,true,true,false,false,false] rfl rfl (one_of HT_.out (by kernel_rfl)) (by decide) (fun K hK=>?_);refine goes_ Tryz.func37 (by kernel_rfl) rfl #[.int .i64 (rd l0 0)] (by rfl) rfl rfl (by(try simp only[List.map_toArray,List.map_cons,List.map_nil]); first | done | rfl | (simp only[List.length_drop,List.length_take]; rfl)) ?_
           with_reducible refine(remouldref07_Digits.calls k (rd l0 0) t205 _ A5.out).mono ?_
           rintro e w' ⟨rfl,⟨nd,rfl⟩⟩;refine⟨_,rfl,?_⟩;refine hK.out _ _ ⟨((HB.out.cell (World.block_lt_of_cell? w _ hw204_0)).trans hw204_0),((HB.out.cell (World.block_lt_of_cell? w _ hw206_0)).trans hw206_0)⟩ (fun hHeld=>?_);clear hK K;refine norm_ (a':=?_) ?_ ?_
           rotate_left
           · show Act.put _ (some 15) _=_;simp only[Act.put,List.setIfInBounds_toArray,List.set_cons_zero,List.set_cons_succ,i64_w,i32_w];rfl
           refine pure_ (i:=4) (N:=some 16) (v:=?_) (a':=?_) #[true,true,true,true,true,true,true,true,true,true,true,false,false,false] rfl rfl (any_of HT_.out (by kernel_rfl)) (fun _ _ _ h=>h) (Or.inl ⟨by rfl,?_⟩) ?_ ?_
           rotate_left
           ·
            intro w';go_simp
            with_reducible rfl
           rotate_left
           · simp only[Act.put,List.setIfInBounds_toArray,List.set_cons_zero,List.set_cons_succ,i64_w,i32_w];rfl
           refine one_ (i:=11) (N:=some 23) #[true,true,true,true,true,true,true,true,true,true,true,true,false,false] rfl rfl (one_of HT_.out (by kernel_rfl)) (by decide) (fun K hK=>?_);refine goes_ Tryz.func37 (by kernel_rfl) rfl #[.int .i64 (rd l0 (ji7))] (by rfl) rfl rfl (by(try simp only[List.map_toArray,List.map_cons,List.map_nil]); first | done | (simp only[hji7]; rfl) | rfl | (simp only[List.length_drop,List.length_take]; rfl)) ?_
           with_reducible refine(remouldref07_Digits.calls k (rd l0 (ji7)) t207 _ A10.out).mono ?_
           rintro e w' ⟨rfl,⟨nd,rfl⟩⟩;refine⟨_,rfl,?_⟩;refine hK.out _ _ ⟨((HB.out.cell (World.block_lt_of_cell? w _ hw204_0)).trans hw204_0),((HB.out.cell (World.block_lt_of_cell? w _ hw206_0)).trans hw206_0)⟩ (fun hHeld=>?_);clear hK K;refine norm_ (a':=?_) ?_ ?_
           rotate_left
           · show Act.put _ (some 23) _=_;simp only[Act.put,List.setIfInBounds_toArray,List.set_cons_zero,List.set_cons_succ,i64_w,i32_w];rfl
           refine pure_ (i:=12) (N:=some 24) (v:=?_) (a':=?_) #[true,true,true,true,true,true,true,true,true,true,true,true,true,false] rfl rfl (any_of HT_.out (by kernel_rfl)) (fun _ _ _ h=>h) (Or.inl ⟨by rfl,?_⟩) ?_ ?_
           rotate_left
           ·
            intro w';go_simp
            with_reducible rfl
           rotate_left
           · simp only[Act.put,List.setIfInBounds_toArray,List.set_cons_zero,List.set_cons_succ,i64_w,i32_w];rfl
           refine pure_ (i:=13) (N:=some 5) (v:=?_) (a':=?_) #[true,true,true,true,true,true,true,true,true,true,true,true,true,true] rfl rfl (any_of HT_.out (by kernel_rfl)) (fun _ _ _ h=>h) (Or.inl ⟨by rfl,?_⟩) ?_ ?_
           rotate_left
           ·
            intro w';go_simp
            with_reducible rfl
           rotate_left
           · simp only[Act.put,List.setIfInBounds_toArray,List.set_cons_zero,List.set_cons_succ,i64_w,i32_w];rfl
           refine done_ (done_of HT_.out (by kernel_rfl)) ?_;try go_wp2_with (first | ((with_reducible refine gate_callee (f:=38) rfl ?_); refine goesL_ (some 36) rfl rfl Tryz.func38 (by kernel_rfl) rfl #[.slice (some ad204) l0.length c0,.int .i64 a1] rfl (by(try simp only[List.map_toArray,List.map_cons,List.map_nil]); first | done | rfl | (simp only[List.length_drop,List.length_take]; rfl)) ?_; (with_reducible refine(remouldref07_shelves.calls k _ _ l0 a1 t208 t209 _ ?side1 ?side2 A17.out).mono ?_); (case side1=>repeat (first | exact(Kd.C_below HR0.out (by repeat (first | (with_reducible first | exact HB.out | apply below_alloc | apply pw_below_drewN | apply below_drew1) | exact HB.out))) | (with_reducible refine Kd.C_alloc ?_ _) | (with_reducible refine Kd.C_drewN ?_ _) | (with_reducible refine Kd.C_drew ?_))); (case side2=>exact HC0.out); rintro e w22 ⟨v210,v212,rfl,ho0,ho1,hb⟩; refine⟨_,rfl,?_⟩; have n0_:=Aside0.mk (Kd.R_lower ho0 (below_size (by repeat (first | (with_reducible first | exact HB.out | apply below_alloc | apply pw_below_drewN | apply below_drew1) | exact HB.out)))); have n1_:=Aside0.mk (Kd.S_lower ho1 (below_size (by repeat (first | (with_reducible first | exact HB.out | apply below_alloc | apply pw_below_drewN | apply below_drew1) | exact HB.out)))); have n2_:=Aside0.mk (below_step (by repeat (first | (with_reducible first | exact HB.out | apply below_alloc | apply pw_below_drewN | apply below_drew1) | exact HB.out)) hb); clear HB; have HO211:=n0_; have HO213:=n1_; have HB:=n2_; clear n0_ n1_ n2_; (try clear hb); (try clear hb2); (try clear hk); (try clear hi); (try clear ho0); (try clear ho1); obtain⟨Ao23,co23,eo23⟩:=Kd.R_slice HO211.out; subst eo23) | ((with_reducible refine gate_callee (f:=12) rfl ?_); refine goesL_ (some 44) rfl rfl Tryz.func12 (by kernel_rfl) rfl #[.slice Ao23 t208.length co23,.int .i64 (wrap64 (a1-1))] rfl (by(try simp only[List.map_toArray,List.map_cons,List.map_nil]); first | done | rfl | (simp only[List.length_drop,List.length_take]; rfl)) ?_; (with_reducible refine(ih k (by omega) _ _ t208 (wrap64 (a1-1)) t214 _ ?side1 ?side2 A19.out).mono ?_); (case side1=>repeat (first | exact(Kd.R_reads' HO211.out).2.2 | (with_reducible refine Kd.C_alloc ?_ _) | (with_reducible refine Kd.C_drewN ?_ _) | (with_reducible refine Kd.C_drew ?_))); (case side2=>exact(Kd.R_reads' HO211.out).2.1); rintro e w24 ⟨rfl,hb⟩; refine⟨_,rfl,?_⟩; have n0_:=Aside0.mk (Kd.R_below (by(with_reducible repeat (first | apply Kd.R_alloc | apply Kd.R_drewN | apply Kd.R_drew)); exact HO211.out) hb); have n1_:=Aside0.mk (Kd.S_below (by(with_reducible repeat (first | apply Kd.S_alloc | apply Kd.S_drewN | apply Kd.S_drew)); exact HO213.out) hb); have n2_:=Aside0.mk (below_step (by repeat (first | (with_reducible first | exact HB.out | apply below_alloc | apply pw_below_drewN | apply below_drew1) | exact HB.out)) hb); clear HO211; clear HO213; clear HB; have HO211:=n0_; have HO213:=n1_; have HB:=n2_; clear n0_ n1_ n2_; (try clear hb); (try clear hb2); (try clear hk); (try clear hi)))
           go_loopg [5,8] k (fun kq v5 v8 w'=>∃(x5_1:ByteArray) (x8_1:Int),v5=.string x5_1/\v8=.int .i64 x8_1/\Aside0 (remouldref07_Shape.l0 kq a1 x5_1 t208 t209 x8_1=some r)/\Aside0 (kq<=k)/\Aside0 (Kd.R (Kd.int .i64) 3 w' w.heap.size (fun _=>True) (.slice Ao23 t208.length co23) t208)/\Aside0 (Kd.S (Kd.slice 3 (Kd.int .i64)) 28 w' w.heap.size (fun k_=>some k_≠((.slice Ao23 t208.length co23):Value).ownBlock) v212 t209)/\Aside0 (Below w.heap.size w w'))
           case atStart=>exact⟨((((t205 ++ (⟨#[58]⟩:ByteArray)) ++ t207) ++ (⟨#[40]⟩:ByteArray)) ++ t214),(0),(by first | rfl | (simp; done) | (simp[*]; done)),(by first | rfl | (simp; done) | (simp[*]; done)),H',⟨Nat.le_refl _⟩,⟨by(with_reducible repeat (first | apply Kd.R_alloc | apply Kd.R_drewN | apply Kd.R_drew)); exact HO211.out⟩,⟨by(with_reducible repeat (first | apply Kd.S_alloc | apply Kd.S_drewN | apply Kd.S_drew)); exact HO213.out⟩,⟨by repeat (first | (with_reducible first | exact HB.out | apply below_alloc | apply pw_below_drewN | apply below_drew1) | exact HB.out)⟩⟩
           case round =>
            clear H';try clear c1
            try clear c2
            try clear p2
            try clear q2
            try clear hx2
            try clear qi2
            try clear c3
            try clear c3b0
            try clear c3b1
            try clear c3b2
            try clear c4
            try clear c4b0
            try clear c4b1
            try clear c6
            try clear c6b0
            try clear c6b1
            try clear c6b2
            try clear p6
            try clear c8
            try clear c8b0
            try clear c9
            try clear c9b0
            try clear c11
            try clear c11b0
            try clear c11b1
            try clear c11b2
            try clear c12
            try clear c12b0
            try clear c12b1
            try clear c14
            try clear c14b0
            try clear c14b1
            try clear c15
            try clear c15b0
            try clear c15b1
            try clear c15b2
            try clear c18
            try clear c18b0
            try clear c18b1
            try clear c18b2
            try clear c20
            try clear c20b0
            try clear c20b1
            try clear c20b2
            try clear p20
            try clear q20
            try clear hx20
            try clear qi20
            try clear hx204_0
            try clear hx206_0
            try clear p204
            try clear p206
            try clear q204
            try clear q206
            obtain⟨x5_1,x8_1,rfl,rfl,HA,HK1,HO_6,HO_7,HB⟩:=hrel;cases gk with
            | zero=>exact absurd HA.out (by simp[remouldref07_Shape.l0])
            | succ k1 =>
             have H:=HA.out;clear HA;simp only[remouldref07_Shape.l0]at H
             by_cases c25:x8_1 < (t208.length:Int)
             ·
              rw[if_pos c25]at H;have c25b0:decide (x8_1 < (t208.length:Int))=true:=decide_eq_true c25;clear c25
              by_cases c26:x5_1.size+1<=9223372036854775807
              ·
               rw[if_pos c26]at H;have c26b0:=eq_true c26;have c26b1:decide (x5_1.size+1<=9223372036854775807)=true:=decide_eq_true c26;try have c26b2:(9223372036854775807 < x5_1.size+1)=False:=eq_false (Nat.not_lt.2 c26)
               by_cases c27:0<=x8_1
               ·
                rw[if_pos c27]at H;have c27b0:decide (0<=x8_1)=true:=decide_eq_true c27;clear c27
                replace H:=Option.bind_eq_some_iff.mp H
                obtain⟨t216,A280,H⟩:=H
                replace H:(if (x5_1 ++ (⟨#[124]⟩:ByteArray)).size+t216.size<=9223372036854775807 then (if ((x5_1 ++ (⟨#[124]⟩:ByteArray)) ++ t216).size+1<=9223372036854775807 then (if x8_1 < (t209.length:Int) then ((remouldref07_Shape.f k1 (rd_L1 t209 x8_1) (wrap64 (a1-1))).bind fun t218=>(if (((x5_1 ++ (⟨#[124]⟩:ByteArray)) ++ t216) ++ (⟨#[58]⟩:ByteArray)).size+t218.size<=9223372036854775807 then (remouldref07_Shape.l0 k1 a1 ((((x5_1 ++ (⟨#[124]⟩:ByteArray)) ++ t216) ++ (⟨#[58]⟩:ByteArray)) ++ t218) t208 t209 (wrap64 (x8_1+1))) else (none))) else (none)) else (none)) else (none))=some r:=H
                have A28:=Aside0.mk A280;clear A280
                by_cases c29:(x5_1 ++ (⟨#[124]⟩:ByteArray)).size+t216.size<=9223372036854775807
                ·
                 rw[if_pos c29]at H;have c29b0:=eq_true c29;have c29b1:decide ((x5_1 ++ (⟨#[124]⟩:ByteArray)).size+t216.size<=9223372036854775807)=true:=decide_eq_true c29;try have c29b2:(9223372036854775807 < (x5_1 ++ (⟨#[124]⟩:ByteArray)).size+t216.size)=False:=eq_false (Nat.not_lt.2 c29)
                 have c29b3:(9223372036854775807 < x5_1.size+1+t216.size)=False:=eq_false (Nat.not_lt.2 (by have h_:=c29; simp only[ByteArray.size_append]at h_; exact h_))
                 by_cases c30:((x5_1 ++ (⟨#[124]⟩:ByteArray)) ++ t216).size+1<=9223372036854775807
                 ·
                  rw[if_pos c30]at H;have c30b0:=eq_true c30;have c30b1:decide (((x5_1 ++ (⟨#[124]⟩:ByteArray)) ++ t216).size+1<=9223372036854775807)=true:=decide_eq_true c30;try have c30b2:(9223372036854775807 < ((x5_1 ++ (⟨#[124]⟩:ByteArray)) ++ t216).size+1)=False:=eq_false (Nat.not_lt.2 c30)
                  have c30b3:(9223372036854775807 < x5_1.size+1+t216.size+1)=False:=eq_false (Nat.not_lt.2 (by have h_:=c30; simp only[ByteArray.size_append]at h_; exact h_))
                  by_cases c31:x8_1 < (t209.length:Int)
                  ·
                   rw[if_pos c31]at H;have c31b0:decide (x8_1 < (t209.length:Int))=true:=decide_eq_true c31;clear c31
                   replace H:=Option.bind_eq_some_iff.mp H
                   obtain⟨t218,A320,H⟩:=H
                   replace H:(if (((x5_1 ++ (⟨#[124]⟩:ByteArray)) ++ t216) ++ (⟨#[58]⟩:ByteArray)).size+t218.size<=9223372036854775807 then (remouldref07_Shape.l0 k1 a1 ((((x5_1 ++ (⟨#[124]⟩:ByteArray)) ++ t216) ++ (⟨#[58]⟩:ByteArray)) ++ t218) t208 t209 (wrap64 (x8_1+1))) else (none))=some r:=H
                   have A32:=Aside0.mk A320;clear A320
                   by_cases c33:(((x5_1 ++ (⟨#[124]⟩:ByteArray)) ++ t216) ++ (⟨#[58]⟩:ByteArray)).size+t218.size<=9223372036854775807
                   ·
                    rw[if_pos c33]at H;have c33b0:=eq_true c33;have c33b1:decide ((((x5_1 ++ (⟨#[124]⟩:ByteArray)) ++ t216) ++ (⟨#[58]⟩:ByteArray)).size+t218.size<=9223372036854775807)=true:=decide_eq_true c33;try have c33b2:(9223372036854775807 < (((x5_1 ++ (⟨#[124]⟩:ByteArray)) ++ t216) ++ (⟨#[58]⟩:ByteArray)).size+t218.size)=False:=eq_false (Nat.not_lt.2 c33)
                    have c33b3:(9223372036854775807 < x5_1.size+1+t216.size+1+t218.size)=False:=eq_false (Nat.not_lt.2 (by have h_:=c33; simp only[ByteArray.size_append]at h_; exact h_));have H':=Aside0.mk H;clear H;try go_wp2
                    have n0_:=Aside0.mk (Kd.R_drew HO_6.out);have n1_:=Aside0.mk (Kd.S_drew HO_7.out);have n2_:=Aside0.mk (below_drew1 HB.out);clear HO_6;clear HO_7;clear HB;have HO_6:=n0_;have HO_7:=n1_;have HB:=n2_;clear n0_ n1_ n2_;have p215:0<=(x8_1:Int):=of_decide_eq_true (by assumption);have q215:x8_1 < (t208.length:Int):=of_decide_eq_true (by assumption);obtain⟨ad215,e215,hx215_0⟩:=Kd.at_int (Kd.R_reads' HO_6.out).2.2 x8_1 p215 q215;cases e215
                    replace p215:=eq_true p215
                    replace q215:=eq_true q215
                    obtain⟨Ao35,co35,eo35⟩:=Kd.S_slice HO_7.out
                    (first | subst eo35 | (injection eo35 with f1_ f2_ f3_; have f4_:=f1_.symm; have f5_:=f3_.symm; clear f1_ f2_ f3_; subst f4_; subst f5_))
                    have p217:0<=(x8_1:Int):=of_decide_eq_true (by assumption);have q217:x8_1 < (t209.length:Int):=of_decide_eq_true (by assumption);obtain⟨ad217,A217_0,c217_0,e217,hx217_0,hl217_0,hi217_0⟩:=at_L1 (Kd.S_reads' HO_7.out).2.2 x8_1 p217 q217;cases e217;obtain⟨ce217,hce217,hMe217,hcc217⟩:=Kd.S_get HO_7.out [] x8_1 p217 (by first | exact q217 | exact of_decide_eq_true (by assumption) | (have e_:=(Kd.S_reads' HO_7.out).1; omega));obtain⟨ve217_0,rfl,ge217_0⟩:=hMe217;have hv217_0:=hcc217 0 _ rfl;rw[Nat.add_zero,show((Kd.slice 3 (Kd.int .i64))).sz=1 from rfl,Nat.mul_one]at hv217_0
                    replace hv217_0:=Option.some.inj (hv217_0.symm.trans hx217_0)
                    rw[hv217_0]at ge217_0;have HL217_0:=Aside0.mk (show Kd.R (Kd.int .i64) 3 _ _ _ _ (rd_L1 t209 x8_1) from ge217_0);clear hv217_0 ge217_0;clear hcc217 hce217;have HR217_0:=Aside0.mk hi217_0;have HC217_0:=Aside0.mk hl217_0;clear hi217_0 hl217_0
                    replace p217:=eq_true p217
                    replace q217:=eq_true q217
                    refine start_ (n:=18) (S:=fun w'=>w'.cell? (ad215.add (x8_1).toNat)=some (.int .i64 (rd t208 x8_1))/\w'.cell? (ad217.add (x8_1).toNat)=some (.slice A217_0 (rd_L1 t209 x8_1).length c217_0)) (ds:=[]) #[false,false,false,false,false,false,false,false,false,false,false,false,false,false,false,false,false,false] (by kernel_rfl) rfl rfl ⟨hx215_0,hx217_0⟩ (fun hHeld=>?_); refine with_tabW remouldref07_Shape.tab13 remouldref07_Shape.bits13 (fun HT_ HW_=>?_);generalize wr.drew=w34 at HO_6 HO_7 HB HL217_0 HR217_0 hx215_0 hx217_0 hHeld ⊢;refine pure_ (i:=0) (N:=some 52) (v:=?_) (a':=?_) #[true,false,false,false,false,false,false,false,false,false,false,false,false,false,false,false,false,false] rfl rfl (any_of HT_.out (by kernel_rfl)) (fun _ _ _ h=>h) (Or.inl ⟨by rfl,?_⟩) ?_ ?_
                    rotate_left
                    ·
                     intro w';go_simp
                     with_reducible rfl
                    rotate_left
                    · simp only[Act.put,List.setIfInBounds_toArray,List.set_cons_zero,List.set_cons_succ,i64_w,i32_w];rfl
                    refine pure_ (i:=1) (N:=some 53) (v:=?_) (a':=?_) #[true,true,false,false,false,false,false,false,false,false,false,false,false,false,false,false,false,false] rfl rfl (any_of HT_.out (by kernel_rfl)) (fun _ _ _ h=>h) (Or.inl ⟨by rfl,?_⟩) ?_ ?_
                    rotate_left
                    ·
                     intro w';go_simp
                     with_reducible rfl
                    rotate_left
                    · simp only[Act.put,List.setIfInBounds_toArray,List.set_cons_zero,List.set_cons_succ,i64_w,i32_w];rfl
                    refine pure_ (i:=2) (N:=some 54) (v:=?_) (a':=?_) #[true,true,true,false,false,false,false,false,false,false,false,false,false,false,false,false,false,false] rfl rfl (any_of HT_.out (by kernel_rfl)) (fun _ _ _ h=>h) (Or.inl ⟨by rfl,?_⟩) ?_ ?_
                    rotate_left
                    ·
                     intro w';go_simp
                     with_reducible rfl
                    rotate_left
                    · simp only[Act.put,List.setIfInBounds_toArray,List.set_cons_zero,List.set_cons_succ,i64_w,i32_w];rfl
                    refine pure_ (i:=3) (N:=some 55) (v:=?_) (a':=?_) #[true,true,true,true,false,false,false,false,false,false,false,false,false,false,false,false,false,false] rfl rfl (any_of HT_.out (by kernel_rfl)) (fun _ _ _ h=>h) (Or.inl ⟨by rfl,?_⟩) ?_ ?_
                    rotate_left
                    ·
                     intro w';go_simp
                     with_reducible rfl
                    rotate_left
                    · simp only[Act.put,List.setIfInBounds_toArray,List.set_cons_zero,List.set_cons_succ,i64_w,i32_w];rfl
                    refine pure_ (i:=4) (N:=some 56) (v:=?_) (a':=?_) #[true,true,true,true,true,false,false,false,false,false,false,false,false,false,false,false,false,false] rfl rfl (any_of HT_.out (by kernel_rfl)) (fun _ _ _ h=>h) (Or.inl ⟨by rfl,?_⟩) ?_ ?_
                    rotate_left
                    ·
                     intro w';go_simp
                     with_reducible rfl
                    rotate_left
                    · simp only[Act.put,List.setIfInBounds_toArray,List.set_cons_zero,List.set_cons_succ,i64_w,i32_w];rfl
                    refine pure_ (i:=9) (N:=some 61) (v:=?_) (a':=?_) #[true,true,true,true,true,false,false,false,false,true,false,false,false,false,false,false,false,false] rfl rfl (any_of HT_.out (by kernel_rfl)) (fun _ _ _ h=>h) (Or.inl ⟨by rfl,?_⟩) ?_ ?_
                    rotate_left
                    ·
                     intro w';go_simp
                     with_reducible rfl
                    rotate_left
                    · simp only[Act.put,List.setIfInBounds_toArray,List.set_cons_zero,List.set_cons_succ,i64_w,i32_w];rfl
                    refine pure_ (i:=10) (N:=some 62) (v:=?_) (a':=?_) #[true,true,true,true,true,false,false,false,false,true,true,false,false,false,false,false,false,false] rfl rfl (any_of HT_.out (by kernel_rfl)) (fun _ _ _ h=>h) (Or.inl ⟨by rfl,?_⟩) ?_ ?_
                    rotate_left
                    ·
                     intro w';go_simp
                     with_reducible rfl
                    rotate_left
                    · simp only[Act.put,List.setIfInBounds_toArray,List.set_cons_zero,List.set_cons_succ,i64_w,i32_w];rfl
                    refine pure_ (i:=11) (N:=some 63) (v:=?_) (a':=?_) #[true,true,true,true,true,false,false,false,false,true,true,true,false,false,false,false,false,false] rfl rfl (any_of HT_.out (by kernel_rfl)) (fun _ _ _ h=>h) (Or.inl ⟨by rfl,?_⟩) ?_ ?_
                    rotate_left
                    ·
                     intro w';go_simp
                     with_reducible rfl
                    rotate_left
                    · simp only[Act.put,List.setIfInBounds_toArray,List.set_cons_zero,List.set_cons_succ,i64_w,i32_w];rfl
                    refine pure_ (i:=13) (N:=some 65) (v:=?_) (a':=?_) #[true,true,true,true,true,false,false,false,false,true,true,true,false,true,false,false,false,false] rfl rfl (any_of HT_.out (by kernel_rfl)) (fun _ _ _ h=>h) (Or.inl ⟨by rfl,?_⟩) ?_ ?_
                    rotate_left
                    ·
                     intro w';go_simp
                     with_reducible rfl
                    rotate_left
                    · simp only[Act.put,List.setIfInBounds_toArray,List.set_cons_zero,List.set_cons_succ,i64_w,i32_w];rfl
                    refine pure_ (i:=14) (N:=some 66) (v:=?_) (a':=?_) #[true,true,true,true,true,false,false,false,false,true,true,true,false,true,true,false,false,false] rfl rfl (any_of HT_.out (by kernel_rfl)) (fun _ _ _ h=>h) (Or.inl ⟨by rfl,?_⟩) ?_ ?_
                    rotate_left
                    ·
                     intro w';go_simp
                     with_reducible rfl
                    rotate_left
                    · simp only[Act.put,List.setIfInBounds_toArray,List.set_cons_zero,List.set_cons_succ,i64_w,i32_w];rfl
                    refine take_ (i:=5) (N:=some 57) (v:=?_) (a':=?_) #[true,true,true,true,true,true,false,false,false,true,true,true,false,true,true,false,false,false] rfl rfl (take_ofW HT_.out HW_.out (by kernel_rfl)) (fun _ _ _ h=>h) (Or.inl ⟨by rfl,?_⟩) hHeld ?_ ?_
                    rotate_left
                    ·
                     rintro w' ⟨s0,s1⟩;go_simp
                     with_reducible rfl
                    rotate_left
                    · simp only[Act.put,List.setIfInBounds_toArray,List.set_cons_zero,List.set_cons_succ,i64_w,i32_w];rfl
                    refine take_ (i:=12) (N:=some 64) (v:=?_) (a':=?_) #[true,true,true,true,true,true,false,false,false,true,true,true,true,true,true,false,false,false] rfl rfl (take_ofW HT_.out HW_.out (by kernel_rfl)) (fun _ _ _ h=>h) (Or.inl ⟨by rfl,?_⟩) hHeld ?_ ?_
                    rotate_left
                    ·
                     rintro w' ⟨s0,s1⟩;go_simp
                     with_reducible rfl
                    rotate_left
                    · simp only[Act.put,List.setIfInBounds_toArray,List.set_cons_zero,List.set_cons_succ,i64_w,i32_w];rfl
                    refine one_ (i:=6) (N:=some 58) #[true,true,true,true,true,true,true,false,false,true,true,true,true,true,true,false,false,false] rfl rfl (one_of HT_.out (by kernel_rfl)) (by decide) (fun K hK=>?_);refine goes_ Tryz.func37 (by kernel_rfl) rfl #[.int .i64 (rd t208 x8_1)] (by rfl) rfl rfl (by(try simp only[List.map_toArray,List.map_cons,List.map_nil]); first | done | rfl | (simp only[List.length_drop,List.length_take]; rfl)) ?_
                    with_reducible refine(remouldref07_Digits.calls k1 (rd t208 x8_1) t216 _ A28.out).mono ?_
                    rintro e w' ⟨rfl,⟨nd,rfl⟩⟩;refine⟨_,rfl,?_⟩;refine hK.out _ _ ⟨hHeld.1,hHeld.2⟩ (fun hHeld=>?_);clear hK K;refine norm_ (a':=?_) ?_ ?_
                    rotate_left
                    · show Act.put _ (some 58) _=_;simp only[Act.put,List.setIfInBounds_toArray,List.set_cons_zero,List.set_cons_succ,i64_w,i32_w];rfl
                    refine pure_ (i:=7) (N:=some 59) (v:=?_) (a':=?_) #[true,true,true,true,true,true,true,true,false,true,true,true,true,true,true,false,false,false] rfl rfl (any_of HT_.out (by kernel_rfl)) (fun _ _ _ h=>h) (Or.inl ⟨by rfl,?_⟩) ?_ ?_
                    rotate_left
                    ·
                     intro w';go_simp
                     with_reducible rfl
                    rotate_left
                    · simp only[Act.put,List.setIfInBounds_toArray,List.set_cons_zero,List.set_cons_succ,i64_w,i32_w];rfl
                    refine pure_ (i:=8) (N:=some 60) (v:=?_) (a':=?_) #[true,true,true,true,true,true,true,true,true,true,true,true,true,true,true,false,false,false] rfl rfl (any_of HT_.out (by kernel_rfl)) (fun _ _ _ h=>h) (Or.inl ⟨by rfl,?_⟩) ?_ ?_
                    rotate_left
                    ·
                     intro w';go_simp
                     with_reducible rfl
                    rotate_left
                    · simp only[Act.put,List.setIfInBounds_toArray,List.set_cons_zero,List.set_cons_succ,i64_w,i32_w];rfl
                    refine one_ (i:=15) (N:=some 67) #[true,true,true,true,true,true,true,true,true,true,true,true,true,true,true,true,false,false] rfl rfl (one_of HT_.out (by kernel_rfl)) (by decide) (fun K hK=>?_);refine goes_ Tryz.func12 (by kernel_rfl) rfl #[.slice A217_0 (rd_L1 t209 x8_1).length c217_0,.int .i64 (wrap64 (a1-1))] (by rfl) rfl rfl (by(try simp only[List.map_toArray,List.map_cons,List.map_nil]); first | done | rfl | (simp only[List.length_drop,List.length_take]; rfl)) ?_
                    with_reducible refine(ih k1 (by have:=HK1.out; omega) _ _ (rd_L1 t209 x8_1) (wrap64 (a1-1)) t218 _ ?side1 ?side2 A32.out).mono ?_
                    (case side1=>repeat (first | exact(by repeat (first | (with_reducible exact HR217_0.out) | (with_reducible refine Kd.C_alloc ?_ _) | (with_reducible refine Kd.C_drewN ?_ _) | (with_reducible refine Kd.C_drew ?_) | exact HR217_0.out)) | (with_reducible refine Kd.C_alloc ?_ _) | (with_reducible refine Kd.C_drewN ?_ _) | (with_reducible refine Kd.C_drew ?_)))
                    (case side2=>exact HC217_0.out)
                    rintro e w36 ⟨rfl,hb⟩;have HS0_:=(hb.cell (World.block_lt_of_cell? _ _ (hHeld.1))).trans (hHeld.1);have HS1_:=(hb.cell (World.block_lt_of_cell? _ _ (hHeld.2))).trans (hHeld.2);refine⟨_,rfl,?_⟩;have n0_:=Aside0.mk (Kd.R_below (by(with_reducible repeat (first | apply Kd.R_alloc | apply Kd.R_drewN | apply Kd.R_drew)); exact HO_6.out) hb);have n1_:=Aside0.mk (Kd.S_below (by(with_reducible repeat (first | apply Kd.S_alloc | apply Kd.S_drewN | apply Kd.S_drew)); exact HO_7.out) hb);have n2_:=Aside0.mk (Kd.R_below (by(with_reducible repeat (first | apply Kd.R_alloc | apply Kd.R_drewN | apply Kd.R_drew)); exact HL217_0.out) hb);have n3_:=Aside0.mk (Kd.C_below (by repeat (first | (with_reducible exact HR217_0.out) | (with_reducible refine Kd.C_alloc ?_ _) | (with_reducible refine Kd.C_drewN ?_ _) | (with_reducible refine Kd.C_drew ?_) | exact HR217_0.out)) hb);have n4_:=Aside0.mk (below_step (by repeat (first | (with_reducible first | exact HB.out | apply below_alloc | apply pw_below_drewN | apply below_drew1) | exact HB.out)) hb);clear HO_6;clear HO_7;clear HL217_0;clear HR217_0;clear HB;have HO_6:=n0_;have HO_7:=n1_;have HL217_0:=n2_;have HR217_0:=n3_;have HB:=n4_;clear n0_ n1_ n2_ n3_ n4_
                    (try clear hb)
                    (try clear hb2)
                    (try clear hk)
                    (try clear hi)
                    refine hK.out _ _ ⟨HS0_,HS1_⟩ (fun hHeld=>?_);clear hK K;refine norm_ (a':=?_) ?_ ?_
                    rotate_left
                    · show Act.put _ (some 67) _=_;simp only[Act.put,List.setIfInBounds_toArray,List.set_cons_zero,List.set_cons_succ,i64_w,i32_w];rfl
                    refine pure_ (i:=16) (N:=some 68) (v:=?_) (a':=?_) #[true,true,true,true,true,true,true,true,true,true,true,true,true,true,true,true,true,false] rfl rfl (any_of HT_.out (by kernel_rfl)) (fun _ _ _ h=>h) (Or.inl ⟨by rfl,?_⟩) ?_ ?_
                    rotate_left
                    ·
                     intro w';go_simp
                     with_reducible rfl
                    rotate_left
                    · simp only[Act.put,List.setIfInBounds_toArray,List.set_cons_zero,List.set_cons_succ,i64_w,i32_w];rfl
                    refine pure_ (i:=17) (N:=some 5) (v:=?_) (a':=?_) #[true,true,true,true,true,true,true,true,true,true,true,true,true,true,true,true,true,true] rfl rfl (any_of HT_.out (by kernel_rfl)) (fun _ _ _ h=>h) (Or.inl ⟨by rfl,?_⟩) ?_ ?_
                    rotate_left
                    ·
                     intro w';go_simp
                     with_reducible rfl
                    rotate_left
                    · simp only[Act.put,List.setIfInBounds_toArray,List.set_cons_zero,List.set_cons_succ,i64_w,i32_w];rfl
                    refine done_ (done_of HT_.out (by kernel_rfl)) ?_;try go_wp2
                    go_roundg k1
                    case measure=>have:=HK1.out; omega
                    case rel=>exact⟨((((x5_1 ++ (⟨#[124]⟩:ByteArray)) ++ t216) ++ (⟨#[58]⟩:ByteArray)) ++ t218),(wrap64 (x8_1+1)),(by first | rfl | (simp; done) | (simp[*]; done)),(by first | rfl | (simp; done) | (simp[*]; done)),H',⟨by have:=HK1.out; omega⟩,⟨by(with_reducible repeat (first | apply Kd.R_alloc | apply Kd.R_drewN | apply Kd.R_drew)); exact HO_6.out⟩,⟨by(with_reducible repeat (first | apply Kd.S_alloc | apply Kd.S_drewN | apply Kd.S_drew)); exact HO_7.out⟩,⟨by repeat (first | (with_reducible first | exact HB.out | apply below_alloc | apply pw_below_drewN | apply below_drew1) | exact HB.out)⟩⟩
                   · rw[if_neg c33]at H;exact absurd H (by simp)
                  · rw[if_neg c31]at H;exact absurd H (by simp)
                 · rw[if_neg c30]at H;exact absurd H (by simp)
                · rw[if_neg c29]at H;exact absurd H (by simp)
               · rw[if_neg c27]at H;exact absurd H (by simp)
              · rw[if_neg c26]at H;exact absurd H (by simp)
             ·
              rw[if_neg c25]at H;have c25b0:decide (x8_1 < (t208.length:Int))=false:=decide_eq_false c25;clear c25
              by_cases c37:x5_1.size+1<=9223372036854775807
              ·
               rw[if_pos c37]at H;have c37b0:=eq_true c37;have c37b1:decide (x5_1.size+1<=9223372036854775807)=true:=decide_eq_true c37;try have c37b2:(9223372036854775807 < x5_1.size+1)=False:=eq_false (Nat.not_lt.2 c37)
               obtain rfl:=Option.some.inj H;go_wp2
               go_ret
               exact⟨by first | rfl | (simp[errW_none,errW_some] <;> rfl) | (simp only[<-hji7]; first | rfl | (simp[errW_none,errW_some] <;> rfl)) | (simp[*,errW_none,errW_some] <;> rfl),by repeat (first | (with_reducible first | exact HB.out | apply below_alloc | apply pw_below_drewN | apply below_drew1) | exact HB.out)⟩
              · rw[if_neg c37]at H;exact absurd H (by simp)
          · rw[if_neg c20]at H;exact absurd H (by simp)
         · rw[if_neg c18]at H;exact absurd H (by simp)
      · rw[if_neg c11]at H;exact absurd H (by simp)
     · rw[if_neg c9]at H;exact absurd H (by simp)
    · rw[if_neg c8]at H;exact absurd H (by simp)
   · rw[if_neg c6]at H;exact absurd H (by simp)
  · rw[if_neg c4]at H;exact absurd H (by simp)
end Go.Proofs.YtpnfmbeccjehiabGreatDoor.PR
