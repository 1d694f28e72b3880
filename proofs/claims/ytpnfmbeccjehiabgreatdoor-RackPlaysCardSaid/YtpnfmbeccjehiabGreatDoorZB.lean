/- The reference's Delete as the kit's print tells it. -/
import Derived.Test.YtpnfmbeccjehiabGreatDoorZ7
import Derived.Test.YtpnfmbeccjehiabGreatDoorZA
set_option maxHeartbeats 8000000
set_option maxRecDepth 100000
namespace Go.Proofs.YtpnfmbeccjehiabGreatDoor.PR
open Go.RowKit Go.Proofs.YtpnfmbeccjehiabGreatDoorW.PrintWords Go.Proofs.YtpnfmbeccjehiabGreatDoorW.PrintLast Go.Proofs.YtpnfmbeccjehiabGreatDoorW.PrintMore
attribute [local go_sem] max2_int min2_int max_two min_two max_three min_three max_four min_four
set_option linter.unusedVariables false
set_option linter.unusedSimpArgs false
/-! ### remouldref07_Delete: function 24 -/
def remouldref07_Delete.l0:Nat->List Int->Int->List Int->Int->Option (List Int)
 | 0,_,_,_,_=>none
 | k+1,x0,x1,x5,x6=>if x6 < (x0.length:Int) then (if 0<=x6 then (if (rd x0 x6)=x1 then (remouldref07_Delete.l0 k x0 x1 x5 (wrap64 (x6+1))) else (if x5.length < 17592186044416 then (remouldref07_Delete.l0 k x0 x1 (x5 ++ [rd x0 x6]) (wrap64 (x6+1))) else (none))) else (none)) else (some x5)
def remouldref07_Delete.f (k:Nat) (l0:List Int) (a1:Int):Option (List Int):=remouldref07_Delete.l0 k l0 a1 ([]:List Int) 0
theorem remouldref07_Delete.mono_l:∀k,(∀y0 y1 y2 y3,LeO (remouldref07_Delete.l0 k y0 y1 y2 y3) (remouldref07_Delete.l0 (k+1) y0 y1 y2 y3))
 | 0=>fun _ _ _ _ r h=>by simp[remouldref07_Delete.l0]at h
 | k+1=>by
  have ih0:=remouldref07_Delete.mono_l k
  ·
   intro y0 y1 y2 y3;unfold remouldref07_Delete.l0;repeat' first
   | (with_reducible exact ih0 _ _ _ _)
   | (with_reducible exact LeO.refl _)
   | (with_reducible exact LeO.none _)
   | (with_reducible refine LeO.ite ?_ ?_)
   | (with_reducible refine LeO.bind ?_ (fun _=>?_))
   | exact ih0 _ _ _ _
   | exact LeO.none _
   | refine LeO.ite ?_ ?_
   | refine LeO.bind ?_ (fun _=>?_)
theorem remouldref07_Delete.mono : ∀ a0 a1 k, LeO (remouldref07_Delete.f k a0 a1) (remouldref07_Delete.f (k + 1) a0 a1) := by
  intro a0 a1 k
  have ih0 := remouldref07_Delete.mono_l k
  unfold remouldref07_Delete.f
  repeat' first
      | (with_reducible exact ih0 _ _ _ _)
      | (with_reducible exact LeO.refl _)
      | (with_reducible exact LeO.none _)
      | (with_reducible refine LeO.ite ?_ ?_)
      | (with_reducible refine LeO.bind ?_ (fun _ => ?_))
      | exact ih0 _ _ _ _
      | exact LeO.none _
      | refine LeO.ite ?_ ?_
      | refine LeO.bind ?_ (fun _ => ?_)
theorem remouldref07_Delete.calls (k:Nat) (A0:Option Addr) (c0:Nat) (l0:List Int) (a1:Int) (r:List Int) (w:World) (hr0:Kd.C (Kd.int .i64) w A0 l0.length l0) (hc0:l0.length<=c0) (h:remouldref07_Delete.f k l0 a1=some r) :
  Calls Tryz.prog 24 #[.slice A0 l0.length c0,.int .i64 a1] w fun e w'=>∃v0_:Value,e=.returned (v0_)/\Kd.R (Kd.int .i64) 3 w' w.heap.size (fun _=>True) v0_ r/\Below w.heap.size w w':=by
 have HR0:=Aside0.mk hr0;have HC0:=Aside0.mk hc0;clear hr0 hc0;have HB:=Aside0.mk (Below.refl w.heap.size w);have H:(remouldref07_Delete.l0 k l0 a1 ([]:List Int) 0)=some r:=h;clear h;have H':=Aside0.mk H;clear H;go_enter Tryz.func24,Tryz.ntmps24;go_wp2
 go_loopg [5,6] k (fun kq v5 v6 w'=>∃(x5_1:List Int) (x6_1:Int),v6=.int .i64 x6_1/\Aside0 (remouldref07_Delete.l0 kq l0 a1 x5_1 x6_1=some r)/\Aside0 (kq<=k)/\Aside0 (Kd.R (Kd.int .i64) 3 w' w.heap.size (fun _=>True) v5 x5_1)/\Aside0 (Below w.heap.size w w'))
 case atStart=>exact⟨(([]:List Int)),(0),(by first | rfl | (simp; done) | (simp[*]; done)),H',⟨Nat.le_refl _⟩,⟨by first | exact Kd.R_nil _ _ _ _ _ | exact Kd.N_nil _ _ _ _ _ | exact Kd.V_nil _ _ _ _ _ | exact Kd.Q_nil _ _ _ _ _ | exact Kd.S_nil _ _ _ _ _⟩,⟨by repeat (first | (with_reducible first | exact HB.out | apply below_alloc | apply pw_below_drewN | apply below_drew1) | exact HB.out)⟩⟩
 case round =>
  clear H';try clear c2
  try clear p2
  obtain⟨x5_1,x6_1,rfl,HA,HK1,HO_5,HB⟩:=hrel;cases gk with
  | zero=>exact absurd HA.out (by simp[remouldref07_Delete.l0])
  | succ k1 =>
   have H:=HA.out;clear HA;simp only[remouldref07_Delete.l0]at H
   by_cases c3:x6_1 < (l0.length:Int)
   ·
    rw[if_pos c3]at H;have c3b0:decide (x6_1 < (l0.length:Int))=true:=decide_eq_true c3;clear c3
    by_cases c4:0<=x6_1
    ·
     rw[if_pos c4]at H;have c4b0:decide (0<=x6_1)=true:=decide_eq_true c4;clear c4
     by_cases c5:(rd l0 x6_1)=a1
     ·
      rw[if_pos c5]at H;have c5b0:((rd l0 x6_1) == a1)=true:=beq_iff_eq.mpr c5;have c5b1:((rd l0 x6_1) != a1)=false:=bne_eq_false_iff_eq.mpr c5;clear c5;have H':=Aside0.mk H;clear H;have p141:0<=(x6_1:Int):=of_decide_eq_true (by assumption);have q141:x6_1 < (l0.length:Int):=of_decide_eq_true (by assumption);obtain⟨ad141,e141,hx141_0⟩:=Kd.at_int HR0.out x6_1 p141 q141;cases e141
      replace hx141_0:=(HB.out.cell (World.block_lt_of_cell? w _ hx141_0)).trans hx141_0
      replace p141:=eq_true p141
      replace q141:=eq_true q141
      go_wp2
      go_roundg k1
      case measure=>have:=HK1.out; omega
      case rel=>exact⟨(x5_1),(wrap64 (x6_1+1)),(by first | rfl | (simp; done) | (simp[*]; done)),H',⟨by have:=HK1.out; omega⟩,⟨by(with_reducible repeat (first | apply Kd.R_alloc | apply Kd.R_drewN | apply Kd.R_drew)); exact HO_5.out⟩,⟨by repeat (first | (with_reducible first | exact HB.out | apply below_alloc | apply pw_below_drewN | apply below_drew1) | exact HB.out)⟩⟩
     ·
      rw[if_neg c5]at H;have c5b0:((rd l0 x6_1) == a1)=false:=beq_eq_false_iff_ne.mpr c5;have c5b1:((rd l0 x6_1) != a1)=true:=bne_iff_ne.mpr c5
      by_cases c6:x5_1.length < 17592186044416
      ·
       rw[if_pos c6]at H;have LMc6:=Aside0.mk c6;clear c6;obtain⟨y143,hy143⟩:∃y_:List Int,y_=(x5_1 ++ [rd l0 x6_1]):=⟨_,rfl⟩
       replace H:(remouldref07_Delete.l0 k1 l0 a1 y143 (wrap64 (x6_1+1)))=some r:=by first | (rw[hy143]; with_reducible exact H) | (have H2_:=(Option.bind_some _ _).symm.trans H; rw[hy143]; with_reducible exact H2_) | (have H2_:=(Option.bind_some _ _).symm.trans H; with_reducible exact H2_) | with_reducible exact H | (rw[hy143]; exact H) | exact H
       have Ny143:=Aside0.mk hy143;clear hy143;have H':=Aside0.mk H;clear H;have p141:0<=(x6_1:Int):=of_decide_eq_true (by assumption);have q141:x6_1 < (l0.length:Int):=of_decide_eq_true (by assumption);obtain⟨ad141,e141,hx141_0⟩:=Kd.at_int HR0.out x6_1 p141 q141;cases e141
       replace hx141_0:=(HB.out.cell (World.block_lt_of_cell? w _ hx141_0)).trans hx141_0
       replace p141:=eq_true p141
       replace q141:=eq_true q141
       have p142:0<=(x6_1:Int):=of_decide_eq_true (by assumption);have q142:x6_1 < (l0.length:Int):=of_decide_eq_true (by assumption);obtain⟨ad142,e142,hx142_0⟩:=Kd.at_int HR0.out x6_1 p142 q142;obtain rfl:ad141=ad142:=(by injection e142)
       replace hx142_0:=(HB.out.cell (World.block_lt_of_cell? w _ hx142_0)).trans hx142_0
       replace p142:=eq_true p142
       replace q142:=eq_true q142
       go_wp2_with (first | ((with_reducible refine gate_builtin (b:=.append) (xs:=#[.tmp 19,.tmp 24]) rfl ?_); at_builtin; refine Kd.R_append (Kd.int .i64) (w0:=w) w.heap.size rfl (.tmp 19) (.tmp 24) 28 3 (.int .i64 0) 8 rfl Tryz.underlying28 info3 rfl (by decide) (by omega) u5 x5_1 (rd l0 x6_1) [.int .i64 (rd l0 x6_1)] (fun _=>True) (fun _=>False) rfl rfl ?aP (fun _ hk=>hk.elim) ?aF ?aO ?aB ?aS ?aL ?_; (case aP=>exact rfl); (case aB=>exact(by repeat (first | (with_reducible first | exact HB.out | apply below_alloc | apply pw_below_drewN | apply below_drew1) | exact HB.out))); (case aF=>exact(fun _ _=>trivial)); (case aO=>exact(by(with_reducible repeat (first | apply Kd.R_alloc | apply Kd.R_drewN | apply Kd.R_drew)); exact HO_5.out)); (case aS=>exact(below_size (by repeat (first | (with_reducible first | exact HB.out | apply below_alloc | apply pw_below_drewN | apply below_drew1) | exact HB.out)))); (case aL=>have:=LMc6.out; omega); intro v144 w7 ho hb hg hat; rw[<-Ny143.out]at ho; have n0_:=Aside0.mk (hb); have n1_:=Aside0.mk (ho); clear HB; clear HO_5; have HB:=n0_; have HO145:=n1_; clear n0_ n1_; clear ho hb hg hat))
       go_roundg k1
       case measure=>have:=HK1.out; omega
       case rel=>exact⟨(y143),(wrap64 (x6_1+1)),(by first | rfl | (simp; done) | (simp[*]; done)),H',⟨by have:=HK1.out; omega⟩,⟨by(with_reducible repeat (first | apply Kd.R_alloc | apply Kd.R_drewN | apply Kd.R_drew)); exact HO145.out⟩,⟨by repeat (first | (with_reducible first | exact HB.out | apply below_alloc | apply pw_below_drewN | apply below_drew1) | exact HB.out)⟩⟩
      · rw[if_neg c6]at H;exact absurd H (by simp)
    · rw[if_neg c4]at H;exact absurd H (by simp)
   ·
    rw[if_neg c3]at H;have c3b0:decide (x6_1 < (l0.length:Int))=false:=decide_eq_false c3;clear c3;obtain rfl:=Option.some.inj H;go_wp2
    go_ret
    exact⟨_,by first | rfl | (simp[errW_none,errW_some] <;> rfl) | (simp[*,errW_none,errW_some] <;> rfl),by(with_reducible repeat (first | apply Kd.R_alloc | apply Kd.R_drewN | apply Kd.R_drew)); exact HO_5.out,by repeat (first | (with_reducible first | exact HB.out | apply below_alloc | apply pw_below_drewN | apply below_drew1) | exact HB.out)⟩
-- NOT PRINTED: function 26 (rack_Rack_Min)
end Go.Proofs.YtpnfmbeccjehiabGreatDoor.PR
/- What the reference's Delete comes to. -/
namespace Go.Proofs.YtpnfmbeccjehiabGreatDoor
open Go.RowKit Go.Proofs.YtpnfmbeccjehiabGreatDoorW.PrintWords Go.Proofs.YtpnfmbeccjehiabGreatDoorW.PrintLast Go.Proofs.YtpnfmbeccjehiabGreatDoorW.PrintMore
theorem delete_from (l:List Nat) (x:Nat) (hn:l.length<=1000000):∀(d j k:Nat),j+d=l.length->d < k ->
  PR.remouldref07_Delete.l0 k (zs l) (x:Int) (zs ((l.take j).filter (fun y=>!decide (y=x)))) (j:Int)=some (zs (l.filter (fun y=>!decide (y=x)))):=by
 intro d
 induction d with
 | zero =>
  intro j k hj hk;obtain⟨k,rfl⟩:∃m,k=m+1:=⟨k-1,by omega⟩
  have hz:=zs_len l;have ht:l.take j=l:=List.take_of_length_le (by omega);simp only[PR.remouldref07_Delete.l0];rw[if_neg (by omega),ht]
 | succ d ih =>
  intro j k hj hk;obtain⟨k,rfl⟩:∃m,k=m+1:=⟨k-1,by omega⟩
  obtain⟨y,hy⟩:∃y,l[j]?=some y:=⟨l[j]'(by omega),by simp[show j < l.length by omega]⟩
  have hz:=zs_len l;have hlen:(zs ((l.take j).filter (fun y=>!decide (y=x)))).length<=1000000:=by
   rw[zs_len];have:=List.length_filter_le (fun y=>!decide (y=x)) (l.take j);rw[List.length_take]at this;omega
  have hi:=ih (j+1) k (by omega) (by omega);rw[List.take_add_one,hy,Option.toList_some,List.filter_append]at hi;simp only[PR.remouldref07_Delete.l0];rw[if_pos (by omega),if_pos (by omega),rd_zs hy]
  by_cases e:(y:Int)=(x:Int)
  ·
   rw[if_pos e,wrap_s (by omega)];have e':y=x:=by omega
   simpa[e']using hi
  ·
   rw[if_neg e,if_pos (by omega),wrap_s (by omega)];have e':¬y=x:=by omega
   have e2 : [y].filter (fun y=>!decide (y=x)) = [y]:=by simp[e']
   rw[e2]at hi;rw[<-hi];simp[zs]
theorem delete_f {k:Nat} (hk:k<=3) {m:RK.S} (hs:RK.Supp k m) (x:Nat):PR.remouldref07_Delete.f ((RK.lst k m).length+1) (zs (RK.lst k m)) (x:Int)=some (zs (RK.lst k (RK.del m x))):=by
 have hn:(RK.lst k m).length<=1000000:=by have:=RK.lst_len k m; have:=RK.R_le hk; omega
 have h:=delete_from (RK.lst k m) x hn (RK.lst k m).length 0 ((RK.lst k m).length+1) (by omega) (by omega);rw[RK.lst_del hs x]at h;exact h
open Go.RowKit Go.Proofs.YtpnfmbeccjehiabGreatDoorW.PrintWords Go.Proofs.YtpnfmbeccjehiabGreatDoorW.PrintLast Go.Proofs.YtpnfmbeccjehiabGreatDoorW.PrintMore
theorem refDelete (k:Nat) (m:RK.S) (v:Value) (x:Nat) (w:World) (hk:k<=3) (hs:RK.Supp k m) (hv:LI w v (zs (RK.lst k m))) :
  Calls Tryz.prog 24 #[v,.int .i64 (x:Int)] w fun e w'=>∃v',e=.returned v'/\SetIs w' w.heap.size v' k (RK.del m x)/\Below w.heap.size w w':=by
 obtain⟨A,c,rfl,h1,h2⟩:=hv;have hf:=delete_f hk hs x;rw[<-zs_len (RK.lst k m)]at hf;refine(PR.remouldref07_Delete.calls _ A c (zs (RK.lst k m)) x _ w h2 h1 hf).mono ?_;rintro e w' ⟨v',rfl,hR,hb⟩;exact⟨v',rfl,ints_of_R hR,hb⟩
theorem pair_refDelete {w0 w:World} {rb k:Nat} {m m2:RK.S} {sv:Value} (hk:k<=3) (h:Pair w0.heap.size w rb k m m2 sv) (h0:Below w0.heap.size w0 w) (hs2:RK.Supp k m2) (x:Nat) :
  Calls Tryz.prog 24 #[sv,.int .i64 (x:Int)] w fun e w'=>∃sv',e=.returned sv'/\Pair w0.heap.size w' rb k m (RK.del m2 x) sv'/\Below w0.heap.size w0 w':=by
 obtain⟨⟨v,F,h1,h2,h3,h4⟩,h5⟩:=h;have hs:=h0.size;refine(refDelete k m2 sv x w hk hs2 (LI.own h5)).mono ?_;rintro e w' ⟨sv',rfl,hS,hb⟩;refine⟨sv',rfl,⟨⟨v,F,h1.below hb,h2,h3,fun q hq=>⟨?_,fun h=>?_⟩⟩,own_lower hS hs⟩,bl_call h0 hb hs⟩
 · have:=blk_lt h1.1; have:=(own_lt2 hS q hq).1; omega
 · have:=h1.2.1.lt k q h; have:=(own_lt2 hS q hq).1; omega
open Go.RowKit Go.Proofs.YtpnfmbeccjehiabGreatDoorW.PrintWords Go.Proofs.YtpnfmbeccjehiabGreatDoorW.PrintLast Go.Proofs.YtpnfmbeccjehiabGreatDoorW.PrintMore
namespace RK
end RK
theorem mine_min {B:Nat} {w:World} {rb k:Nat} {m:RK.S} (hk:k<=3) (h:Mine B w rb k m) {a b:Nat} (ha:RK.IsMin m a) (hb:RK.IsMax m b) :
  Calls Tryz.prog 26 #[.pointer (some ⟨rb,0,none⟩)] w fun e w'=>e=.returned (.tuple #[.int .i64 a,.int .i64 0])/\Below w.heap.size w w':=by
 obtain⟨v,F,h1,-,-⟩:=h;exact min_some k rb m v F a b w hk h1 ha hb
theorem mine_max {B:Nat} {w:World} {rb k:Nat} {m:RK.S} (hk:k<=3) (h:Mine B w rb k m) {a b:Nat} (ha:RK.IsMin m a) (hb:RK.IsMax m b) :
  Calls Tryz.prog 29 #[.pointer (some ⟨rb,0,none⟩)] w fun e w'=>e=.returned (.tuple #[.int .i64 b,.int .i64 0])/\Below w.heap.size w w':=by
 obtain⟨v,F,h1,-,-⟩:=h;exact max_some k rb m v F a b w hk h1 ha hb
theorem mine_min0 {B:Nat} {w:World} {rb k:Nat} {m:RK.S} (hk:k<=3) (h:Mine B w rb k m) (he:RK.Emp m) :
  Calls Tryz.prog 26 #[.pointer (some ⟨rb,0,none⟩)] w fun e w'=>e=.returned (.tuple #[.int .i64 0,.int .i64 6])/\Below w.heap.size w w':=by
 obtain⟨v,F,h1,-,-⟩:=h;exact min_none k rb m v F w hk h1 he
theorem mine_max0 {B:Nat} {w:World} {rb k:Nat} {m:RK.S} (hk:k<=3) (h:Mine B w rb k m) (he:RK.Emp m) :
  Calls Tryz.prog 29 #[.pointer (some ⟨rb,0,none⟩)] w fun e w'=>e=.returned (.tuple #[.int .i64 0,.int .i64 6])/\Below w.heap.size w w':=by
 obtain⟨v,F,h1,-,-⟩:=h;exact max_none k rb m v F w hk h1 he
end Go.Proofs.YtpnfmbeccjehiabGreatDoor
