/- The walk of TopBands, given that the layers are awake. -/
import Derived.Test.YtaffkceklkdokaaGreatDoorT81
import Derived.Test.YtaffkceklkdokaaGreatDoorT78
import Derived.Test.YtaffkceklkdokaaGreatDoorTX
set_option maxRecDepth 100000
set_option maxHeartbeats 4000000
namespace Go.Proofs.YtaffkceklkdokaaGreatDoor
open Go.RowKit
attribute [local go_sem ↓] Go.wp_at_zero Go.wp_at_succ
theorem bands_mod (x n:Int) (w:World) (h1:0 < n) (h2:n<=4000000) :
  Calls Tryz.prog 5 #[.int .i64 x,.int .i64 n] w fun e w'=>e=.returned (.int .i64 (topZ2 x n))/\Below w.heap.size w w':=by
 have hb:=topZ2_bd x n h1;have hne:¬n=0:=by omega
 go_enter Tryz.func5,Tryz.ntmps5;have e:wrap64 ((IntKind.u64.wrap x).tmod n)=topZ2 x n:=by
  have e1:IntKind.u64.wrap x=x % 18446744073709551616:=by simp[IntKind.wrap,IntKind.signed,IntKind.bits]
  rw[e1,Int.tmod_eq_emod_of_nonneg (Int.emod_nonneg _ (by decide))];change wrap64 (topZ2 x n)=topZ2 x n;unfold wrap64;omega
 have E:=Lib.hid e;clear e;go_wp2_with fail;rw[E.out]
 go_ret
 exact⟨rfl,(by repeat (first | exact Below.refl _ _ | exact Nat.le_refl _ | refine Below.alloc ?_ ?_ _ | refine Below.setCell ?_ ?_ _ | refine Below.drew ?_ | refine bl_drewN ?_ _ | (assumption) | refine bl_call ?_ (by assumption) ?_ | omega | (simp <;> omega)))⟩
/-- a slice of ints lies there -/
def LZ (w:World) (v:Value) (xs:List Int):Prop:=∃A c,v=.slice A xs.length c/\xs.length<=9223372036854775807/\∀j x,xs[j]?=some x->∃a,A=some a/\w.cell? (a.add j)=some (.int .i64 x)
theorem LZ.below {w w':World} {v:Value} {xs:List Int} (h:LZ w v xs) (hb:Below w.heap.size w w'):LZ w' v xs:=by
 obtain⟨A,c,h1,h2,h3⟩:=h;refine⟨A,c,h1,h2,fun j x hj=>?_⟩;obtain⟨a,h4,h5⟩:=h3 j x hj;exact⟨a,h4,keepc hb h5⟩
theorem cof_mem {l:List Nat} {k:Nat} (h:k∈l):∃p,p < l.length/\cof l p=k:=by
 obtain⟨p,hp,he⟩:=List.mem_iff_getElem.1 h;exact⟨p,hp,by simp[cof,hp,he]⟩
theorem gB6 (c:Nat->Nat) (q:Nat) : -6<=gB c q/\gB c q<=6:=by
 have h:(ptsN (clear2 (c q) (2 ^ q))).length<=6:=by unfold ptsN; exact Nat.le_trans (List.length_filter_le _ _) (by simp)
 unfold gB;omega
/-- what the layers answer -/
theorem bands_calls (n:Nat) (hn:1<=n/\n<=6) (l:List Nat) (hl:l.length=n) (es:List (Nat × Nat)) (hB:Bands n (cof l) es):∃m,1<=m/\m<=6 /\
  (∀(cv:Value) (W:World),BitTab6 W->IntsAt W cv l->Calls Tryz.prog 6 #[cv] W fun e w'=>e=.returned (.tuple #[.int .i64 ((n:Int)-es.length),.int .i64 0])/\Below W.heap.size W w') /\
  (∀(cv:Value) (W:World),BitTab6 W->IntsAt W cv l->Calls Tryz.prog 7 #[cv,.int .i64 ((2 ^ n-1:Nat):Int)] W fun e w'=>(∃g cap,e=.returned (.tuple #[.slice (some ⟨g,0,none⟩) m cap,.int .i64 0]))/\Below W.heap.size W w') /\
  (∀(ev:Value) (W:World),EdgesAt W ev es->Calls Tryz.prog 8 #[.int .i64 (n:Nat),ev] W fun e w'=>(∃t,e=.returned (.tuple #[.string t,.int .i64 0]))/\Below W.heap.size W w') /\
  (∀(ev:Value) (W:World),EdgesAt W ev es->Calls Tryz.prog 9 #[.int .i64 (n:Nat),ev] W fun e w'=>(∃t,e=.returned (.tuple #[.string t,.int .i64 (es.length:Nat),.int .i64 0]))/\Below W.heap.size W w') /\
  (∀(ev:Value) (W:World),EdgesAt W ev es->Calls Tryz.prog 10 #[.int .i64 (n:Nat),ev] W fun e w'=>e=.returned (.tuple #[.int .i64 ((2 ^ (m-1):Nat):Int),.int .i64 0])/\Below W.heap.size W w'):=by
 subst hl;obtain⟨m,hpc,hm1,hm6,hbest⟩:=hB.best;have hp1:0 < 2 ^ l.length:=Nat.pow_pos (by decide);have hlt:∀k∈l,k < 2 ^ l.length:=fun k hk=>by
  obtain⟨p,hp,rfl⟩:=cof_mem hk;exact hB.lt p hp
 refine⟨m,hm1,hm6,fun cv W hT hI=>?_,fun cv W hT hI=>?_,fun ev W hE=>?_,fun ev W hE=>?_,fun ev W hE=>?_⟩
 · have h:=ChainsN l cv (gB (cof l)) (gB6 _) hn hlt hB.sp hB.plain hB.g W hT hI;rw[hB.tot]at h;exact h
 ·
  refine(PiecesN l cv (2 ^ l.length-1) m hn hlt (by omega) hB.sp hpc W hT hI).mono ?_;rintro e w' ⟨⟨sv,xs,rfl,hown⟩,hb⟩;refine⟨?_,hb⟩;rcases hown.2 with ⟨-,h0⟩ | ⟨g,cap,cur,rfl,-⟩
  · omega
  · exact⟨g,cap,rfl⟩
 · exact Sides_gen l.length hn es hB.len hB.ed hB.nd hB.ex ev W hE
 · have h:=Best_gen l.length hn es hB.len hB.ed hB.nd ev W hE;rw[hbest]at h;exact h
 · have h:=Count_gen l.length hn es hB.len hB.ed hB.nd ev W hE;rw[hbest]at h;exact h
theorem TopBands_go (x:Int) (lv:Value) (xs:List Int) (w:World) (hT:BitTab6 w) (height:∀wx,Below w.heap.size w wx->Calls Tryz.prog 11 #[] wx fun e w'=>e=.returned (.bool true)/\Below wx.heap.size wx w') (hL:LZ w lv xs) :
  Calls Tryz.prog 3 #[.int .i64 x,lv] w fun e w'=>e=.returned (.bool true)/\Below w.heap.size w w':=by
 have hb:=topZ2_bd x 6 (by decide);have hM:=fun wx=>bands_mod x 6 wx (by decide) (by decide);obtain⟨k,hk⟩:∃k:Nat,topZ2 x 6=(k:Int):=⟨(topZ2 x 6).toNat,by omega⟩
 simp only[hk]at hM hb;obtain⟨n,hn⟩:∃n:Nat,n=1+k:=⟨_,rfl⟩
 obtain⟨low,hlow⟩:∃low:Nat,low=n / 2:=⟨_,rfl⟩
 have hn1:(1+(k:Int))=(n:Int):=by omega
 have HM:=Lib.hid hM;have HE:=Lib.hid height;have HTT:=Lib.hid hT;obtain⟨A,cap,rfl,hlen,hcell⟩:=hL;have HC:=Lib.hid hcell;obtain⟨ll,hll⟩:∃ll,xs.length=ll:=⟨_,rfl⟩
 rw[hll]at hlen ⊢;have HLL:=Lib.hid hll;have hn6:1<=n/\n<=6:=by omega
 obtain⟨ic,hic,hcz0,hcz1,hcz2⟩:=info_parts infoInt;obtain⟨ie,hie,hez0,hez1,hez2⟩:=info_parts infoEdge;have HLOW:=Lib.hid hlow;clear hM height hT hcell hll hk hn hb hlow;go_enter Tryz.func3,Tryz.ntmps3;go_wp2_with fail;refine(HM.out _).mono ?_;rintro e w1 ⟨rfl,hb1⟩;have B1:Below w.heap.size w w1:=bl_call (by repeat (first | exact Below.refl _ _ | exact Nat.le_refl _ | refine Below.alloc ?_ ?_ _ | refine Below.setCell ?_ ?_ _ | refine Below.drew ?_ | refine bl_drewN ?_ _ | (assumption) | refine bl_call ?_ (by assumption) ?_ | omega | (simp <;> omega))) hb1 (Nat.le_refl _);clear hb1 HM;go_wp2_with fail;have hlw:((n:Int) / 2)=((low:Nat):Int):=by rw[HLOW.out]; omega
 have hlow3:low<=3:=by have:=HLOW.out; omega
 rw[hlw];have HLW:=Lib.hid hlw;clear hlw;have HDY:=Lib.hid (fun i (x:Int)=>@dB_yes xs low i x);have HDN:=Lib.hid (fun i=>@dB_no xs low i);have HDL:=Lib.hid (fun i=>dB_lt xs low i);have HBN:=Lib.hid (cellsN_bands (dB xs low) n hn6 (by rw[<-HLOW.out]; exact dB_lt xs low) (fun i hi=>dB_zero xs (by rw[HLOW.out]; exact hi)));obtain⟨d,hd⟩:∃d,dB xs low=d:=⟨_,rfl⟩
 simp only[hd]at HDY HDN HDL HBN;clear hd;obtain⟨c,hc⟩:∃c:Nat->Nat,c=fun i=>2 ^ i+d i:=⟨_,rfl⟩
 rw[<-hc]at HBN;have HCC:=Lib.hid hc;clear hc;go_loopw [8,6,7] (fun iv cv ev wr=>∃i:Nat,iv=.int .i64 i/\i<=n/\Two w.heap.size wr cv ev (cellsN d i) (esC c i)/\Below w.heap.size w wr) (fun iv _ _ _=>n-(intOf iv).toNat)
 case atStart =>
  refine⟨0,rfl,Nat.zero_le _,⟨?_,World.ownsRow_nil _ _ _ _,fun q _ h=>by cases h⟩,B1.alloc B1.size _⟩;exact own_monoP (World.ownsRow_made (base:=w1.heap.size) w1 #[] 0 (Nat.le_refl _) (by decide) (by simp)) B1.size
 case round =>
  obtain⟨i,rfl,hi,hTw,B⟩:=hrel;have HTW:=Lib.hid hTw;have HB:=Lib.hid B;clear hTw B
  by_cases hin:i < n
  ·
   have hsh:IntKind.i64.wrap ((2:Int) ^ i)=((2 ^ i:Nat):Int):=by
    have h32:2 ^ i<=32:=Nat.le_trans (Nat.pow_le_pow_right (by decide) (show i<=5 by omega)) (by decide);have e:((2:Int) ^ i)=((2 ^ i:Nat):Int):=by simp
    rw[e];generalize 2 ^ i=Q at h32;exact IntWalk.i64_in _ (by omega)
   obtain⟨Q,hQ⟩:∃Q,2 ^ i=Q:=⟨_,rfl⟩
   rw[hQ]at hsh;have hci:c i=Q+d i:=by rw[HCC.out]; show 2 ^ i+d i=_; rw[hQ]
   by_cases h1:low<=i
   ·
    by_cases h2:i < ll
    ·
     by_cases h3:0 < low
     ·
      obtain⟨xi,hxi⟩:∃x,xs[i]?=some x:=⟨xs[i]'(by rw[HLL.out]; exact h2),by simp[HLL.out,h2]⟩
      obtain⟨a,rfl,hca⟩:=HC.out i xi hxi;have hcw:=keepc HB.out hca;have hdy:=HDY.out i xi h1 hxi h3;have hP8:2 ^ low<=8:=Nat.le_trans (Nat.pow_le_pow_right (by decide) hlow3) (by decide);have hP1:0 < 2 ^ low:=Nat.pow_pos (by decide);have hdl:=HDL.out i;have hci64:Q+d i < 64:=by
       have h32:2 ^ i<=32:=Nat.le_trans (Nat.pow_le_pow_right (by decide) (show i<=5 by omega)) (by decide);rw[hQ]at h32;omega
      have hmd:=fun wx=>bands_mod xi ((2 ^ low:Nat):Int) wx (by omega) (by omega);rw[<-hdy]at hmd;obtain⟨P,hP⟩:∃P,2 ^ low=P:=⟨_,rfl⟩
      obtain⟨dd,hdd⟩:∃dd,d i=dd:=⟨_,rfl⟩
      have hshl:IntKind.i64.wrap ((2:Int) ^ low)=((P:Nat):Int):=by
       have e:((2:Int) ^ low)=((2 ^ low:Nat):Int):=by simp
       rw[e,hP];rw[hP]at hP8;exact IntWalk.i64_in _ (by omega)
      simp only[hP,hdd]at hmd;rw[hdd]at hci hci64;obtain⟨ci,hcd⟩:∃ci,Q+dd=ci:=⟨_,rfl⟩
      have hcq:((Q:Int)+(dd:Int))=((ci:Nat):Int):=by omega
      rw[hcd]at hci hci64;have hwci:IntKind.i64.wrap ((ci:Nat):Int)=ci:=IntWalk.i64_in _ (by omega);have HCI:=Lib.hid hci;have HMD:=Lib.hid hmd;have hmix:Tryz.prog.follows .mixedOrders=true:=by kernel_rfl
      clear hci hmd hca hxi hdy hP hdd hcd hP8 hP1 hdl hQ;go_upto_region 10 with fail
      go_region_with_o (go_at_call 5; refine(HMD.out _).mono ?_; rintro e w9 ⟨rfl,hb9⟩)
      have hb9':Below wr.heap.size wr w9:=(Below.refl _ wr).drew.trans hb9;have HTW9:=Lib.hid (HTW.out.below hb9');have HB9:=Lib.hid (HB.out.trans (hb9'.mono HB.out.size));clear hb9' hb9 HTW HB HMD hcw;go_wp2_with fail;go_loopw [10,7] (fun jv ev wr=>∃j:Nat,jv=.int .i64 j/\j<=i/\Two w.heap.size wr u6 ev (cellsN d i) (esC c i ++ eRow c i j)/\Below w.heap.size w wr) (fun jv _ _=>i-(intOf jv).toNat)
      case atStart=>exact⟨0,rfl,Nat.zero_le _,by rw[eRow_zero,List.append_nil]; exact HTW9.out,HB9.out⟩
      case round =>
       clear HTW9 HB9;obtain⟨j,rfl,hj,hTw2,hB2⟩:=hrel;have HTW2':=Lib.hid hTw2;have HB2:=Lib.hid hB2;clear hTw2 hB2
       by_cases hji:j < i
       ·
        have hbit:=cell_bit ci j;have hlen:(esC c i ++ eRow c i j).length<=42:=by
         rw[List.length_append];have h1:=esC_len c i (by omega);have h2:=eRow_len c i j;omega
        obtain⟨b,hb⟩:∃b,hasb ci j=b:=⟨_,rfl⟩
        rw[hb]at hbit;have hci:=HCI.out;cases b
        · have HF:=Lib.hid (eRow_no (c:=c) (i:=i) (j:=j) (by rw[hci]; exact hb));clear hb hci hlen;go_wp2;exact⟨⟨j+1,by simp,by omega,by rw[HF.out]; exact HTW2'.out,HB2.out⟩,by simp[intOf]; omega⟩
        ·
         have hF:esC c i ++ eRow c i (j+1)=(esC c i ++ eRow c i j) ++ [(j,i)]:=by
          rw[eRow_yes (c:=c) (i:=i) (j:=j) (by rw[hci]; exact hb),List.append_assoc]
         have hT:=HTW2'.out;obtain⟨es2,hes2⟩:∃es2,esC c i ++ eRow c i j=es2:=⟨_,rfl⟩
         rw[hes2]at hF hlen hT;have HF:=Lib.hid hF;have HTW2:=Lib.hid hT;clear hb hci hF hT hes2 HTW2';go_wp2_with (first
          | (at_builtin; refine wpList_append_lies _ rfl _ _ 24 rfl w.heap.size 26 ie (.agg #[.int .i64 0,.int .i64 0,.int .i64 0]) 3 24 Tryz.underlying24 hie hez0 hez1 hez2 rfl (by decide) _ _ _ rfl (HTW2.out.e.alloc _) ⟨wr.heap.size,0,none⟩ 1 1 [.int .i64 (j:Nat),.int .i64 (i:Nat),.int .i64 1] rfl rfl (edge_cells _ _ _ _ _) (edge_one _ _ _) (by decide) (Nat.le_trans (by omega) (show(50:Nat)<=maxLen by decide)) (by omega) (by have:=HB2.out.size; simp; omega) (wr.heap.size+1) (by simp) ?_; intro g3 cap3 w3 hown3 hgrow3 hlie3 hgl3; have HT3:=Lib.hid (Two.pushE (p:=(j,i)) (HTW2.out.alloc _) hown3 hgrow3 (hlie3.imp id (fun h=>h.trans (by simp)))); have HB3:=Lib.hid ((HB2.out.alloc HB2.out.size (.cells #[.int .i64 (j:Nat),.int .i64 (i:Nat),.int .i64 1] 26)).trans (Below.grown (Below.refl _ _) hgrow3 (by have:=HB2.out.size; simp; omega) (fun q hq=>((HTW2.out.alloc (.cells #[.int .i64 (j:Nat),.int .i64 (i:Nat),.int .i64 1] 26)).e.lt q hq).1))); clear hown3 hgrow3 hlie3 hgl3)
          | fail)
         exact⟨⟨j+1,by simp,by omega,by rw[HF.out]; exact HT3.out,HB3.out⟩,by simp[intOf]; omega⟩
       ·
        obtain rfl:j=i:=by omega
        have hF1:cellsN d (j+1)=cellsN d j ++ [ci]:=by rw[cellsN_succ,<-HCI.out,HCC.out]
        have hF2:=esC_succ c j;have hlen:(cellsN d j).length<=6:=by rw[cellsN_len]; omega
        have hT:=HTW2'.out;obtain⟨es2,hes2⟩:∃es2,esC c j ++ eRow c j j=es2:=⟨_,rfl⟩
        obtain⟨l2,hl2⟩:∃l2,cellsN d j=l2:=⟨_,rfl⟩
        rw[hes2]at hF2 hT;rw[hl2]at hF1 hlen hT;have HF1:=Lib.hid hF1;have HF2:=Lib.hid hF2;have HTW2:=Lib.hid hT;clear hF1 hF2 hT hes2 hl2 HTW2';go_wp2_with (first
         | (at_builtin; refine wpList_append_lies _ rfl _ _ 22 rfl w.heap.size 3 ic (.int .i64 0) 1 8 Tryz.underlying22 hic hcz0 hcz1 hcz2 rfl (by decide) _ _ _ rfl (HTW2.out.c.alloc _) ⟨wr.heap.size,0,none⟩ 1 1 [.int .i64 (ci:Nat)] rfl rfl (cell_one_new _ _ _) (one_cell _) (by decide) (Nat.le_trans (by omega) (show(7:Nat)<=maxLen by decide)) (by omega) (by have:=HB2.out.size; simp; omega) (wr.heap.size+1) (by simp) ?_; intro g3 cap3 w3 hown3 hgrow3 hlie3 hgl3; have HT3:=Lib.hid (Two.pushC (k:=ci) (HTW2.out.alloc _) hown3 hgrow3 (hlie3.imp id (fun h=>h.trans (by simp)))); have HB3:=Lib.hid ((HB2.out.alloc HB2.out.size (.cells #[.int .i64 (ci:Nat)] 3)).trans (Below.grown (Below.refl _ _) hgrow3 (by have:=HB2.out.size; simp; omega) (fun q hq=>((HTW2.out.alloc (.cells #[.int .i64 (ci:Nat)] 3)).c.lt q hq).1))); clear hown3 hgrow3 hlie3 hgl3)
         | fail)
        exact⟨⟨j+1,by simp,by omega,by rw[HF1.out,HF2.out]; exact HT3.out,HB3.out⟩,by simp[intOf]; omega⟩
     ·
      have HCI:=Lib.hid (show c i=Q by rw[hci,HDN.out i (by omega)]; rfl);clear hci hQ;go_wp2_with fail;go_loopw [10,7] (fun jv ev wr=>∃j:Nat,jv=.int .i64 j/\j<=i/\Two w.heap.size wr u6 ev (cellsN d i) (esC c i ++ eRow c i j)/\Below w.heap.size w wr) (fun jv _ _=>i-(intOf jv).toNat)
      case atStart=>exact⟨0,rfl,Nat.zero_le _,by rw[eRow_zero,List.append_nil]; exact HTW.out,HB.out⟩
      case round =>
       clear HTW HB;obtain⟨j,rfl,hj,hTw2,hB2⟩:=hrel;have HTW2':=Lib.hid hTw2;have HB2:=Lib.hid hB2;clear hTw2 hB2
       by_cases hji:j < i
       ·
        have hbit:=cell_bit Q j;have hlen:(esC c i ++ eRow c i j).length<=42:=by
         rw[List.length_append];have h1:=esC_len c i (by omega);have h2:=eRow_len c i j;omega
        obtain⟨b,hb⟩:∃b,hasb Q j=b:=⟨_,rfl⟩
        rw[hb]at hbit;have hci:=HCI.out;cases b
        · have HF:=Lib.hid (eRow_no (c:=c) (i:=i) (j:=j) (by rw[hci]; exact hb));clear hb hci hlen;go_wp2;exact⟨⟨j+1,by simp,by omega,by rw[HF.out]; exact HTW2'.out,HB2.out⟩,by simp[intOf]; omega⟩
        ·
         have hF:esC c i ++ eRow c i (j+1)=(esC c i ++ eRow c i j) ++ [(j,i)]:=by
          rw[eRow_yes (c:=c) (i:=i) (j:=j) (by rw[hci]; exact hb),List.append_assoc]
         have hT:=HTW2'.out;obtain⟨es2,hes2⟩:∃es2,esC c i ++ eRow c i j=es2:=⟨_,rfl⟩
         rw[hes2]at hF hlen hT;have HF:=Lib.hid hF;have HTW2:=Lib.hid hT;clear hb hci hF hT hes2 HTW2';go_wp2_with (first
          | (at_builtin; refine wpList_append_lies _ rfl _ _ 24 rfl w.heap.size 26 ie (.agg #[.int .i64 0,.int .i64 0,.int .i64 0]) 3 24 Tryz.underlying24 hie hez0 hez1 hez2 rfl (by decide) _ _ _ rfl (HTW2.out.e.alloc _) ⟨wr.heap.size,0,none⟩ 1 1 [.int .i64 (j:Nat),.int .i64 (i:Nat),.int .i64 1] rfl rfl (edge_cells _ _ _ _ _) (edge_one _ _ _) (by decide) (Nat.le_trans (by omega) (show(50:Nat)<=maxLen by decide)) (by omega) (by have:=HB2.out.size; simp; omega) (wr.heap.size+1) (by simp) ?_; intro g3 cap3 w3 hown3 hgrow3 hlie3 hgl3; have HT3:=Lib.hid (Two.pushE (p:=(j,i)) (HTW2.out.alloc _) hown3 hgrow3 (hlie3.imp id (fun h=>h.trans (by simp)))); have HB3:=Lib.hid ((HB2.out.alloc HB2.out.size (.cells #[.int .i64 (j:Nat),.int .i64 (i:Nat),.int .i64 1] 26)).trans (Below.grown (Below.refl _ _) hgrow3 (by have:=HB2.out.size; simp; omega) (fun q hq=>((HTW2.out.alloc (.cells #[.int .i64 (j:Nat),.int .i64 (i:Nat),.int .i64 1] 26)).e.lt q hq).1))); clear hown3 hgrow3 hlie3 hgl3)
          | fail)
         exact⟨⟨j+1,by simp,by omega,by rw[HF.out]; exact HT3.out,HB3.out⟩,by simp[intOf]; omega⟩
       ·
        obtain rfl:j=i:=by omega
        have hF1:cellsN d (j+1)=cellsN d j ++ [Q]:=by rw[cellsN_succ,<-HCI.out,HCC.out]
        have hF2:=esC_succ c j;have hlen:(cellsN d j).length<=6:=by rw[cellsN_len]; omega
        have hT:=HTW2'.out;obtain⟨es2,hes2⟩:∃es2,esC c j ++ eRow c j j=es2:=⟨_,rfl⟩
        obtain⟨l2,hl2⟩:∃l2,cellsN d j=l2:=⟨_,rfl⟩
        rw[hes2]at hF2 hT;rw[hl2]at hF1 hlen hT;have HF1:=Lib.hid hF1;have HF2:=Lib.hid hF2;have HTW2:=Lib.hid hT;clear hF1 hF2 hT hes2 hl2 HTW2';go_wp2_with (first
         | (at_builtin; refine wpList_append_lies _ rfl _ _ 22 rfl w.heap.size 3 ic (.int .i64 0) 1 8 Tryz.underlying22 hic hcz0 hcz1 hcz2 rfl (by decide) _ _ _ rfl (HTW2.out.c.alloc _) ⟨wr.heap.size,0,none⟩ 1 1 [.int .i64 (Q:Nat)] rfl rfl (cell_one_new _ _ _) (one_cell _) (by decide) (Nat.le_trans (by omega) (show(7:Nat)<=maxLen by decide)) (by omega) (by have:=HB2.out.size; simp; omega) (wr.heap.size+1) (by simp) ?_; intro g3 cap3 w3 hown3 hgrow3 hlie3 hgl3; have HT3:=Lib.hid (Two.pushC (k:=Q) (HTW2.out.alloc _) hown3 hgrow3 (hlie3.imp id (fun h=>h.trans (by simp)))); have HB3:=Lib.hid ((HB2.out.alloc HB2.out.size (.cells #[.int .i64 (Q:Nat)] 3)).trans (Below.grown (Below.refl _ _) hgrow3 (by have:=HB2.out.size; simp; omega) (fun q hq=>((HTW2.out.alloc (.cells #[.int .i64 (Q:Nat)] 3)).c.lt q hq).1))); clear hown3 hgrow3 hlie3 hgl3)
         | fail)
        exact⟨⟨j+1,by simp,by omega,by rw[HF1.out,HF2.out]; exact HT3.out,HB3.out⟩,by simp[intOf]; omega⟩
    ·
     have HCI:=Lib.hid (show c i=Q by rw[hci,HDN.out i (by rw[HLL.out]; omega)]; rfl);clear hci hQ;go_wp2_with fail;go_loopw [10,7] (fun jv ev wr=>∃j:Nat,jv=.int .i64 j/\j<=i/\Two w.heap.size wr u6 ev (cellsN d i) (esC c i ++ eRow c i j)/\Below w.heap.size w wr) (fun jv _ _=>i-(intOf jv).toNat)
     case atStart=>exact⟨0,rfl,Nat.zero_le _,by rw[eRow_zero,List.append_nil]; exact HTW.out,HB.out⟩
     case round =>
      clear HTW HB;obtain⟨j,rfl,hj,hTw2,hB2⟩:=hrel;have HTW2':=Lib.hid hTw2;have HB2:=Lib.hid hB2;clear hTw2 hB2
      by_cases hji:j < i
      ·
       have hbit:=cell_bit Q j;have hlen:(esC c i ++ eRow c i j).length<=42:=by
        rw[List.length_append];have h1:=esC_len c i (by omega);have h2:=eRow_len c i j;omega
       obtain⟨b,hb⟩:∃b,hasb Q j=b:=⟨_,rfl⟩
       rw[hb]at hbit;have hci:=HCI.out;cases b
       · have HF:=Lib.hid (eRow_no (c:=c) (i:=i) (j:=j) (by rw[hci]; exact hb));clear hb hci hlen;go_wp2;exact⟨⟨j+1,by simp,by omega,by rw[HF.out]; exact HTW2'.out,HB2.out⟩,by simp[intOf]; omega⟩
       ·
        have hF:esC c i ++ eRow c i (j+1)=(esC c i ++ eRow c i j) ++ [(j,i)]:=by
         rw[eRow_yes (c:=c) (i:=i) (j:=j) (by rw[hci]; exact hb),List.append_assoc]
        have hT:=HTW2'.out;obtain⟨es2,hes2⟩:∃es2,esC c i ++ eRow c i j=es2:=⟨_,rfl⟩
        rw[hes2]at hF hlen hT;have HF:=Lib.hid hF;have HTW2:=Lib.hid hT;clear hb hci hF hT hes2 HTW2';go_wp2_with (first
         | (at_builtin; refine wpList_append_lies _ rfl _ _ 24 rfl w.heap.size 26 ie (.agg #[.int .i64 0,.int .i64 0,.int .i64 0]) 3 24 Tryz.underlying24 hie hez0 hez1 hez2 rfl (by decide) _ _ _ rfl (HTW2.out.e.alloc _) ⟨wr.heap.size,0,none⟩ 1 1 [.int .i64 (j:Nat),.int .i64 (i:Nat),.int .i64 1] rfl rfl (edge_cells _ _ _ _ _) (edge_one _ _ _) (by decide) (Nat.le_trans (by omega) (show(50:Nat)<=maxLen by decide)) (by omega) (by have:=HB2.out.size; simp; omega) (wr.heap.size+1) (by simp) ?_; intro g3 cap3 w3 hown3 hgrow3 hlie3 hgl3; have HT3:=Lib.hid (Two.pushE (p:=(j,i)) (HTW2.out.alloc _) hown3 hgrow3 (hlie3.imp id (fun h=>h.trans (by simp)))); have HB3:=Lib.hid ((HB2.out.alloc HB2.out.size (.cells #[.int .i64 (j:Nat),.int .i64 (i:Nat),.int .i64 1] 26)).trans (Below.grown (Below.refl _ _) hgrow3 (by have:=HB2.out.size; simp; omega) (fun q hq=>((HTW2.out.alloc (.cells #[.int .i64 (j:Nat),.int .i64 (i:Nat),.int .i64 1] 26)).e.lt q hq).1))); clear hown3 hgrow3 hlie3 hgl3)
         | fail)
        exact⟨⟨j+1,by simp,by omega,by rw[HF.out]; exact HT3.out,HB3.out⟩,by simp[intOf]; omega⟩
      ·
       obtain rfl:j=i:=by omega
       have hF1:cellsN d (j+1)=cellsN d j ++ [Q]:=by rw[cellsN_succ,<-HCI.out,HCC.out]
       have hF2:=esC_succ c j;have hlen:(cellsN d j).length<=6:=by rw[cellsN_len]; omega
       have hT:=HTW2'.out;obtain⟨es2,hes2⟩:∃es2,esC c j ++ eRow c j j=es2:=⟨_,rfl⟩
       obtain⟨l2,hl2⟩:∃l2,cellsN d j=l2:=⟨_,rfl⟩
       rw[hes2]at hF2 hT;rw[hl2]at hF1 hlen hT;have HF1:=Lib.hid hF1;have HF2:=Lib.hid hF2;have HTW2:=Lib.hid hT;clear hF1 hF2 hT hes2 hl2 HTW2';go_wp2_with (first
        | (at_builtin; refine wpList_append_lies _ rfl _ _ 22 rfl w.heap.size 3 ic (.int .i64 0) 1 8 Tryz.underlying22 hic hcz0 hcz1 hcz2 rfl (by decide) _ _ _ rfl (HTW2.out.c.alloc _) ⟨wr.heap.size,0,none⟩ 1 1 [.int .i64 (Q:Nat)] rfl rfl (cell_one_new _ _ _) (one_cell _) (by decide) (Nat.le_trans (by omega) (show(7:Nat)<=maxLen by decide)) (by omega) (by have:=HB2.out.size; simp; omega) (wr.heap.size+1) (by simp) ?_; intro g3 cap3 w3 hown3 hgrow3 hlie3 hgl3; have HT3:=Lib.hid (Two.pushC (k:=Q) (HTW2.out.alloc _) hown3 hgrow3 (hlie3.imp id (fun h=>h.trans (by simp)))); have HB3:=Lib.hid ((HB2.out.alloc HB2.out.size (.cells #[.int .i64 (Q:Nat)] 3)).trans (Below.grown (Below.refl _ _) hgrow3 (by have:=HB2.out.size; simp; omega) (fun q hq=>((HTW2.out.alloc (.cells #[.int .i64 (Q:Nat)] 3)).c.lt q hq).1))); clear hown3 hgrow3 hlie3 hgl3)
        | fail)
       exact⟨⟨j+1,by simp,by omega,by rw[HF1.out,HF2.out]; exact HT3.out,HB3.out⟩,by simp[intOf]; omega⟩
   ·
    have HCI:=Lib.hid (show c i=Q by rw[hci,HDN.out i (by omega)]; rfl);clear hci hQ;go_wp2_with fail;go_loopw [10,7] (fun jv ev wr=>∃j:Nat,jv=.int .i64 j/\j<=i/\Two w.heap.size wr u6 ev (cellsN d i) (esC c i ++ eRow c i j)/\Below w.heap.size w wr) (fun jv _ _=>i-(intOf jv).toNat)
    case atStart=>exact⟨0,rfl,Nat.zero_le _,by rw[eRow_zero,List.append_nil]; exact HTW.out,HB.out⟩
    case round =>
     clear HTW HB;obtain⟨j,rfl,hj,hTw2,hB2⟩:=hrel;have HTW2':=Lib.hid hTw2;have HB2:=Lib.hid hB2;clear hTw2 hB2
     by_cases hji:j < i
     ·
      have hbit:=cell_bit Q j;have hlen:(esC c i ++ eRow c i j).length<=42:=by
       rw[List.length_append];have h1:=esC_len c i (by omega);have h2:=eRow_len c i j;omega
      obtain⟨b,hb⟩:∃b,hasb Q j=b:=⟨_,rfl⟩
      rw[hb]at hbit;have hci:=HCI.out;cases b
      · have HF:=Lib.hid (eRow_no (c:=c) (i:=i) (j:=j) (by rw[hci]; exact hb));clear hb hci hlen;go_wp2;exact⟨⟨j+1,by simp,by omega,by rw[HF.out]; exact HTW2'.out,HB2.out⟩,by simp[intOf]; omega⟩
      ·
       have hF:esC c i ++ eRow c i (j+1)=(esC c i ++ eRow c i j) ++ [(j,i)]:=by
        rw[eRow_yes (c:=c) (i:=i) (j:=j) (by rw[hci]; exact hb),List.append_assoc]
       have hT:=HTW2'.out;obtain⟨es2,hes2⟩:∃es2,esC c i ++ eRow c i j=es2:=⟨_,rfl⟩
       rw[hes2]at hF hlen hT;have HF:=Lib.hid hF;have HTW2:=Lib.hid hT;clear hb hci hF hT hes2 HTW2';go_wp2_with (first
        | (at_builtin; refine wpList_append_lies _ rfl _ _ 24 rfl w.heap.size 26 ie (.agg #[.int .i64 0,.int .i64 0,.int .i64 0]) 3 24 Tryz.underlying24 hie hez0 hez1 hez2 rfl (by decide) _ _ _ rfl (HTW2.out.e.alloc _) ⟨wr.heap.size,0,none⟩ 1 1 [.int .i64 (j:Nat),.int .i64 (i:Nat),.int .i64 1] rfl rfl (edge_cells _ _ _ _ _) (edge_one _ _ _) (by decide) (Nat.le_trans (by omega) (show(50:Nat)<=maxLen by decide)) (by omega) (by have:=HB2.out.size; simp; omega) (wr.heap.size+1) (by simp) ?_; intro g3 cap3 w3 hown3 hgrow3 hlie3 hgl3; have HT3:=Lib.hid (Two.pushE (p:=(j,i)) (HTW2.out.alloc _) hown3 hgrow3 (hlie3.imp id (fun h=>h.trans (by simp)))); have HB3:=Lib.hid ((HB2.out.alloc HB2.out.size (.cells #[.int .i64 (j:Nat),.int .i64 (i:Nat),.int .i64 1] 26)).trans (Below.grown (Below.refl _ _) hgrow3 (by have:=HB2.out.size; simp; omega) (fun q hq=>((HTW2.out.alloc (.cells #[.int .i64 (j:Nat),.int .i64 (i:Nat),.int .i64 1] 26)).e.lt q hq).1))); clear hown3 hgrow3 hlie3 hgl3)
        | fail)
       exact⟨⟨j+1,by simp,by omega,by rw[HF.out]; exact HT3.out,HB3.out⟩,by simp[intOf]; omega⟩
     ·
      obtain rfl:j=i:=by omega
      have hF1:cellsN d (j+1)=cellsN d j ++ [Q]:=by rw[cellsN_succ,<-HCI.out,HCC.out]
      have hF2:=esC_succ c j;have hlen:(cellsN d j).length<=6:=by rw[cellsN_len]; omega
      have hT:=HTW2'.out;obtain⟨es2,hes2⟩:∃es2,esC c j ++ eRow c j j=es2:=⟨_,rfl⟩
      obtain⟨l2,hl2⟩:∃l2,cellsN d j=l2:=⟨_,rfl⟩
      rw[hes2]at hF2 hT;rw[hl2]at hF1 hlen hT;have HF1:=Lib.hid hF1;have HF2:=Lib.hid hF2;have HTW2:=Lib.hid hT;clear hF1 hF2 hT hes2 hl2 HTW2';go_wp2_with (first
       | (at_builtin; refine wpList_append_lies _ rfl _ _ 22 rfl w.heap.size 3 ic (.int .i64 0) 1 8 Tryz.underlying22 hic hcz0 hcz1 hcz2 rfl (by decide) _ _ _ rfl (HTW2.out.c.alloc _) ⟨wr.heap.size,0,none⟩ 1 1 [.int .i64 (Q:Nat)] rfl rfl (cell_one_new _ _ _) (one_cell _) (by decide) (Nat.le_trans (by omega) (show(7:Nat)<=maxLen by decide)) (by omega) (by have:=HB2.out.size; simp; omega) (wr.heap.size+1) (by simp) ?_; intro g3 cap3 w3 hown3 hgrow3 hlie3 hgl3; have HT3:=Lib.hid (Two.pushC (k:=Q) (HTW2.out.alloc _) hown3 hgrow3 (hlie3.imp id (fun h=>h.trans (by simp)))); have HB3:=Lib.hid ((HB2.out.alloc HB2.out.size (.cells #[.int .i64 (Q:Nat)] 3)).trans (Below.grown (Below.refl _ _) hgrow3 (by have:=HB2.out.size; simp; omega) (fun q hq=>((HTW2.out.alloc (.cells #[.int .i64 (Q:Nat)] 3)).c.lt q hq).1))); clear hown3 hgrow3 hlie3 hgl3)
       | fail)
      exact⟨⟨j+1,by simp,by omega,by rw[HF1.out,HF2.out]; exact HT3.out,HB3.out⟩,by simp[intOf]; omega⟩
  ·
   obtain rfl:i=n:=by omega
   have hI:=HTW.out.ints;have hE:=HTW.out.edges;have B0:=HB.out;obtain⟨ea,ecap,hev,-⟩:=id hE;subst hev;obtain⟨m,hm1,hm6,hCH,hPI,hSI,hBE,hCO⟩:=bands_calls i hn6 (cellsN d i) (cellsN_len d i) (esC c i) HBN.out;have hP64:2 ^ i<=64:=Nat.le_trans (Nat.pow_le_pow_right (by decide) hn6.2) (by decide);have hP1:0 < 2 ^ i:=Nat.pow_pos (by decide);have hM32:2 ^ (m-1)<=32:=Nat.le_trans (Nat.pow_le_pow_right (by decide) (show m-1<=5 by omega)) (by decide);have hshn:IntKind.i64.wrap ((2:Int) ^ i)=((2 ^ i:Nat):Int):=by
    have e:((2:Int) ^ i)=((2 ^ i:Nat):Int):=by simp
    rw[e];generalize 2 ^ i=P at hP64;exact IntWalk.i64_in _ (by omega)
   obtain⟨m1,hmm⟩:∃m1,m-1=m1:=⟨_,rfl⟩
   rw[hmm]at hM32 hCO;have hshm:IntKind.i64.wrap ((2:Int) ^ m1)=((2 ^ m1:Nat):Int):=by
    have e:((2:Int) ^ m1)=((2 ^ m1:Nat):Int):=by simp
    rw[e];generalize 2 ^ m1=P at hM32;exact IntWalk.i64_in _ (by omega)
   have hmi:(m:Int)-1=(m1:Nat):=by omega
   obtain⟨P,hP⟩:∃P,2 ^ i=P:=⟨_,rfl⟩
   obtain⟨M,hM⟩:∃M,2 ^ m1=M:=⟨_,rfl⟩
   obtain⟨S,hS⟩:∃S,P-1=S:=⟨_,rfl⟩
   have hlE:(esC c i).length<=36:=by have:=esC_len c i (by omega); omega
   obtain⟨E,hE2⟩:∃E,(esC c i).length=E:=⟨_,rfl⟩
   have hPS:(P:Int)-1=(S:Nat):=by omega
   rw[hP]at hshn hPI hP64 hP1;rw[hM]at hshm hCO hM32;rw[hS]at hPI;simp only[hE2]at hCH hBE;rw[hE2]at hlE ⊢;rw[hE2]at hE;have HCH:=Lib.hid hCH;have HPI:=Lib.hid hPI;have HSI:=Lib.hid hSI;have HBE:=Lib.hid hBE;have HCO:=Lib.hid hCO;have HI:=Lib.hid hI;have HEE:=Lib.hid hE;clear hCH hPI hSI hBE hCO hI hE hP hM hS hE2 hmm HTW HB HBN;go_wp2_with fail;refine(HCH.out _ _ (HTT.out.below B0) HI.out).mono ?_;rintro e w2 ⟨rfl,hb2⟩;have B2:Below w.heap.size w w2:=bl_call B0 hb2 B0.size;have HI2:=Lib.hid (HI.out.below hb2);have HE2:=Lib.hid (HEE.out.below hb2);clear hb2 HI HEE HCH;go_wp2_with fail;refine(HPI.out _ _ (HTT.out.below B2) HI2.out).mono ?_;rintro e w3 ⟨⟨pg,pcap,rfl⟩,hb3⟩;have B3:Below w.heap.size w w3:=bl_call B2 hb3 B2.size;have HE3:=Lib.hid (HE2.out.below hb3);clear hb3 HI2 HE2 HPI;go_wp2_with fail;refine(HSI.out _ _ HE3.out).mono ?_;rintro e w4 ⟨⟨ts,rfl⟩,hb4⟩;have B4:Below w.heap.size w w4:=bl_call B3 hb4 B3.size;have HE4:=Lib.hid (HE3.out.below hb4);clear hb4 HE3 HSI;go_wp2_with fail;refine(HBE.out _ _ HE4.out).mono ?_;rintro e w5 ⟨⟨tb,rfl⟩,hb5⟩;have B5:Below w.heap.size w w5:=bl_call B4 hb5 B4.size;have HE5:=Lib.hid (HE4.out.below hb5);clear hb5 HE4 HBE;go_wp2_with fail;refine(HCO.out _ _ HE5.out).mono ?_;rintro e w6 ⟨rfl,hb6⟩;have B6:Below w.heap.size w w6:=bl_call B5 hb6 B5.size;clear hb6 HE5 HCO B0 B2 B3 B4 B5;go_wp2_with fail;refine(HE.out _ B6).mono ?_;rintro e w7 ⟨rfl,hb7⟩;have B7:Below w.heap.size w w7:=bl_call B6 hb7 B6.size;go_wp2_with fail
   go_ret
   exact⟨rfl,B7⟩
end Go.Proofs.YtaffkceklkdokaaGreatDoor
