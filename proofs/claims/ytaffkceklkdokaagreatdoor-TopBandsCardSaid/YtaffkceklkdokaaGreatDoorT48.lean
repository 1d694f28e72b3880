/- The longest word that avoids aa, ab, bb is ba. -/
import Derived.Test.YtaffkceklkdokaaGreatDoorTW
import Derived.Test.YtaffkceklkdokaaGreatDoorTD
import Derived.Test.YtaffkceklkdokaaGreatDoorT47
set_option maxRecDepth 100000
set_option maxHeartbeats 4000000
namespace Go.Proofs.YtaffkceklkdokaaGreatDoor
open Go.RowKit Go.Shelf
attribute [local go_sem] Oper.semAt_some
/-- the loop's world -/
structure LW (w W:World) (L mb gs cs gn cn:Nat) (r c:Nat->Nat) (lb lr lc ob ib:Nat) (o:ByteArray) (i:Int):Prop where
 l:W.heap[lb]?=some (.cells #[.slice (some ⟨lr,0,none⟩) 4 lc] 22 (0,0))
 r0:W.cell? ⟨lr,0,none⟩=some (.int .i64 2)
 r1:W.cell? ⟨lr,1,none⟩=some (.int .i64 0)
 r2:W.cell? ⟨lr,2,none⟩=some (.int .i64 1)
 r3:W.cell? ⟨lr,3,none⟩=some (.int .i64 0)
 o:W.heap[ob]?=some (.cells #[.string o] 9 (0,0))
 i:W.heap[ib]?=some (.cells #[.int .i64 i] 3 (0,0))
 ma:Mach W L mb gs cs gn cn r c
 bel:Below w.heap.size w W
 le:w.heap.size<=L/\L<=lb/\L<=lr/\lb < ob/\lr < ob/\ob < ib
theorem ownI {β : Type} {Wc:World} (p : β->Prop):OwnFrom Wc.heap.size (fun(s : β) W=>p s/\Below Wc.heap.size Wc W) :=
 fun s X Y row hs hg hr=>⟨hs.1,(ownFrom_below (β:=β) (w₀:=Wc) (Nat.le_refl _) (Nat.le_refl _)) s X Y row hs.2 hg hr⟩
/-- behind a break -/
def Brk (Wc:World) (ob ib:Nat) (o:ByteArray) (i:Int) (c:Code) (W:World):Prop :=
 c=.exit 2/\BelX [ob,ib] Wc W/\W.heap[ob]?=some (.cells #[.string o] 9 (0,0))/\W.heap[ib]?=some (.cells #[.int .i64 i] 3 (0,0))
theorem ownBrk {β : Type} {Wc:World} {ob ib:Nat} {o:ByteArray} {i:Int} (h1:ob < Wc.heap.size) (h2:ib < Wc.heap.size) (c:Code):OwnFrom Wc.heap.size (fun(_ : β) W=>Brk Wc ob ib o i c W):=by
 rintro s X Y row ⟨rfl,hb,ho,hi⟩ hg hr;have hne:∀k,k < Wc.heap.size->some k≠row:=fun k hk e=>by have:=(hr k e.symm).1; omega
 exact⟨rfl,⟨hg.os.trans hb.os,hg.tape.trans hb.tape,hg.output.trans hb.output,Nat.le_trans hb.size hg.size,fun k hk hn=>(hg.block k (by have:=hb.size; omega) (hne k hk)).trans (hb.block k hk hn)⟩,
  (hg.block ob (blk_lt ho) (hne ob h1)).trans ho,(hg.block ib (blk_lt hi) (hne ib h2)).trans hi⟩
theorem LW.low {w W W':World} {L mb gs cs gn cn:Nat} {r c:Nat->Nat} {lb lr lc ob ib:Nat} {o:ByteArray} {i:Int} (h:LW w W L mb gs cs gn cn r c lb lr lc ob ib o i) (hb:Below W.heap.size W W'):LW w W' L mb gs cs gn cn r c lb lr lc ob ib o i :=
 ⟨(hb.block _ (blk_lt h.l)).trans h.l,keepc hb h.r0,keepc hb h.r1,keepc hb h.r2,keepc hb h.r3,(hb.block _ (blk_lt h.o)).trans h.o,(hb.block _ (blk_lt h.i)).trans h.i,h.ma.keep (fun k hk=>hb.block k (by have:=h.le; have:=blk_lt h.l; omega)),h.bel.trans (hb.mono h.bel.size),h.le⟩
theorem LW.broke {w W W':World} {L mb gs cs gn cn:Nat} {r c:Nat->Nat} {lb lr lc ob ib:Nat} {o o':ByteArray} {i i':Int} {cc:Code} (h:LW w W L mb gs cs gn cn r c lb lr lc ob ib o i) (hb:Brk W ob ib o' i' cc W') :
  LW w (W'.alloc (.cells #[.int .i64 i'] 3)) L mb gs cs gn cn r c lb lr lc ob W'.heap.size o' i':=by
 obtain⟨-,hX,ho,hi⟩:=hb;have hle:=h.le;have h1:=blk_lt h.l;have h2:=blk_lt ho;have hz:=hX.size;have k:∀{b j:Nat} {v:Value},b≠ob->b≠ib->W.cell? ⟨b,j,none⟩=some v->(W'.alloc (.cells #[.int .i64 i'] 3)).cell? ⟨b,j,none⟩=some v:=fun {b j v} n1 n2 hv=>(World.cell?_alloc_lt _ _ _ (by have:=block_lt_of_cell hv; dsimp only at this ⊢; omega)).trans (hX.cell (by simp; exact⟨n1,n2⟩) hv);have kb:∀j,j < L->(W'.alloc (.cells #[.int .i64 i'] 3)).heap[j]?=W.heap[j]?:=fun j hj=>by
  have e:W'.heap[j]?=W.heap[j]?:=hX.block j (by omega) (by simp; omega);rw[<-e];exact(blk_old (Array.getElem?_eq_getElem (by omega:j < W'.heap.size))).trans (Array.getElem?_eq_getElem (by omega:j < W'.heap.size)).symm
 refine⟨blk_old ((hX.block _ h1 (by simp; omega)).trans h.l),k (by omega) (by omega) h.r0,k (by omega) (by omega) h.r1,k (by omega) (by omega) h.r2,k (by omega) (by omega) h.r3,blk_old ho,blk_new _ _,h.ma.keep kb,?_,⟨hle.1,hle.2.1,hle.2.2.1,hle.2.2.2.1,hle.2.2.2.2.1,by omega⟩⟩;have hb:=hX.below h.bel h.bel.size (by simp; omega);exact hb.alloc hb.size _
def sB:Bool->Value
 | false=>.string ⟨#[97]⟩ | true=>.string ⟨#[98]⟩
def jB:Bool->Value
 | false=>.int .i64 1 | true=>.int .i64 2
def sU:Unit->Value:=fun _=>.string ⟨#[97]⟩
def jU:Unit->Value:=fun _=>.int .i64 3
theorem Longest_ok (sb cap:Nat) (w:World) (hM:MaxM w) (c0:w.cell? ⟨sb,0,none⟩=some (.string AA)) (c1:w.cell? ⟨sb,1,none⟩=some (.string AB)) (c2:w.cell? ⟨sb,2,none⟩=some (.string BB)) :
  Calls Tryz.prog 101 #[.int .i64 2,.slice (some ⟨sb,0,none⟩) 3 cap] w fun e w'=>e=.returned (.tuple #[.string ⟨#[98,97]⟩,.int .i64 0])/\Below w.heap.size w w':=by
 have hmix:Tryz.prog.follows .mixedOrders=true:=by kernel_rfl
 have HC:=Lib.hid (And.intro c0 (And.intro c1 c2));have HM:=Lib.hid hM;clear c0 c1 c2 hM;refine(callsIn_wide (n:=9)).1 ?_;refine callsIn_of_wp_marks Tryz.func101 rfl trivial ?_ rfl;simp only[Tryz.ntmps101,List.size_toArray,List.length_cons,List.length_nil,Nat.reduceAdd,Nat.reduceSub,Array.replicate_succ,Array.replicate_zero,List.push_toArray,List.append_toArray,List.nil_append,List.cons_append]
 gi_wp2_with fail
 refine⟨trivial,CallsIn.mono (callsIn_wide.2 (isSet_ok sb cap _ HC.out.1 HC.out.2.1 HC.out.2.2)) ?_⟩;rintro e w1 ⟨rfl,B1⟩
 gi_wp2_with fail
 refine⟨trivial,CallsIn.mono (callsIn_wide.2 (newMachine_ok sb cap _ (HM.out.below B1) (keepc B1 HC.out.1) (keepc B1 HC.out.2.1) (keepc B1 HC.out.2.2))) ?_⟩;rintro e w2 ⟨gs,cs,nv,rfl,hN⟩;obtain⟨gn,cn,r,c,hMa⟩:=hN.machine;have B2:Below w.heap.size w w2:=bl_call B1 hN.bel B1.size;obtain⟨mb,hmb⟩:∃mb,mb=w1.heap.size+1:=⟨_,rfl⟩
 rw[<-hmb]at hMa ⊢;have HMa:=Lib.hid hMa;clear hN hMa B1 hmb
 gi_wp2_with fail
 refine⟨trivial,CallsIn.mono (callsIn_wide.2 (longest_ok mb gs cs gn cn r c w2 HMa.out)) ?_⟩;rintro e w3 ⟨sv,rfl,hown,hb3⟩;obtain⟨lr,lc,rfl⟩:=ownsRow_succ hown;have r0:w3.cell? ⟨lr,0,none⟩=some (.int .i64 2):=own_cell hown rfl;have r1:w3.cell? ⟨lr,1,none⟩=some (.int .i64 0):=own_cell hown rfl;have r2:w3.cell? ⟨lr,2,none⟩=some (.int .i64 1):=own_cell hown rfl;have r3:w3.cell? ⟨lr,3,none⟩=some (.int .i64 0):=own_cell hown rfl;obtain⟨cur,hcur,-,hlr⟩:=own_blk hown;have hlr3:=blk_lt hcur;have B3:Below w.heap.size w w3:=bl_call B2 hb3 B2.size;have M3:=HMa.out.keep (fun k hk=>hb3.block k hk);have hL:=B2.size;have hL3:=hb3.size;clear hown hcur hb3 HMa B2
 gi_wp2_with fail
 obtain⟨lb,hlb⟩:∃lb,lb=w3.heap.size:=⟨_,rfl⟩
 obtain⟨ob,hob⟩:∃ob,ob=w3.heap.size+1:=⟨_,rfl⟩
 obtain⟨ib,hib⟩:∃ib,ib=w3.heap.size+1+1:=⟨_,rfl⟩
 obtain⟨W0,h0⟩:∃W0,W0=((w3.alloc (.cells #[.slice (some ⟨lr,0,none⟩) 4 lc] 22)).alloc (.cells #[.string ⟨#[]⟩] 9)).alloc (.cells #[.int .i64 0] 3):=⟨_,rfl⟩
 rw[<-hib,<-hob,<-hlb,<-h0];have hB30:Below w3.heap.size w3 W0:=by rw[h0]; exact(((Below.refl _ _).alloc (Nat.le_refl _) _).alloc (by simp) _).alloc (by simp; omega) _
 have L0:LW w W0 w2.heap.size mb gs cs gn cn r c lb lr lc ob ib ⟨#[]⟩ 0:=by
  refine⟨by rw[h0,hlb]; exact(by repeat (first | assumption | (with_reducible apply blk_set2) | (with_reducible apply blk_set1) | (with_reducible refine blk_far2 ?_ ?_; (first | omega | (simp; done) | (simp; omega))) | (with_reducible refine blk_far1 ?_ ?_; (first | omega | (simp; done) | (simp; omega))) | (with_reducible refine blk_new' _ _ ?_; (first | omega | (simp; done) | (simp; omega))) | (with_reducible refine blk_old ?_) | (with_reducible refine blk_drew ?_))),keepc hB30 r0,keepc hB30 r1,keepc hB30 r2,keepc hB30 r3,by rw[h0,hob]; exact(by repeat (first | assumption | (with_reducible apply blk_set2) | (with_reducible apply blk_set1) | (with_reducible refine blk_far2 ?_ ?_; (first | omega | (simp; done) | (simp; omega))) | (with_reducible refine blk_far1 ?_ ?_; (first | omega | (simp; done) | (simp; omega))) | (with_reducible refine blk_new' _ _ ?_; (first | omega | (simp; done) | (simp; omega))) | (with_reducible refine blk_old ?_) | (with_reducible refine blk_drew ?_))),by rw[h0,hib]; exact(by repeat (first | assumption | (with_reducible apply blk_set2) | (with_reducible apply blk_set1) | (with_reducible refine blk_far2 ?_ ?_; (first | omega | (simp; done) | (simp; omega))) | (with_reducible refine blk_far1 ?_ ?_; (first | omega | (simp; done) | (simp; omega))) | (with_reducible refine blk_new' _ _ ?_; (first | omega | (simp; done) | (simp; omega))) | (with_reducible refine blk_old ?_) | (with_reducible refine blk_drew ?_))),M3.keep (fun k hk=>hB30.block k (by omega)),B3.trans (hB30.mono B3.size),?_⟩;omega
 have HL0:=Lib.hid L0;clear h0 hB30 L0 r0 r1 r2 r3 M3 hlb hob hib;refine wpIn_loop_rounds 3 ?_;rw[roundsIn_succ];have hl0:=row1_0 HL0.out.l;have hi0:=row1_0 HL0.out.i;have hq0:=HL0.out.r0;have hle0:=HL0.out.le;have hzi0:=blk_lt HL0.out.i
 gi_wp2_with (first
  | (refine⟨trivial,?_⟩; gi_at_call 115; refine CallsIn.mono (callsIn_wide.2 (steps_ok _ _ _)) ?_; rintro e w' ⟨rfl,rfl⟩)
  | fail)
 obtain⟨gb,hgb⟩:∃gb,gb=W0.heap.size:=⟨_,rfl⟩
 obtain⟨Wc,hc⟩:∃Wc,Wc=(W0.alloc (.cells #[.pointer (some ⟨mb,0,none⟩)] 177)).alloc (.cells #[.int .i64 0] 3):=⟨_,rfl⟩
 rw[<-hgb,<-hc];have G0:Wc.heap[gb]?=some (.cells #[.pointer (some ⟨mb,0,none⟩)] 177 (0,0)):=by rw[hc,hgb]; exact(by repeat (first | assumption | (with_reducible apply blk_set2) | (with_reducible apply blk_set1) | (with_reducible refine blk_far2 ?_ ?_; (first | omega | (simp; done) | (simp; omega))) | (with_reducible refine blk_far1 ?_ ?_; (first | omega | (simp; done) | (simp; omega))) | (with_reducible refine blk_new' _ _ ?_; (first | omega | (simp; done) | (simp; omega))) | (with_reducible refine blk_old ?_) | (with_reducible refine blk_drew ?_)))
 have G1:Wc.heap[gb+1]?=some (.cells #[.int .i64 0] 3 (0,0)):=by rw[hc,hgb]; exact(by repeat (first | assumption | (with_reducible apply blk_set2) | (with_reducible apply blk_set1) | (with_reducible refine blk_far2 ?_ ?_; (first | omega | (simp; done) | (simp; omega))) | (with_reducible refine blk_far1 ?_ ?_; (first | omega | (simp; done) | (simp; omega))) | (with_reducible refine blk_new' _ _ ?_; (first | omega | (simp; done) | (simp; omega))) | (with_reducible refine blk_old ?_) | (with_reducible refine blk_drew ?_)))
 have Lc:=HL0.out.low (show Below W0.heap.size W0 Wc by rw[hc]; exact((Below.refl _ _).alloc (Nat.le_refl _) _).alloc (by simp) _);have HBW0:=Lib.hid (show Below W0.heap.size W0 Wc by rw[hc]; exact((Below.refl _ _).alloc (Nat.le_refl _) _).alloc (by simp) _);have hszc:Wc.heap.size=gb+2:=by rw[hc,hgb]; simp
 have hibc:ib < Wc.heap.size:=blk_lt Lc.i;have hobc:ob < Wc.heap.size:=blk_lt Lc.o;have hLL:w2.heap.size<=gb:=by omega
 have HLc:=Lib.hid Lc;have HIBC:=Lib.hid hibc;have HOBC0:=Lib.hid hobc;clear hc hgb Lc hl0 hi0 hq0;refine wpIn_rangeFunc_ownH (α:=Bool) rfl (by omega) (gf:=140) (lb:=#[.pointer (some ⟨gb,0,none⟩),.pointer (some ⟨gb+1,0,none⟩)]) rfl trivial (enters_of Tryz.func140 (by kernel_rfl) rfl)
  (encs:=enB) (Kp:=Below w2.heap.size) (S:=fun ys=>ys=pB 2) (Sp:=fun _=>True) (N:=2) (w0:=Wc)
  (fun l J Jx W hW hJ _ hY h0=>steps1_0 8 (by omega) l _ _ w2.heap.size mb gs cs gn cn r c J Jx W hJ hY (row1_0 ((hW.block _ (by omega)).trans G0)) (row1_0 ((hW.block _ (by omega)).trans G1)) (HLc.out.ma.keep (fun k hk=>hW.block k (by omega))) h0)
  (fun h1 h2=>h1.trans h2) (belowK_b (by omega)) (Below.refl _ _) (fun x=>(by cases x <;> rfl))
  (fun pre W=>true ∉ pre/\Below Wc.heap.size Wc W) (fun cc _ W=>Brk Wc ob ib ⟨#[98]⟩ 2 cc W)
  (ownI _) (ownBrk hobc hibc)
  ⟨by simp,Below.refl _ _⟩
  (fun x a' W=>a' = { tmps:=#[.int .i64 2,.slice (some ⟨sb,0,none⟩) 3 cap,undef,undef,.string ⟨#[]⟩,.int .i64 0,.pointer (some ⟨mb,0,none⟩),.pointer (some ⟨lb,0,none⟩),.pointer (some ⟨ob,0,none⟩),.pointer (some ⟨ib,0,none⟩),sB x,jB x,.int .i64 2,.slice (some ⟨sb,0,none⟩) 3 cap,.bool true,.bool false,.int .i64 2,.slice (some ⟨sb,0,none⟩) 3 cap,.pointer (some ⟨mb,0,none⟩),.pointer (some ⟨mb,0,none⟩),.slice (some ⟨lr,0,none⟩) 4 lc,.slice (some ⟨lr,0,none⟩) 4 lc,.pointer (some ⟨lr,0,none⟩),.int .i64 2,.bool false,.slice (some ⟨lr,0,none⟩) 4 lc,.int .i64 0,.pointer (some ⟨lr,0,none⟩),.int .i64 2,.bool true,.pointer (some ⟨mb,0,none⟩),.int .i64 0,.func (.func 140) #[] #[.pointer (some ⟨gb,0,none⟩),.pointer (some ⟨gb+1,0,none⟩)],sB x,jB x,undef,undef,undef,undef,undef,undef,undef,undef,undef,undef,undef,undef,undef,undef,undef,undef],defers:=[] })
  (fun x a' _ X Y row hs hg hr=>hs)
  ?assign0 ?body0 ?done0 ?stop0
 case assign0 =>
  rintro l pre x W Kq hI hK;have HK:=Lib.hid hK;have HI:=Lib.hid hI;clear hK hI;cases x <;> simp only[enB];all_goals
   gi_wp2
   exact HK.out _ _ ((KeepsOthers.refl _).from _) (Below.refl _ _) HI.out rfl
 case body0 =>
  rintro l pre x a' Wx hl ⟨rr,hrr⟩ ⟨hp,BW⟩ rfl hlt;have HLx:=HLc.out.low BW;have hz:=BW.size;clear hrr G0 G1;have l0:=row1_0 HLx.l;have q0:=HLx.r0;have q1:=HLx.r1;have q2:=HLx.r2;have q3:=HLx.r3;have o0:=row1_0 HLx.o;have of:=row_f HLx.o;have i0:=row1_0 HLx.i;have if0:=row_f HLx.i;have HO:=Lib.hid HLx.o;have HIi:=Lib.hid HLx.i;have hole:=HLx.le;clear HLx;cases x <;> simp only[sB,jB]
  ·
   gi_wp2
   refine with_actIn fun a0 ha0=>?_;have hsz0:a0.tmps.size=51:=by rw[ha0]; rfl
   refine wpIn_region_vals (by kernel_rfl) (by kernel_rfl) [(35,.slice (some ⟨lr,0,none⟩) 4 lc),(36,.int .i64 1),(37,.pointer (some ⟨lr,1,none⟩)),(38,.int .i64 0),(39,.slice (some ⟨lr,0,none⟩) 4 lc),(40,.int .i64 0),(41,.pointer (some ⟨lr,0,none⟩)),(42,.int .i64 2),(43,.int .i64 1),(44,.bool false)] rfl (by show([35,36,37,38,39,40,41,42,43,44]:List Nat).Nodup; decide) _ hsz0 (by kernel_rfl) ⟨⟨rfl,rfl,?y1v0⟩,⟨rfl,rfl,?y1v1⟩,⟨rfl,rfl,?y1v2⟩,⟨rfl,rfl,?y1v3⟩,⟨rfl,rfl,?y1v4⟩,⟨rfl,rfl,?y1v5⟩,⟨rfl,rfl,?y1v6⟩,⟨rfl,rfl,?y1v7⟩,⟨rfl,rfl,?y1v8⟩,⟨rfl,rfl,?y1v9⟩,trivial⟩ ?y1done
   case y1v0 =>
    intro a' hA hdep;obtain⟨r7,q7⟩:=dpi hA 7 (.pointer (some ⟨lb,0,none⟩)) (by kernel_rfl) (by rw[ha0]; rfl);clear hdep ha0 hA;refine⟨about_plain (fun _ h=>nomatch h),?_⟩
    (simp[go_sem, *] <;> decide)
   case y1v1 =>
    intro a' hA hdep;obtain⟨r11,q11⟩:=dpi hA 11 (.int .i64 1) (by kernel_rfl) (by rw[ha0]; rfl);clear hdep ha0 hA;refine⟨about_plain (fun _ h=>nomatch h),?_⟩
    (simp[go_sem, *] <;> decide)
   case y1v2 =>
    intro a' hA hdep;obtain⟨r35,q35⟩:=dpv hdep ⟨0,.data⟩ (by simp) rfl rfl;obtain⟨r36,q36⟩:=dpv hdep ⟨1,.data⟩ (by simp) rfl rfl;clear hdep ha0 hA;refine⟨about_plain (fun _ h=>nomatch h),?_⟩
    (simp[go_sem, *] <;> decide)
   case y1v3 =>
    intro a' hA hdep;obtain⟨r37,q37⟩:=dpv hdep ⟨2,.data⟩ (by simp) rfl rfl;clear hdep ha0 hA;refine⟨about_plain (fun _ h=>nomatch h),?_⟩
    (simp[go_sem, *] <;> decide)
   case y1v4 =>
    intro a' hA hdep;obtain⟨r7,q7⟩:=dpi hA 7 (.pointer (some ⟨lb,0,none⟩)) (by kernel_rfl) (by rw[ha0]; rfl);clear hdep ha0 hA;refine⟨about_plain (fun _ h=>nomatch h),?_⟩
    (simp[go_sem, *] <;> decide)
   case y1v5 =>
    intro a' hA hdep;obtain⟨r9,q9⟩:=dpi hA 9 (.pointer (some ⟨ib,0,none⟩)) (by kernel_rfl) (by rw[ha0]; rfl);clear hdep ha0 hA;refine⟨about_plain (fun _ h=>nomatch h),?_⟩
    (simp[go_sem, *] <;> decide)
   case y1v6 =>
    intro a' hA hdep;obtain⟨r39,q39⟩:=dpv hdep ⟨4,.data⟩ (by simp) rfl rfl;obtain⟨r40,q40⟩:=dpv hdep ⟨5,.data⟩ (by simp) rfl rfl;clear hdep ha0 hA;refine⟨about_plain (fun _ h=>nomatch h),?_⟩
    (simp[go_sem, *] <;> decide)
   case y1v7 =>
    intro a' hA hdep;obtain⟨r41,q41⟩:=dpv hdep ⟨6,.data⟩ (by simp) rfl rfl;clear hdep ha0 hA;refine⟨about_plain (fun _ h=>nomatch h),?_⟩
    (simp[go_sem, *] <;> decide)
   case y1v8 =>
    intro a' hA hdep;obtain⟨r42,q42⟩:=dpv hdep ⟨7,.data⟩ (by simp) rfl rfl;clear hdep ha0 hA;refine⟨about_plain (fun _ h=>nomatch h),?_⟩
    (simp[go_sem, *] <;> decide)
   case y1v9 =>
    intro a' hA hdep;obtain⟨r38,q38⟩:=dpv hdep ⟨3,.data⟩ (by simp) rfl rfl;obtain⟨r43,q43⟩:=dpv hdep ⟨8,.data⟩ (by simp) rfl rfl;clear hdep ha0 hA;refine⟨about_plain (fun _ h=>nomatch h),?_⟩
    (simp[go_sem, *] <;> decide)
   rw[ha0]; simp only[putL,Act.put,sA_,sZ_,sS_];clear ha0 hsz0
   gi_wp2
   exact⟨(KeepsOthers.drew _).from _,(Below.refl _ Wx).drew,by simpa using hp,BW.drew⟩
  ·
   have hcat:(⟨#[]⟩:ByteArray) ++ (⟨#[98]⟩:ByteArray)=⟨#[98]⟩:=by kernel_rfl
   gi_wp2
   refine with_actIn fun a0 ha0=>?_;have hsz0:a0.tmps.size=51:=by rw[ha0]; rfl
   refine wpIn_region_vals (by kernel_rfl) (by kernel_rfl) [(35,.slice (some ⟨lr,0,none⟩) 4 lc),(36,.int .i64 2),(37,.pointer (some ⟨lr,2,none⟩)),(38,.int .i64 1),(39,.slice (some ⟨lr,0,none⟩) 4 lc),(40,.int .i64 0),(41,.pointer (some ⟨lr,0,none⟩)),(42,.int .i64 2),(43,.int .i64 1),(44,.bool true)] rfl (by show([35,36,37,38,39,40,41,42,43,44]:List Nat).Nodup; decide) _ hsz0 (by kernel_rfl) ⟨⟨rfl,rfl,?y2v0⟩,⟨rfl,rfl,?y2v1⟩,⟨rfl,rfl,?y2v2⟩,⟨rfl,rfl,?y2v3⟩,⟨rfl,rfl,?y2v4⟩,⟨rfl,rfl,?y2v5⟩,⟨rfl,rfl,?y2v6⟩,⟨rfl,rfl,?y2v7⟩,⟨rfl,rfl,?y2v8⟩,⟨rfl,rfl,?y2v9⟩,trivial⟩ ?y2done
   case y2v0 =>
    intro a' hA hdep;obtain⟨r7,q7⟩:=dpi hA 7 (.pointer (some ⟨lb,0,none⟩)) (by kernel_rfl) (by rw[ha0]; rfl);clear hdep ha0 hA;refine⟨about_plain (fun _ h=>nomatch h),?_⟩
    (simp[go_sem, *] <;> decide)
   case y2v1 =>
    intro a' hA hdep;obtain⟨r11,q11⟩:=dpi hA 11 (.int .i64 2) (by kernel_rfl) (by rw[ha0]; rfl);clear hdep ha0 hA;refine⟨about_plain (fun _ h=>nomatch h),?_⟩
    (simp[go_sem, *] <;> decide)
   case y2v2 =>
    intro a' hA hdep;obtain⟨r35,q35⟩:=dpv hdep ⟨0,.data⟩ (by simp) rfl rfl;obtain⟨r36,q36⟩:=dpv hdep ⟨1,.data⟩ (by simp) rfl rfl;clear hdep ha0 hA;refine⟨about_plain (fun _ h=>nomatch h),?_⟩
    (simp[go_sem, *] <;> decide)
   case y2v3 =>
    intro a' hA hdep;obtain⟨r37,q37⟩:=dpv hdep ⟨2,.data⟩ (by simp) rfl rfl;clear hdep ha0 hA;refine⟨about_plain (fun _ h=>nomatch h),?_⟩
    (simp[go_sem, *] <;> decide)
   case y2v4 =>
    intro a' hA hdep;obtain⟨r7,q7⟩:=dpi hA 7 (.pointer (some ⟨lb,0,none⟩)) (by kernel_rfl) (by rw[ha0]; rfl);clear hdep ha0 hA;refine⟨about_plain (fun _ h=>nomatch h),?_⟩
    (simp[go_sem, *] <;> decide)
   case y2v5 =>
    intro a' hA hdep;obtain⟨r9,q9⟩:=dpi hA 9 (.pointer (some ⟨ib,0,none⟩)) (by kernel_rfl) (by rw[ha0]; rfl);clear hdep ha0 hA;refine⟨about_plain (fun _ h=>nomatch h),?_⟩
    (simp[go_sem, *] <;> decide)
   case y2v6 =>
    intro a' hA hdep;obtain⟨r39,q39⟩:=dpv hdep ⟨4,.data⟩ (by simp) rfl rfl;obtain⟨r40,q40⟩:=dpv hdep ⟨5,.data⟩ (by simp) rfl rfl;clear hdep ha0 hA;refine⟨about_plain (fun _ h=>nomatch h),?_⟩
    (simp[go_sem, *] <;> decide)
   case y2v7 =>
    intro a' hA hdep;obtain⟨r41,q41⟩:=dpv hdep ⟨6,.data⟩ (by simp) rfl rfl;clear hdep ha0 hA;refine⟨about_plain (fun _ h=>nomatch h),?_⟩
    (simp[go_sem, *] <;> decide)
   case y2v8 =>
    intro a' hA hdep;obtain⟨r42,q42⟩:=dpv hdep ⟨7,.data⟩ (by simp) rfl rfl;clear hdep ha0 hA;refine⟨about_plain (fun _ h=>nomatch h),?_⟩
    (simp[go_sem, *] <;> decide)
   case y2v9 =>
    intro a' hA hdep;obtain⟨r38,q38⟩:=dpv hdep ⟨3,.data⟩ (by simp) rfl rfl;obtain⟨r43,q43⟩:=dpv hdep ⟨8,.data⟩ (by simp) rfl rfl;clear hdep ha0 hA;refine⟨about_plain (fun _ h=>nomatch h),?_⟩
    (simp[go_sem, *] <;> decide)
   rw[ha0]; simp only[putL,Act.put,sA_,sZ_,sS_];clear ha0 hsz0
   gi_wp2
   exact⟨(((KeepsOthers.drew _).trans (KeepsOthers.setCell _ _ _)).trans (KeepsOthers.setCell _ _ _)).from _,rfl,((((BelX.mk BW.os BW.tape BW.output BW.size (fun k hk _=>BW.block k hk):BelX [ob,ib] Wc Wx).call (Below.refl _ _).drew).setOld (p:=⟨ob,0,none⟩) (by simp) _).setOld (p:=⟨ib,0,none⟩) (by simp) _),blk_farI 0 _ (by omega) ((blk_setI 0 _ HO.out).trans rfl),(blk_setI 0 _ (blk_farI 0 _ (by omega) HIi.out)).trans rfl⟩
 case done0 =>
  rintro D zs W hD rfl ⟨hp,-⟩ hK;exact absurd (by simp[pB]) hp
 case stop0 =>
  rintro D1 cc pre W1 hD0 _ hbrk hK0;have hL1':=HLc.out.broke hbrk;obtain⟨i1,hi1⟩:∃i1,i1=W1.heap.size:=⟨_,rfl⟩
  obtain⟨Wb,hWb⟩:∃Wb,Wb=W1.alloc (.cells #[.int .i64 2] 3):=⟨_,rfl⟩
  have hL1:LW w Wb w2.heap.size mb gs cs gn cn r c lb lr lc ob i1 ⟨#[98]⟩ 2:=by rw[hWb,hi1]; exact hL1'
  clear hL1';have HWB:=Lib.hid hWb;have HI1:=Lib.hid hi1;clear hWb hi1;obtain⟨rfl,hX,hO,hI⟩:=hbrk;have i0:=row1_0 hI;have HL1:=Lib.hid hL1;have HX0:=Lib.hid hX;have HK0:=Lib.hid hK0;have HD0:=Lib.hid hD0;clear hL1 hX hO hI hK0 HLc G0 G1
  gi_wp2
  rw[<-HI1.out,<-HWB.out];rw[roundsIn_succ];have hl0:=row1_0 HL1.out.l;have hi0:=row1_0 HL1.out.i;have hq0:=HL1.out.r2;have hle1:=HL1.out.le;have hzi1:=blk_lt HL1.out.i
  gi_wp2_with (first
   | (refine⟨trivial,?_⟩; gi_at_call 115; refine CallsIn.mono (callsIn_wide.2 (steps_ok _ _ _)) ?_; rintro e w' ⟨rfl,rfl⟩)
   | fail)
  obtain⟨gb,hgb⟩:∃gb,gb=Wb.heap.size:=⟨_,rfl⟩
  obtain⟨Wc,hc⟩:∃Wc,Wc=(Wb.alloc (.cells #[.pointer (some ⟨mb,0,none⟩)] 177)).alloc (.cells #[.int .i64 2] 3):=⟨_,rfl⟩
  rw[<-hgb,<-hc];have G0:Wc.heap[gb]?=some (.cells #[.pointer (some ⟨mb,0,none⟩)] 177 (0,0)):=by rw[hc,hgb]; exact(by repeat (first | assumption | (with_reducible apply blk_set2) | (with_reducible apply blk_set1) | (with_reducible refine blk_far2 ?_ ?_; (first | omega | (simp; done) | (simp; omega))) | (with_reducible refine blk_far1 ?_ ?_; (first | omega | (simp; done) | (simp; omega))) | (with_reducible refine blk_new' _ _ ?_; (first | omega | (simp; done) | (simp; omega))) | (with_reducible refine blk_old ?_) | (with_reducible refine blk_drew ?_)))
  have G1:Wc.heap[gb+1]?=some (.cells #[.int .i64 2] 3 (0,0)):=by rw[hc,hgb]; exact(by repeat (first | assumption | (with_reducible apply blk_set2) | (with_reducible apply blk_set1) | (with_reducible refine blk_far2 ?_ ?_; (first | omega | (simp; done) | (simp; omega))) | (with_reducible refine blk_far1 ?_ ?_; (first | omega | (simp; done) | (simp; omega))) | (with_reducible refine blk_new' _ _ ?_; (first | omega | (simp; done) | (simp; omega))) | (with_reducible refine blk_old ?_) | (with_reducible refine blk_drew ?_)))
  have Lc:=HL1.out.low (show Below Wb.heap.size Wb Wc by rw[hc]; exact((Below.refl _ _).alloc (Nat.le_refl _) _).alloc (by simp) _);have HBW1:=Lib.hid (show Below Wb.heap.size Wb Wc by rw[hc]; exact((Below.refl _ _).alloc (Nat.le_refl _) _).alloc (by simp) _);have hszc:Wc.heap.size=gb+2:=by rw[hc,hgb]; simp
  have hibc:i1 < Wc.heap.size:=blk_lt Lc.i;have hobc:ob < Wc.heap.size:=blk_lt Lc.o;have hLL:w2.heap.size<=gb:=by omega
  have HLc:=Lib.hid Lc;have HIBC:=Lib.hid hibc;have HOBC:=Lib.hid hobc;clear hc hgb Lc hl0 hi0 hq0;refine wpIn_rangeFunc_ownH (α:=Unit) rfl (by omega) (gf:=140) (lb:=#[.pointer (some ⟨gb,0,none⟩),.pointer (some ⟨gb+1,0,none⟩)]) rfl trivial (enters_of Tryz.func140 (by kernel_rfl) rfl)
   (encs:=enU) (Kp:=Below w2.heap.size) (S:=fun ys=>ys=pU 2) (Sp:=fun _=>True) (N:=1) (w0:=Wc)
   (fun l J Jx W hW hJ _ hY h0=>steps1_2 8 (by omega) l _ _ w2.heap.size mb gs cs gn cn r c J Jx W hJ hY (row1_0 ((hW.block _ (by omega)).trans G0)) (row1_0 ((hW.block _ (by omega)).trans G1)) (HLc.out.ma.keep (fun k hk=>hW.block k (by omega))) h0)
   (fun h1 h2=>h1.trans h2) (belowK_b (by omega)) (Below.refl _ _) (fun x=>rfl)
   (fun pre W=>pre = []/\Below Wc.heap.size Wc W) (fun cc _ W=>Brk Wc ob i1 ⟨#[98,97]⟩ 3 cc W)
   (ownI _) (ownBrk hobc hibc)
   ⟨by simp,Below.refl _ _⟩
   (fun x a' W=>a' = { tmps:=#[.int .i64 2,.slice (some ⟨sb,0,none⟩) 3 cap,undef,undef,.string ⟨#[]⟩,.int .i64 0,.pointer (some ⟨mb,0,none⟩),.pointer (some ⟨lb,0,none⟩),.pointer (some ⟨ob,0,none⟩),.pointer (some ⟨i1,0,none⟩),sU x,jU x,.int .i64 2,.slice (some ⟨sb,0,none⟩) 3 cap,.bool true,.bool false,.int .i64 2,.slice (some ⟨sb,0,none⟩) 3 cap,.pointer (some ⟨mb,0,none⟩),.pointer (some ⟨mb,0,none⟩),.slice (some ⟨lr,0,none⟩) 4 lc,.slice (some ⟨lr,0,none⟩) 4 lc,.pointer (some ⟨lr,0,none⟩),.int .i64 2,.bool false,.slice (some ⟨lr,0,none⟩) 4 lc,.int .i64 2,.pointer (some ⟨lr,2,none⟩),.int .i64 1,.bool true,.pointer (some ⟨mb,0,none⟩),.int .i64 2,.func (.func 140) #[] #[.pointer (some ⟨gb,0,none⟩),.pointer (some ⟨gb+1,0,none⟩)],sU x,jU x,undef,undef,undef,undef,undef,undef,undef,undef,undef,undef,undef,undef,undef,undef,.int .i64 2,undef],defers:=[] })
   (fun x a' _ X Y row hs hg hr=>hs)
   ?assign1 ?body1 ?done1 ?stop1
  case assign1 =>
   rintro l pre x W Kq hI hK;have HK:=Lib.hid hK;have HI:=Lib.hid hI;clear hK hI;simp only[enU];all_goals
    gi_wp2
    exact HK.out _ _ ((KeepsOthers.refl _).from _) (Below.refl _ _) HI.out rfl
  case body1 =>
   rintro l pre x a' Wx hl ⟨rr,hrr⟩ ⟨hp,BW⟩ rfl hlt;have HLx:=HLc.out.low BW;have hz:=BW.size;clear hrr G0 G1;have l0:=row1_0 HLx.l;have q0:=HLx.r0;have q1:=HLx.r1;have q2:=HLx.r2;have q3:=HLx.r3;have o0:=row1_0 HLx.o;have of:=row_f HLx.o;have i0:=row1_0 HLx.i;have if0:=row_f HLx.i;have HO:=Lib.hid HLx.o;have HIi:=Lib.hid HLx.i;have hole:=HLx.le;clear HLx;simp only[sU,jU];have hcat:(⟨#[98]⟩:ByteArray) ++ (⟨#[97]⟩:ByteArray)=⟨#[98,97]⟩:=by kernel_rfl
   gi_wp2
   refine with_actIn fun a0 ha0=>?_;have hsz0:a0.tmps.size=51:=by rw[ha0]; rfl
   refine wpIn_region_vals (by kernel_rfl) (by kernel_rfl) [(35,.slice (some ⟨lr,0,none⟩) 4 lc),(36,.int .i64 3),(37,.pointer (some ⟨lr,3,none⟩)),(38,.int .i64 0),(39,.slice (some ⟨lr,0,none⟩) 4 lc),(40,.int .i64 2),(41,.pointer (some ⟨lr,2,none⟩)),(42,.int .i64 1),(43,.int .i64 0),(44,.bool true)] rfl (by show([35,36,37,38,39,40,41,42,43,44]:List Nat).Nodup; decide) _ hsz0 (by kernel_rfl) ⟨⟨rfl,rfl,?y3v0⟩,⟨rfl,rfl,?y3v1⟩,⟨rfl,rfl,?y3v2⟩,⟨rfl,rfl,?y3v3⟩,⟨rfl,rfl,?y3v4⟩,⟨rfl,rfl,?y3v5⟩,⟨rfl,rfl,?y3v6⟩,⟨rfl,rfl,?y3v7⟩,⟨rfl,rfl,?y3v8⟩,⟨rfl,rfl,?y3v9⟩,trivial⟩ ?y3done
   case y3v0 =>
    intro a' hA hdep;obtain⟨r7,q7⟩:=dpi hA 7 (.pointer (some ⟨lb,0,none⟩)) (by kernel_rfl) (by rw[ha0]; rfl);clear hdep ha0 hA;refine⟨about_plain (fun _ h=>nomatch h),?_⟩
    (simp[go_sem, *] <;> decide)
   case y3v1 =>
    intro a' hA hdep;obtain⟨r11,q11⟩:=dpi hA 11 (.int .i64 3) (by kernel_rfl) (by rw[ha0]; rfl);clear hdep ha0 hA;refine⟨about_plain (fun _ h=>nomatch h),?_⟩
    (simp[go_sem, *] <;> decide)
   case y3v2 =>
    intro a' hA hdep;obtain⟨r35,q35⟩:=dpv hdep ⟨0,.data⟩ (by simp) rfl rfl;obtain⟨r36,q36⟩:=dpv hdep ⟨1,.data⟩ (by simp) rfl rfl;clear hdep ha0 hA;refine⟨about_plain (fun _ h=>nomatch h),?_⟩
    (simp[go_sem, *] <;> decide)
   case y3v3 =>
    intro a' hA hdep;obtain⟨r37,q37⟩:=dpv hdep ⟨2,.data⟩ (by simp) rfl rfl;clear hdep ha0 hA;refine⟨about_plain (fun _ h=>nomatch h),?_⟩
    (simp[go_sem, *] <;> decide)
   case y3v4 =>
    intro a' hA hdep;obtain⟨r7,q7⟩:=dpi hA 7 (.pointer (some ⟨lb,0,none⟩)) (by kernel_rfl) (by rw[ha0]; rfl);clear hdep ha0 hA;refine⟨about_plain (fun _ h=>nomatch h),?_⟩
    (simp[go_sem, *] <;> decide)
   case y3v5 =>
    intro a' hA hdep;obtain⟨r9,q9⟩:=dpi hA 9 (.pointer (some ⟨i1,0,none⟩)) (by kernel_rfl) (by rw[ha0]; rfl);clear hdep ha0 hA;refine⟨about_plain (fun _ h=>nomatch h),?_⟩
    (simp[go_sem, *] <;> decide)
   case y3v6 =>
    intro a' hA hdep;obtain⟨r39,q39⟩:=dpv hdep ⟨4,.data⟩ (by simp) rfl rfl;obtain⟨r40,q40⟩:=dpv hdep ⟨5,.data⟩ (by simp) rfl rfl;clear hdep ha0 hA;refine⟨about_plain (fun _ h=>nomatch h),?_⟩
    (simp[go_sem, *] <;> decide)
   case y3v7 =>
    intro a' hA hdep;obtain⟨r41,q41⟩:=dpv hdep ⟨6,.data⟩ (by simp) rfl rfl;clear hdep ha0 hA;refine⟨about_plain (fun _ h=>nomatch h),?_⟩
    (simp[go_sem, *] <;> decide)
   case y3v8 =>
    intro a' hA hdep;obtain⟨r42,q42⟩:=dpv hdep ⟨7,.data⟩ (by simp) rfl rfl;clear hdep ha0 hA;refine⟨about_plain (fun _ h=>nomatch h),?_⟩
    (simp[go_sem, *] <;> decide)
   case y3v9 =>
    intro a' hA hdep;obtain⟨r38,q38⟩:=dpv hdep ⟨3,.data⟩ (by simp) rfl rfl;obtain⟨r43,q43⟩:=dpv hdep ⟨8,.data⟩ (by simp) rfl rfl;clear hdep ha0 hA;refine⟨about_plain (fun _ h=>nomatch h),?_⟩
    (simp[go_sem, *] <;> decide)
   rw[ha0]; simp only[putL,Act.put,sA_,sZ_,sS_];clear ha0 hsz0
   gi_wp2
   exact⟨(((KeepsOthers.drew _).trans (KeepsOthers.setCell _ _ _)).trans (KeepsOthers.setCell _ _ _)).from _,rfl,((((BelX.mk BW.os BW.tape BW.output BW.size (fun k hk _=>BW.block k hk):BelX [ob,i1] Wc Wx).call (Below.refl _ _).drew).setOld (p:=⟨ob,0,none⟩) (by simp) _).setOld (p:=⟨i1,0,none⟩) (by simp) _),blk_farI 0 _ (by omega) ((blk_setI 0 _ HO.out).trans rfl),(blk_setI 0 _ (blk_farI 0 _ (by omega) HIi.out)).trans rfl⟩
  case done1 =>
   rintro D zs W hD rfl ⟨hp,-⟩ hK;exact absurd hp (by simp[pU])
  case stop1 =>
   rintro D2 cc pre W3 hD1 _ hbrk hK1;have hL2':=HLc.out.broke hbrk;obtain⟨i2,hi2⟩:∃i2,i2=W3.heap.size:=⟨_,rfl⟩
   obtain⟨We,hWe⟩:∃We,We=W3.alloc (.cells #[.int .i64 3] 3):=⟨_,rfl⟩
   have hL2:LW w We w2.heap.size mb gs cs gn cn r c lb lr lc ob i2 ⟨#[98,97]⟩ 3:=by rw[hWe,hi2]; exact hL2'
   clear hL2';have HWE:=Lib.hid hWe;have HI2:=Lib.hid hi2;clear hWe hi2;obtain⟨rfl,hX,hO,hI⟩:=hbrk;have i0:=row1_0 hI;have HL2:=Lib.hid hL2;have HX1:=Lib.hid hX;have HK1:=Lib.hid hK1;have HD1:=Lib.hid hD1;clear hL2 hX hO hI hK1 HLc G0 G1
   gi_wp2
   rw[<-HI2.out,<-HWE.out];rw[roundsIn_succ];have l0:=row1_0 HL2.out.l;have e0:=row1_0 HL2.out.i;have q3:=HL2.out.r3;have o0:=row1_0 HL2.out.o;clear i0
   gi_wp2
   have hd0:=HD0.out;have hd1:=HD1.out;have h1:=blk_lt HK0.out;have h2:=blk_lt HK1.out;have h3:=HOBC0.out;have h4:=HI1.out;have hzb:W1.heap.size < Wb.heap.size:=by rw[HWB.out]; simp
   have hzc:=HBW1.out.size;have hzx:=HX1.out.size;have k2:We.heap[D2]?=some (.deferred (some [])):=by rw[HWE.out]; exact blk_old HK1.out
   have kb:Wb.heap[D1]?=some (.deferred (some [])):=by rw[HWB.out]; exact blk_old HK0.out
   have k1:We.heap[D1]?=some (.deferred (some [])):=by
    rw[HWE.out];exact blk_old ((HX1.out.block D1 (by omega) (by simp; omega)).trans ((HBW1.out.block D1 (by omega)).trans kb))
   have k1':(We.putObj D2 (.deferred none)).heap[D1]?=some (.deferred (some [])):=(World.putObj_heap_other (by omega)).trans k1;have hle2:=HL2.out.le;have B5:=HL2.out.bel.trans (belowK_b (w:=w) (Nat.le_refl _) We D2 _ (.deferred none) (by omega) k2 rfl rfl);have B6:=B5.trans (belowK_b (w:=w) (Nat.le_refl _) _ D1 _ (.deferred none) (by omega) k1' rfl rfl);refine⟨by simp,.inl ⟨_,_,rfl,run_takeDeferred k2,?_⟩⟩;refine⟨by simp,.inl ⟨_,_,rfl,run_takeDeferred k1',?_⟩⟩;exact⟨.tuple #[.string ⟨#[98,97]⟩,.int .i64 0],by simp[results,Tryz.results101,go_sem],rfl,B6⟩
end Go.Proofs.YtaffkceklkdokaaGreatDoor
