/- guard hands back the error of a panic, or 0. -/
import Derived.Test.YtaffkceklkdokaaGreatDoorZ5
import Derived.Defers
import Derived.Recover
set_option maxRecDepth 100000
set_option maxHeartbeats 8000000
namespace Go.Proofs.YtaffkceklkdokaaGreatDoor
open Go.RowKit
attribute [local go_sem ↓] Go.wp_at_zero Go.wp_at_succ
theorem guard1_idle (p : Addr) (w : World) :
    CallsD Tryz.prog 92 #[.pointer (some p)] .returning w fun e u' w' => e = .returned (.tuple #[]) /\ u' = .returning /\ w' = w := by
  refine callsD_of_wpS Tryz.func92 rfl fun c₀ cs hu => ?_
  simp only [Tryz.ntmps92, List.size_toArray, List.length_cons, List.length_nil, Nat.reduceAdd, Nat.reduceSub, Array.replicate_succ,
     Array.replicate_zero, List.push_toArray, List.append_toArray, List.nil_append, List.cons_append]
  apply wpS_seq
  apply wpS_region
  simp [wpOpsS, go_sem, recoverD, hu, Exit.thenS]
  refine wpS_of_wp ?_
  go_wp2
  cases c₀
  simp_all [bodyPostS, results, Tryz.results92]
theorem BelX.same (bs:List Nat) (w:World):BelX bs w w:=⟨rfl,rfl,rfl,Nat.le_refl _,fun _ _ _=>rfl⟩
theorem belX_own {ks:List Nat} {w w1:World} {o:Obj} {v:Value} (h:BelX ks (w.alloc o) w1):BelX ks w (w1.setCell ⟨w.heap.size,0,none⟩ v) :=
 ⟨h.os,h.tape,h.output,by have:=h.size; simp at this; simp[World.setCell]; omega,fun b hb hn=>(heap_setCell_other w1 ⟨w.heap.size,0,none⟩ b v (by simp; omega)).trans ((h.block b (by simp; omega) hn).trans (by unfold World.alloc; rw[Array.getElem?_push,if_neg (by omega)]))⟩
theorem guard_ok (k:Nat) (caps:Array Value) (ks:List Nat) (w:World) (Q:World->Prop) (hk:∀b∈ks,b < w.heap.size) (he:∀w,(callFunc k caps).run Tryz.prog w=.ok (.enter k caps) w)
  (hf:Calls Tryz.prog k caps (w.alloc (.cells #[.int .i64 0] 27)) fun e w1=>e=.returned (.tuple #[])/\BelX ks (w.alloc (.cells #[.int .i64 0] 27)) w1/\Q w1)
  (hQ:∀w1 w2,Q w1->BelX [w.heap.size] w1 w2->Q w2) :
  Calls Tryz.prog 75 #[.func (.func k) #[] caps] w fun e w'=>e=.returned (.int .i64 0)/\BelX ks w w'/\Q w':=by
 have hmf:∀(fn:Fn) (first cap:Array Value) (w:World),(Instr.makeFunc fn first cap).run Tryz.prog w=.ok (.func fn first cap) w:=fun _ _ _ _=>rfl;have HF:=Lib.hid hf;have HQ:=Lib.hid hQ;clear hf hQ
 go_enter_defers Tryz.func75,Tryz.ntmps75
 go_wp2_with fail;refine HF.out.mono ?_;rintro e w1 ⟨rfl,hX,hq⟩;have hb:w1.heap[w.heap.size]?=some (.cells #[.int .i64 0] 27 (0,0)):=(hX.block _ (by simp) (fun h=>by have:=hk _ h; omega)).trans (blk_new _ _);have c0:=row1_0 hb;have f0:=row_f hb;have HB:=Lib.hid hb;have HX:=Lib.hid hX;have HQ1:=Lib.hid hq;clear hb hX hq HF;go_wp2_with fail;refine leaves_cons (f:=92) (args:=#[.pointer (some ⟨w.heap.size,0,none⟩)]) (by simp) (by simp[go_sem]) ?_;refine(guard1_idle _ _).mono ?_;rintro e u' w'' ⟨rfl,rfl,rfl⟩;have hb2:(w1.setCell ⟨w.heap.size,0,none⟩ (.int .i64 0)).heap[w.heap.size]?=some (.cells #[.int .i64 0] 27 (0,0)):=blk_set1 HB.out;have hX2:BelX ks w (w1.setCell ⟨w.heap.size,0,none⟩ (.int .i64 0)):=belX_own HX.out;have hQ2:Q (w1.setCell ⟨w.heap.size,0,none⟩ (.int .i64 0)):=HQ.out _ _ HQ1.out ((BelX.same [w.heap.size] w1).setOld (p:=⟨w.heap.size,0,none⟩) (by simp) _);have c2:=row1_0 hb2;generalize w1.setCell ⟨w.heap.size,0,none⟩ (.int .i64 0)=w2 at *;simp[Leaves,settle,results,Tryz.results75,go_sem,c2];exact⟨hX2,hQ2⟩
open Go.RowKit
attribute [local go_sem ↓] Go.wp_at_zero Go.wp_at_succ
namespace RK
theorem setOf_iff (l:List Nat) (x:Nat):setOf l x=true↔x∈l:=by simp[setOf]
theorem setOf_nil:Emp (setOf []):=fun x=>by simp[setOf]
theorem setOf_in {l:List Nat} {x:Nat} (h:setOf l x=true):setOf (l ++ [x])=setOf l:=by
 apply ext_iff;intro y;rw[setOf_iff,setOf_iff];rw[setOf_iff]at h;simp only[List.mem_append,List.mem_singleton];constructor
 ·
  rintro (h1 | rfl)
  · exact h1
  · exact h
 · exact .inl
theorem setOf_ins (l:List Nat) (x:Nat):setOf (l ++ [x])=ins (setOf l) x:=by
 apply ext_iff;intro y;rw[setOf_iff,ins_iff,setOf_iff];simp only[List.mem_append,List.mem_singleton];exact Or.comm
/-- the set that a text is the shape of -/
def readOf (k:Nat) (l:List UInt8):Option S:=match rd k l with
 | some (out,[])=>if (∀x∈out,x < R k)/\shT k (setOf out)=l then some (setOf out) else none
 | _=>none
end RK
/-- what read does -/
def ReadPost (k:Nat) (l:List UInt8) (w:World) (e:Ending) (w':World):Prop :=
 (RK.readOf k l=none/\e=trouble 4/\Below w.heap.size w w')∨∃m v F,RK.readOf k l=some m/\e=.returned v/\Rep ty k w' v m F/\(∀c,F c->w.heap.size<=c)/\Below w.heap.size w w'
open Go.RowKit
attribute [local go_sem ↓] Go.wp_at_zero Go.wp_at_succ
theorem own_belP {w w':World} {B e size n:Nat} {v:Value} {xs:List Value} {F:Nat->Prop} (h:w.ownsRow B e size v n xs) (hX:BelP F w w') (hB:∀q,v.ownBlock=some q->¬F q):w'.ownsRow B e size v n xs:=by
 obtain⟨h1,h2⟩:=h;refine⟨h1,?_⟩;rcases h2 with h2 | ⟨g,cap,cur,rfl,h4,h5,h6⟩
 · exact .inl h2
 · exact .inr ⟨g,cap,cur,rfl,h4,(hX.block g (blk_lt h5) (hB g rfl)).trans h5,h6⟩
theorem read_any (k:Nat) (l:List UInt8) (w:World) (hk:k<=3) (hl:l.length<=1000000) (ht:Tab w) :
  Calls Tryz.prog 78 #[.string ⟨l.toArray⟩,.int .i64 (k:Int)] w (ReadPost k l w):=by
 have HPL:=Lib.hid (fun rb wx h=>rplaces_any k hk rb l wx hl h);have HT:=Lib.hid ht;have HPC:=Lib.hid (fun wx=>places_any (k:Int) k wx rfl hk);obtain⟨s,hs⟩:∃s:ByteArray,s=⟨l.toArray⟩:=⟨_,rfl⟩
 rw[<-hs];have HS:=Lib.hid hs;clear ht hs;go_enter Tryz.func78,Tryz.ntmps78;go_upto_region 2 with fail;obtain⟨w1,h1⟩:∃wx:World,wx=w.alloc (.cells #[.string s] 150):=⟨_,rfl⟩
 rw[<-h1];have HR1:=Lib.hid (show RdIs w1 w.heap.size l by rw[h1,HS.out]; exact blk_new _ _);have B1:Below w.heap.size w w1:=by rw[h1]; exact(by repeat (first | exact Below.refl _ _ | exact Nat.le_refl _ | refine Below.alloc ?_ ?_ _ | refine Below.setCell ?_ ?_ _ | refine Below.drew ?_ | refine bl_drewN ?_ _ | (assumption) | refine bl_call ?_ (by assumption) ?_ | omega | (simp <;> omega)))
 have z1:w.heap.size < w1.heap.size:=by rw[h1]; simp
 clear h1;go_wp2_with fail;refine(HPL.out _ _ HR1.out).mono ?_;rintro e w2 (⟨hrd,rfl,hx⟩ | ⟨out,r,sv,hrd,rfl,ho,hr,hx⟩)
 · have HN:=Lib.hid (show RK.readOf k l=none by rw[RK.readOf,hrd]);have HB:=Lib.hid (hx.below B1 (by omega) (by simp));clear hrd hx;go_wp2_with fail;exact⟨rfl,.inl ⟨HN.out,rfl,HB.out⟩⟩
 ·
  have hol:out.length<=1000000:=by
   have:=(RK.rd_fine k l _ hrd).1;simp only at this;omega
  have HRD:=Lib.hid hrd;have HO:=Lib.hid ho;have HB:=Lib.hid (hx.below B1 (by omega) (by simp));have h0:w2.heap[w.heap.size]?=some (.cells #[.string ⟨r.toArray⟩] 150 (0,0)):=hr;have c0:=row1_0 h0;have z2:=hx.size;obtain⟨t,htt⟩:∃t:ByteArray,t=⟨r.toArray⟩:=⟨_,rfl⟩
  rw[<-htt]at c0;clear hrd ho hx hr h0;cases r with
  | cons c r =>
   have hie:t.toList.isEmpty=false:=by rw[htt]; simp[ByteArray.toList_eq]
   have HN:=Lib.hid (show RK.readOf k l=none by rw[RK.readOf,HRD.out]);clear htt;go_wp2_with (first | (go_at_call 96; refine(demand_no _ _).mono ?_; rintro e w' ⟨rfl,rfl⟩) | fail)
   exact⟨rfl,.inl ⟨HN.out,rfl,HB.out⟩⟩
  | nil =>
   have hie:t.toList.isEmpty=true:=by rw[htt]; simp[ByteArray.toList_eq]
   clear htt;go_wp2_with fail;refine(demand_ok _ _).mono ?_;rintro e w3 ⟨rfl,rfl⟩;obtain⟨hyx,hyr⟩:=HO.out;rcases hyr with ⟨rfl,hy0⟩ | ⟨g2,cap2,cur2,rfl,hg2a,hg2b,hyrest⟩
   ·
    have hys0:out = []:=List.eq_nil_of_length_eq_zero hy0;subst hys0;have HALL:=Lib.hid (show ∀x∈([]:List Nat),x < RK.R k from fun x h=>by cases h);have HREP:=Lib.hid (show Rep ty k w2 (.iface 154 (.agg #[])) (RK.setOf []) (fun _=>False) from rep_empty ty k w2 RK.setOf_nil);have HTB:=Lib.hid (HT.out.below HB.out);have hzz:=HB.out.size;go_upto_region 6 with fail;go_loopw [7,26] (fun t i wr=>i=.int .i64 0/\t=.iface 154 (.agg #[])/\wr=w2) (fun _ _ _=>0)
    case atStart=>exact⟨by simp,rfl,rfl⟩
    case round =>
     obtain⟨rfl,rfl,rfl⟩:=hrel;clear hyx HO;obtain⟨out,hout⟩:∃o:List Nat,o = []:=⟨_,rfl⟩
     rw[<-hout]at HREP HALL HRD;clear hout hy0;go_upto_region 12 with fail;obtain⟨fn,rv,⟨tt,xx,hv,hm,hf⟩,hc⟩:=text_any k _ _ _ _ hk HREP.out (HTB.out);have HC:=Lib.hid hc;clear hc;obtain⟨st,hst⟩:∃st:ByteArray,st=⟨(RK.shT k (RK.setOf out)).toArray⟩:=⟨_,rfl⟩
     rw[<-hst]at HC;have hse:st=s↔RK.shT k (RK.setOf out)=l:=by
      rw[hst,HS.out];constructor
      ·
       intro h;have:=congrArg (fun b:ByteArray=>b.data.toList) h
       simpa using this
      · intro h; rw[h]
     by_cases hsl:st=s
     ·
      have HN:=Lib.hid (show RK.readOf k l=some (RK.setOf out) by rw[RK.readOf,HRD.out]; simp only; rw[if_pos ⟨HALL.out,hse.1 hsl⟩]);clear hse hst;subst hsl;first | subst hv | cases hv
      go_wp2_with fail;refine(HC.out _ (Below.refl _ _)).mono ?_;rintro e w9 ⟨rfl,hb9⟩;go_wp2_with fail;refine(demand_ok _ _).mono ?_;rintro e w10 ⟨rfl,rfl⟩;go_wp2_with fail
      go_ret
      exact .inr ⟨_,_,_,HN.out,rfl,(HREP.out.below hb9),(fun c h=>False.elim h),(bl_call HB.out hb9 (by omega))⟩
     ·
      have HN:=Lib.hid (show RK.readOf k l=none by rw[RK.readOf,HRD.out]; simp only; rw[if_neg (fun h=>hsl (hse.2 h.2))]);have hbe:(st.toList == s.toList)=false:=by
       rw[beq_eq_false_iff_ne];intro h;apply hsl;rw[ByteArray.toList_eq,ByteArray.toList_eq]at h;cases st; cases s;simp at h;rw[h]
      clear hse hst;first | subst hv | cases hv
      go_wp2_with fail;refine(HC.out _ (Below.refl _ _)).mono ?_;rintro e w9 ⟨rfl,hb9⟩;go_wp2_with (first | (go_at_call 96; refine(demand_no _ _).mono ?_; rintro e w' ⟨rfl,rfl⟩) | fail)
      exact⟨rfl,.inl ⟨HN.out,rfl,(bl_call HB.out hb9 (by omega))⟩⟩
   ·
    have HTB:=Lib.hid (HT.out.below HB.out);have hzz:=HB.out.size;have HIN:=Lib.hid (fun(v:Value) (m:RK.S) (F:Nat->Prop) (x:Nat) wx=>insert_any k v m F x wx hk);have HHA:=Lib.hid (fun(v:Value) (m:RK.S) (F:Nat->Prop) (x:Nat) wx=>has_any k (k:Int) v m F x wx rfl hk);have hRb:=RK.R_le hk;obtain⟨p,hp⟩:∃p,RK.R k=p:=⟨_,rfl⟩
    have HP:=Lib.hid hp;rw[hp]at HPC hRb;clear hp hyx hyrest hg2b;go_upto_region 6 with fail;go_loopw [7,26] (fun t i wr=>∃(j:Nat) (F:Nat->Prop),i=.int .i64 j/\j<=out.length/\Hid (∀y∈out.take j,y < p)/\Hid (Rep ty k wr t (RK.setOf (out.take j)) F)/\Hid (∀c,F c->w2.heap.size<=c)/\Below w2.heap.size w2 wr/\wr.ownsRow w1.heap.size 3 1 (.slice (some ⟨g2,0,none⟩) out.length cap2) out.length (ints out)) (fun _ i _=>out.length-(intOf i).toNat)
    case atStart=>exact⟨0,fun _=>False,by simp,by omega,Lib.hid (fun y hy=>by simp at hy),Lib.hid (rep_empty ty k w2 (by rw[List.take_zero]; exact RK.setOf_nil)),Lib.hid (fun c h=>False.elim h),Below.refl _ _,HO.out⟩
    case round =>
     obtain⟨j,F,rfl,hj,HY,HREP,HF,hB2,hO⟩:=hrel;have HBr:=Lib.hid hB2;have HOr:=Lib.hid hO;have zr:=hB2.size
     by_cases hjl:j < out.length
     ·
      obtain⟨y,hy⟩:∃y,out[j]?=some y:=⟨out[j],by simp[hjl]⟩
      have hcy:wr.cell? ⟨g2,j,none⟩=some (.int .i64 (y:Nat)):=(hO.cellAt j (by omega)).trans (by simp[ints,hy]);have htk:out.take (j+1)=out.take j ++ [y]:=by rw[List.take_add_one,hy]; rfl
      have HTK:=Lib.hid htk;have HMEM:=Lib.hid (List.mem_of_getElem? hy);clear hB2 hO htk hy
      by_cases hyp:y < p
      ·
       have HYL:=Lib.hid (show y < RK.R k by rw[HP.out]; omega);have HHA1:=Lib.hid (HHA.out _ _ _ y wr HREP.out HYL.out);obtain⟨tt,xx,rfl⟩:=HREP.out.iface
       by_cases hm:RK.setOf (out.take j) y=true
       ·
        rw[hm]at HHA1;have HM:=Lib.hid hm;clear hm;go_wp2_with fail;refine(HPC.out _).mono ?_;rintro e w3 ⟨rfl,rfl⟩;go_wp2_with fail;refine(demand_ok _ _).mono ?_;rintro e w4 ⟨rfl,rfl⟩;go_wp2_with fail;refine HHA1.out.mono ?_;rintro e w5 ⟨rfl,hb5⟩;have HB5:=Lib.hid hb5;have zr5:=hb5.size;clear hb5;go_wp2_with fail
        go_roundw
        case rel =>
         refine⟨j+1,F,by simp,by omega,Lib.hid (fun z hz=>?_),Lib.hid ?_,HF,HBr.out.trans (HB5.out.mono zr),own_below HOr.out HB5.out⟩
         ·
          rw[HTK.out]at hz;rcases List.mem_append.1 hz with h | h
          · exact HY.out z h
          · rw[List.mem_singleton.1 h]; omega
         · rw[HTK.out,RK.setOf_in HM.out];exact HREP.out.below HB5.out
        case measure=>simp[intOf]; omega
       ·
        have hmf:RK.setOf (out.take j) y=false:=by simpa using hm
        rw[hmf]at HHA1;have HM:=Lib.hid hmf;clear hm hmf;go_wp2_with fail;refine(HPC.out _).mono ?_;rintro e w3 ⟨rfl,rfl⟩;go_wp2_with fail;refine(demand_ok _ _).mono ?_;rintro e w4 ⟨rfl,rfl⟩;go_wp2_with fail;refine HHA1.out.mono ?_;rintro e w5 ⟨rfl,hb5⟩;have HB5:=Lib.hid hb5;have zr5:=hb5.size;clear hb5;go_wp2_with fail;refine(HIN.out _ _ F y w5 (HREP.out.below HB5.out) HYL.out HM.out).mono ?_;rintro e w6 ⟨v6,F6,rfl,hR6,hB6,hF6⟩;obtain⟨t6,x6,rfl⟩:=hR6.iface;have HR6:=Lib.hid hR6;have HB6:=Lib.hid hB6;have HF6:=Lib.hid hF6;have zr6:=hB6.size;clear hR6 hB6 hF6;go_wp2_with fail
        go_roundw
        case rel =>
         refine⟨j+1,F6,by simp,by omega,Lib.hid (fun z hz=>?_),Lib.hid ?_,Lib.hid (fun c hc=>?_),HB6.out.below (HBr.out.trans (HB5.out.mono zr)) (by omega) HF.out,?_⟩
         ·
          rw[HTK.out]at hz;rcases List.mem_append.1 hz with h | h
          · exact HY.out z h
          · rw[List.mem_singleton.1 h]; omega
         · rw[HTK.out,RK.setOf_ins];exact HR6.out
         ·
          rcases HF6.out c hc with h | h
          · exact HF.out c h
          · omega
         ·
          exact own_belP (own_below HOr.out HB5.out) HB6.out (fun q hq hf=>by
           have h1:=(HO.out.lt q hq).2;have:=HF.out q hf;omega)
        case measure=>simp[intOf]; omega
      ·
       have HN:=Lib.hid (show RK.readOf k l=none by
        rw[RK.readOf,HRD.out]; simp only;rw[if_neg (fun h=>by have:=h.1 y HMEM.out; rw[HP.out]at this; omega)])
       have HB0:=Lib.hid (bl_call HB.out HBr.out (by omega));go_wp2_with fail;refine(HPC.out _).mono ?_;rintro e w3 ⟨rfl,rfl⟩;go_wp2_with (first | (go_at_call 96; refine(demand_no _ _).mono ?_; rintro e w' ⟨rfl,rfl⟩) | fail)
       exact⟨rfl,.inl ⟨HN.out,rfl,HB0.out⟩⟩
     ·
      obtain rfl:j=out.length:=by omega
      rw[List.take_length]at HY HREP;have HALL:=Lib.hid (show ∀x∈out,x < RK.R k by rw[HP.out]; exact HY.out);have HB0:=Lib.hid (bl_call HB.out HBr.out (by omega));have HTBr:=Lib.hid (HTB.out.below (HBr.out));clear hB2 hO hjl HIN HHA;go_upto_region 12 with fail;obtain⟨fn,rv,⟨tt,xx,hv,hm,hf⟩,hc⟩:=text_any k _ _ _ _ hk HREP.out (HTBr.out);have HC:=Lib.hid hc;clear hc;obtain⟨st,hst⟩:∃st:ByteArray,st=⟨(RK.shT k (RK.setOf out)).toArray⟩:=⟨_,rfl⟩
      rw[<-hst]at HC;have hse:st=s↔RK.shT k (RK.setOf out)=l:=by
       rw[hst,HS.out];constructor
       ·
        intro h;have:=congrArg (fun b:ByteArray=>b.data.toList) h
        simpa using this
       · intro h; rw[h]
      by_cases hsl:st=s
      ·
       have HN:=Lib.hid (show RK.readOf k l=some (RK.setOf out) by rw[RK.readOf,HRD.out]; simp only; rw[if_pos ⟨HALL.out,hse.1 hsl⟩]);clear hse hst;subst hsl;first | subst hv | cases hv
       go_wp2_with fail;refine(HC.out _ (Below.refl _ _)).mono ?_;rintro e w9 ⟨rfl,hb9⟩;go_wp2_with fail;refine(demand_ok _ _).mono ?_;rintro e w10 ⟨rfl,rfl⟩;go_wp2_with fail
       go_ret
       exact .inr ⟨_,_,_,HN.out,rfl,(HREP.out.below hb9),(fun c h=>by have:=HF.out c h; omega),(bl_call HB0.out hb9 (by omega))⟩
      ·
       have HN:=Lib.hid (show RK.readOf k l=none by rw[RK.readOf,HRD.out]; simp only; rw[if_neg (fun h=>hsl (hse.2 h.2))]);have hbe:(st.toList == s.toList)=false:=by
        rw[beq_eq_false_iff_ne];intro h;apply hsl;rw[ByteArray.toList_eq,ByteArray.toList_eq]at h;cases st; cases s;simp at h;rw[h]
       clear hse hst;first | subst hv | cases hv
       go_wp2_with fail;refine(HC.out _ (Below.refl _ _)).mono ?_;rintro e w9 ⟨rfl,hb9⟩;go_wp2_with (first | (go_at_call 96; refine(demand_no _ _).mono ?_; rintro e w' ⟨rfl,rfl⟩) | fail)
       exact⟨rfl,.inl ⟨HN.out,rfl,(bl_call HB0.out hb9 (by omega))⟩⟩
open Go.RowKit
attribute [local go_sem ↓] Go.wp_at_zero Go.wp_at_succ
theorem own_lower {w:World} {B B' e size n:Nat} {v:Value} {xs:List Value} (h:w.ownsRow B e size v n xs) (hB:B'<=B):w.ownsRow B' e size v n xs:=by
 obtain⟨h1,h2⟩:=h;refine⟨h1,?_⟩;rcases h2 with h2 | ⟨g,cap,cur,h3,h4,h5,h6⟩
 · exact .inl h2
 · exact .inr ⟨g,cap,cur,h3,Nat.le_trans hB h4,h5,h6⟩
theorem own_form {w:World} {B e size n:Nat} {v:Value} {xs:List Value} (h:w.ownsRow B e size v n xs):∃p q r,v=.slice p q r:=by
 obtain⟨-,h2⟩:=h;rcases h2 with ⟨h2,-⟩ | ⟨g,cap,cur,h3,-⟩
 · exact⟨_,_,_,h2⟩
 · exact⟨_,_,_,h3⟩
theorem belX_below {bs:List Nat} {w w':World} (h:BelX [] w w'):BelX bs w w':=⟨h.os,h.tape,h.output,h.size,fun k hk _=>h.block k hk (by simp)⟩
theorem belX_toBelow {w w':World} (h:BelX [] w w'):Below w.heap.size w w':=⟨h.os,h.tape,h.output,h.size,fun k hk=>h.block k hk (by simp)⟩
theorem read1_yes (k : Nat) (l : List UInt8) (m : RK.S) (gs go gt : Nat) (w : World) (hk : k <= 3) (hl : l.length <= 1000000) (ht : Tab w) (hm : RK.readOf k l = some m)
    (hs : w.heap[gs]? = some (.cells #[.string ⟨l.toArray⟩] 9 (0, 0))) (ho : w.heap[go]? = some (.cells #[.int .i64 (k : Int)] 3 (0, 0))) (hg : w.heap[gt]? = some (.cells #[.slice none 0 0] 22 (0, 0))) (n1 : gs ≠ gt) (n2 : go ≠ gt) :
    Calls Tryz.prog 76 #[.pointer (some ⟨gs, 0, none⟩), .pointer (some ⟨go, 0, none⟩), .pointer (some ⟨gt, 0, none⟩)] w fun e w' => e = .returned (.tuple #[]) /\ BelX [gt] w w' /\
      ∃ sv, w'.heap[gt]? = some (.cells #[sv] 22 (0, 0)) /\ w'.ownsRow w.heap.size 3 1 sv (RK.lst k m).length (ints (RK.lst k m)) := by
  have HRD : Hid (∀ wx, Tab wx -> Calls Tryz.prog 78 #[.string ⟨l.toArray⟩, .int .i64 (k : Int)] wx fun e w' => ∃ v F, e = .returned v /\ Rep ty k w' v m F /\ (∀ c, F c -> wx.heap.size <= c) /\ Below wx.heap.size wx w') := Lib.hid fun wx hx => (read_any k l wx hk hl hx).mono fun e w' h => by
    rcases h with ⟨h, -⟩ | ⟨m', v, F, h1, h2⟩
    · rw [hm] at h; cases h
    · rw [hm] at h1
      obtain rfl := Option.some.inj h1
      exact ⟨v, F, h2⟩
  have HLS := Lib.hid (fun v F wx h => list_any k v m F wx hk h)
  obtain ⟨S, hS⟩ : ∃ S : ByteArray, ⟨l.toArray⟩ = S := ⟨_, rfl⟩
  rw [hS] at HRD hs
  have cs := row1_0 hs
  have co := row1_0 ho
  have hgs := blk_lt hs
  have hgo := blk_lt ho
  have hgt := blk_lt hg
  have HG := Lib.hid hg
  have HT := Lib.hid ht
  clear hm hS ht hs ho hg
  go_enter Tryz.func76, Tryz.ntmps76
  refine with_act fun a0 ha0 => ?_
  refine wp_region_inv (by kernel_rfl) (by kernel_rfl) (fun s a' w' => ∃ v3 v4 v5 v6 v7 : Value, a' = putL a0 [(3, v3), (4, v4), (5, v5), (6, v6), (7, v7)] /\
      Hid ((s 0 = true -> v3 = .string S) /\ (s 1 = true -> v4 = .int .i64 (k : Int)) /\ (s 3 = true -> v6 = .int .i64 (k : Int)) /\ (s 5 = true -> s 4 = true) /\ (s 4 = true -> s 2 = true)) /\ BelX [gt] w w' /\
      Hid (s 2 = true -> ∃ F, Rep ty k w' v5 m F /\ ∀ c, F c -> w.heap.size <= c) /\ Hid (s 4 = true -> w'.ownsRow w.heap.size 3 1 v7 (RK.lst k m).length (ints (RK.lst k m))) /\
      Hid ((s 5 = false -> BelX [] w w') /\ (s 5 = true -> w'.heap[gt]? = some (.cells #[v7] 22 (0, 0))))) ?zero ⟨?s0, ?s1, ?s2, ?s3, ?s4, ?s5, trivial⟩ ?done
  case zero =>
    refine ⟨a0.tmps.getD 3 undef, a0.tmps.getD 4 undef, a0.tmps.getD 5 undef, a0.tmps.getD 6 undef, a0.tmps.getD 7 undef, ?_, Lib.hid ⟨fun h => by simp at h, fun h => by simp at h, fun h => by simp at h, fun h => by simp at h, fun h => by simp at h⟩, belX_below (BelX.start _ _), Lib.hid (fun h => by simp at h), Lib.hid (fun h => by simp at h), Lib.hid ⟨fun _ => BelX.start _ _, fun h => by simp at h⟩⟩
    simp only [putL, put_self]
  case s0 =>
    intro s a' w' hsk hdep hI K hK
    try dsimp only at hI hK
    obtain ⟨v3, v4, v5, v6, v7, hact, hV, hX, hA2, hA4, hA5⟩ := hI
    subst hact
    have HK := Lib.hid hK
    clear hK
    have kc := hX.cell (p := ⟨gs, 0, none⟩) (by simpa using n1) cs
    clear hdep
    refine StepG.mk rfl ?_; rw [ha0]; simp only [putL, Act.put, sA_, sZ_, sS_]
    go_wp2_with fail
    refine HK.out _ _ ?_
    refine ⟨.string S, v4, v5, v6, v7, (by rw [ha0]; simp only [putL, Act.put, sA_, sZ_, sS_]), ?_, hX, ?_, ?_, ?_⟩
    · exact Lib.hid ⟨fun _ => rfl, fun h => hV.out.2.1 (by simpa using h), fun h => hV.out.2.2.1 (by simpa using h), fun h => by have := hV.out.2.2.2.1 (by simpa using h); simpa using this, fun h => by have := hV.out.2.2.2.2 (by simpa using h); simpa using this⟩
    · exact Lib.hid fun h => hA2.out (by simpa using h)
    · exact Lib.hid fun h => hA4.out (by simpa using h)
    · exact Lib.hid ⟨fun h => hA5.out.1 (by simpa using h), fun h => hA5.out.2 (by simpa using h)⟩
  case s1 =>
    intro s a' w' hsk hdep hI K hK
    try dsimp only at hI hK
    obtain ⟨v3, v4, v5, v6, v7, hact, hV, hX, hA2, hA4, hA5⟩ := hI
    subst hact
    have HK := Lib.hid hK
    clear hK
    have kc := hX.cell (p := ⟨go, 0, none⟩) (by simpa using n2) co
    clear hdep
    refine StepG.mk rfl ?_; rw [ha0]; simp only [putL, Act.put, sA_, sZ_, sS_]
    go_wp2_with fail
    refine HK.out _ _ ?_
    refine ⟨v3, .int .i64 (k : Int), v5, v6, v7, (by rw [ha0]; simp only [putL, Act.put, sA_, sZ_, sS_]), ?_, hX, ?_, ?_, ?_⟩
    · exact Lib.hid ⟨fun h => hV.out.1 (by simpa using h), fun _ => rfl, fun h => hV.out.2.2.1 (by simpa using h), fun h => by have := hV.out.2.2.2.1 (by simpa using h); simpa using this, fun h => by have := hV.out.2.2.2.2 (by simpa using h); simpa using this⟩
    · exact Lib.hid fun h => hA2.out (by simpa using h)
    · exact Lib.hid fun h => hA4.out (by simpa using h)
    · exact Lib.hid ⟨fun h => hA5.out.1 (by simpa using h), fun h => hA5.out.2 (by simpa using h)⟩
  case s2 =>
    intro s a' w' hsk hdep hI K hK
    try dsimp only at hI hK
    obtain ⟨v3, v4, v5, v6, v7, hact, hV, hX, hA2, hA4, hA5⟩ := hI
    subst hact
    have HK := Lib.hid hK
    clear hK
    have e3 : v3 = .string S := hV.out.1 (hdep ⟨0, .data⟩ (by simp) rfl)
    have e4 : v4 = .int .i64 (k : Int) := hV.out.2.1 (hdep ⟨1, .data⟩ (by simp) rfl)
    subst e3 e4
    have h4 : s 4 = false := Bool.eq_false_iff.2 fun h => by have := hV.out.2.2.2.2 h; rw [hsk] at this; cases this
    have h5 : s 5 = false := Bool.eq_false_iff.2 fun h => by rw [hV.out.2.2.2.1 h] at h4; cases h4
    have HX0 := Lib.hid (hA5.out.1 h5)
    clear hdep
    have hTw : Tab w' := HT.out.below (belX_toBelow HX0.out)
    have HC := Lib.hid (HRD.out w' hTw)
    clear hTw
    refine StepG.mk rfl ?_; rw [ha0]; simp only [putL, Act.put, sA_, sZ_, sS_]
    go_wp2_with fail
    refine HC.out.mono ?_
    rintro e w2 ⟨v, F, rfl, hR, hF, hB⟩
    have HR := Lib.hid hR
    have HF := Lib.hid hF
    have HB := Lib.hid hB
    clear hR hF hB
    go_wp2_with fail
    refine HK.out _ _ ?_
    refine ⟨.string S, .int .i64 (k : Int), v, v6, v7, (by rw [ha0]; simp only [putL, Act.put, sA_, sZ_, sS_]), ?_, hX.call HB.out, ?_, ?_, ?_⟩
    · exact Lib.hid ⟨fun h => rfl, fun _ => rfl, fun h => hV.out.2.2.1 (by simpa using h), fun h => by have := hV.out.2.2.2.1 (by simpa using h); simpa using this, fun h => by simp⟩
    · exact Lib.hid fun h => ⟨F, HR.out, fun c hc => Nat.le_trans hX.size (HF.out c hc)⟩
    · exact Lib.hid fun h => by rw [show s 4 = true by simpa using h] at h4; cases h4
    · exact Lib.hid ⟨fun h => HX0.out.call HB.out, fun h => by rw [show s 5 = true by simpa using h] at h5; cases h5⟩
  case s3 =>
    intro s a' w' hsk hdep hI K hK
    try dsimp only at hI hK
    obtain ⟨v3, v4, v5, v6, v7, hact, hV, hX, hA2, hA4, hA5⟩ := hI
    subst hact
    have HK := Lib.hid hK
    clear hK
    have kc := hX.cell (p := ⟨go, 0, none⟩) (by simpa using n2) co
    clear hdep
    refine StepG.mk rfl ?_; rw [ha0]; simp only [putL, Act.put, sA_, sZ_, sS_]
    go_wp2_with fail
    refine HK.out _ _ ?_
    refine ⟨v3, v4, v5, .int .i64 (k : Int), v7, (by rw [ha0]; simp only [putL, Act.put, sA_, sZ_, sS_]), ?_, hX, ?_, ?_, ?_⟩
    · exact Lib.hid ⟨fun h => hV.out.1 (by simpa using h), fun h => hV.out.2.1 (by simpa using h), fun _ => rfl, fun h => by have := hV.out.2.2.2.1 (by simpa using h); simpa using this, fun h => by have := hV.out.2.2.2.2 (by simpa using h); simpa using this⟩
    · exact Lib.hid fun h => hA2.out (by simpa using h)
    · exact Lib.hid fun h => hA4.out (by simpa using h)
    · exact Lib.hid ⟨fun h => hA5.out.1 (by simpa using h), fun h => hA5.out.2 (by simpa using h)⟩
  case s4 =>
    intro s a' w' hsk hdep hI K hK
    try dsimp only at hI hK
    obtain ⟨v3, v4, v5, v6, v7, hact, hV, hX, hA2, hA4, hA5⟩ := hI
    subst hact
    have HK := Lib.hid hK
    clear hK
    have e6 : v6 = .int .i64 (k : Int) := hV.out.2.2.1 (hdep ⟨3, .data⟩ (by simp) rfl)
    have hd2 : s 2 = true := hdep ⟨2, .data⟩ (by simp) rfl
    obtain ⟨F, hR, hF⟩ := hA2.out hd2
    subst e6
    have h5 : s 5 = false := Bool.eq_false_iff.2 fun h => by have := hV.out.2.2.2.1 h; rw [hsk] at this; cases this
    have HX0 := Lib.hid (hA5.out.1 h5)
    have HC := Lib.hid (HLS.out v5 F w' hR)
    have HR := Lib.hid hR
    have HF := Lib.hid hF
    clear hdep hR hF
    refine StepG.mk rfl ?_; rw [ha0]; simp only [putL, Act.put, sA_, sZ_, sS_]
    go_wp2_with fail
    refine HC.out.mono ?_
    rintro e w2 ⟨sv, rfl, hO, hB⟩
    have HO := Lib.hid hO
    have HB := Lib.hid hB
    clear hO hB
    go_wp2_with fail
    refine HK.out _ _ ?_
    refine ⟨v3, v4, v5, .int .i64 (k : Int), sv, (by rw [ha0]; simp only [putL, Act.put, sA_, sZ_, sS_]), ?_, hX.call HB.out, ?_, ?_, ?_⟩
    · exact Lib.hid ⟨fun h => hV.out.1 (by simpa using h), fun h => hV.out.2.1 (by simpa using h), fun _ => rfl, fun h => rfl, fun h => by simp [hd2]⟩
    · exact Lib.hid fun h => ⟨F, HR.out.below HB.out, HF.out⟩
    · exact Lib.hid fun h => own_lower HO.out hX.size
    · exact Lib.hid ⟨fun h => HX0.out.call HB.out, fun h => by rw [show s 5 = true by simpa using h] at h5; cases h5⟩
  case s5 =>
    intro s a' w' hsk hdep hI K hK
    try dsimp only at hI hK
    obtain ⟨v3, v4, v5, v6, v7, hact, hV, hX, hA2, hA4, hA5⟩ := hI
    subst hact
    have HK := Lib.hid hK
    clear hK
    have hd4 : s 4 = true := hdep ⟨4, .data⟩ (by simp) rfl
    have hO := hA4.out hd4
    have HX0 := Lib.hid (hA5.out.1 hsk)
    have hg2 := (HX0.out.block gt hgt (by simp)).trans HG.out
    have HG2 := Lib.hid hg2
    have kc := row1_0 hg2
    have kf := row_f hg2
    obtain ⟨p, q, r, rfl⟩ := own_form hO
    have HO := Lib.hid hO
    clear hdep hO hg2
    refine StepG.mk rfl ?_; rw [ha0]; simp only [putL, Act.put, sA_, sZ_, sS_]
    go_wp2_with fail
    refine HK.out _ _ ?_
    have hX2 : BelX [gt] w' (w'.setCell ⟨gt, 0, none⟩ (.slice p q r)) := (BelX.here [gt] w').setOld (p := ⟨gt, 0, none⟩) (by simp) _
    refine ⟨v3, v4, v5, v6, .slice p q r, (by rw [ha0]; simp only [putL, Act.put, sA_, sZ_, sS_]), ?_, hX.setOld (p := ⟨gt, 0, none⟩) (by simp) _, ?_, ?_, ?_⟩
    · exact Lib.hid ⟨fun h => hV.out.1 (by simpa using h), fun h => hV.out.2.1 (by simpa using h), fun h => hV.out.2.2.1 (by simpa using h), fun h => by simp [hd4], fun h => by have := hV.out.2.2.2.2 hd4; simp [this]⟩
    · exact Lib.hid fun h => by
        obtain ⟨F, h1, h2⟩ := hA2.out (by simpa using h)
        exact ⟨F, h1.kept (BelP.ofX hX2) (fun c hc h => by have := h2 c hc; have : c = gt := by simpa using h
                                                           omega), h2⟩
    · exact Lib.hid fun h => own_belX HO.out hX2 hgt
    · exact Lib.hid ⟨fun h => by simp at h, fun h => blk_set1 HG2.out⟩
  case done =>
    intro s a' w' hall hI
    try dsimp only at hI
    obtain ⟨v3, v4, v5, v6, v7, hact, hV, hX, hA2, hA4, hA5⟩ := hI
    subst hact
    have HO := Lib.hid (hA4.out (hall 4 (by decide)))
    have HG5 := Lib.hid (hA5.out.2 (hall 5 (by decide)))
    clear hall hV hA2 hA4 hA5
    rw [ha0]; simp only [putL, Act.put, sA_, sZ_, sS_]
    clear ha0
    go_end0
    exact ⟨rfl, hX, v7, HG5.out, HO.out⟩
open Go.RowKit
attribute [local go_sem ↓] Go.wp_at_zero Go.wp_at_succ
theorem enter_read1 (x y z:Value):∀w,(callFunc 76 #[x,y,z]).run Tryz.prog w=.ok (.enter 76 #[x,y,z]) w:=fun w=>by kernel_rfl
theorem Read_yes (k:Nat) (l:List UInt8) (m:RK.S) (w:World) (hk:k<=3) (hl:l.length<=1000000) (ht:Tab w) (hm:RK.readOf k l=some m) :
  Calls Tryz.prog 54 #[.string ⟨l.toArray⟩,.int .i64 (k:Int)] w fun e w'=>∃sv,e=.returned (.tuple #[sv,.int .i64 0])/\w'.ownsRow w.heap.size 3 1 sv (RK.lst k m).length (ints (RK.lst k m))/\Below w.heap.size w w':=by
 have HK:=Lib.hid hk;have HM:=Lib.hid hm;have HL:=Lib.hid hl;have HT:=Lib.hid ht;clear hm ht;have hmf:∀(fn:Fn) (first cap:Array Value) (w:World),(Instr.makeFunc fn first cap).run Tryz.prog w=.ok (.func fn first cap) w:=fun _ _ _ _=>rfl;have HWI:=Lib.hid (fun wx=>within_any (k:Int) 0 3 wx);obtain⟨S,hS⟩:∃S:ByteArray,⟨l.toArray⟩=S:=⟨_,rfl⟩
 have HS:=Lib.hid hS;rw[hS];clear hS;go_enter Tryz.func54,Tryz.ntmps54;go_upto_region 1 with fail;obtain⟨w2,h2⟩:∃w2,w2=((w.alloc (.cells #[.string S] 9)).alloc (.cells #[.int .i64 (k:Int)] 3)).alloc (.cells #[.slice none 0 0] 22):=⟨_,rfl⟩
 rw[<-h2];have X2:w2.heap[w.heap.size]?=some (.cells #[.string S] 9 (0,0)):=by rw[h2]; exact(by repeat (first | assumption | (with_reducible apply blk_set2) | (with_reducible apply blk_set1) | (with_reducible refine blk_far2 ?_ ?_; (first | omega | (simp; done) | (simp; omega))) | (with_reducible refine blk_far1 ?_ ?_; (first | omega | (simp; done) | (simp; omega))) | (with_reducible refine blk_new' _ _ ?_; (first | omega | (simp; done) | (simp; omega))) | (with_reducible refine blk_old ?_) | (with_reducible refine blk_drew ?_)))
 have Y2:w2.heap[w.heap.size+1]?=some (.cells #[.int .i64 (k:Int)] 3 (0,0)):=by rw[h2]; exact(by repeat (first | assumption | (with_reducible apply blk_set2) | (with_reducible apply blk_set1) | (with_reducible refine blk_far2 ?_ ?_; (first | omega | (simp; done) | (simp; omega))) | (with_reducible refine blk_far1 ?_ ?_; (first | omega | (simp; done) | (simp; omega))) | (with_reducible refine blk_new' _ _ ?_; (first | omega | (simp; done) | (simp; omega))) | (with_reducible refine blk_old ?_) | (with_reducible refine blk_drew ?_)))
 have Z2:w2.heap[w.heap.size+2]?=some (.cells #[.slice none 0 0] 22 (0,0)):=by rw[h2]; exact(by repeat (first | assumption | (with_reducible apply blk_set2) | (with_reducible apply blk_set1) | (with_reducible refine blk_far2 ?_ ?_; (first | omega | (simp; done) | (simp; omega))) | (with_reducible refine blk_far1 ?_ ?_; (first | omega | (simp; done) | (simp; omega))) | (with_reducible refine blk_new' _ _ ?_; (first | omega | (simp; done) | (simp; omega))) | (with_reducible refine blk_old ?_) | (with_reducible refine blk_drew ?_)))
 have B2:Below w.heap.size w w2:=by rw[h2]; exact(by repeat (first | exact Below.refl _ _ | exact Nat.le_refl _ | refine Below.alloc ?_ ?_ _ | refine Below.setCell ?_ ?_ _ | refine Below.drew ?_ | refine bl_drewN ?_ _ | (assumption) | refine bl_call ?_ (by assumption) ?_ | omega | (simp <;> omega)))
 have hz:=blk_lt Z2;clear h2;have co:=row1_0 Y2;have cz:=row1_0 Z2;have fz:=row_f Z2;have HX:=Lib.hid X2;have HY:=Lib.hid Y2;have HZ:=Lib.hid Z2;clear X2 Y2 Z2;go_wp2_with fail;refine(HWI.out _).mono ?_;rintro e w3 ⟨rfl,rfl⟩;rw[show(decide ((0:Int)<=(k:Int)) && decide ((k:Int)<=3))=true by simp; omega];clear cz fz;go_wp2_with fail;refine(guard_ok 76 _ [w.heap.size+2] w2 (fun w'=>∃sv,w'.heap[w.heap.size+2]?=some (.cells #[sv] 22 (0,0))/\w'.ownsRow (w2.heap.size+1) 3 1 sv (RK.lst k m).length (ints (RK.lst k m))) (by simp; omega) (enter_read1 _ _ _) ?_ ?_).mono ?_
 · refine(read1_yes k l m _ _ _ _ HK.out HL.out ((HT.out.below B2).below (by repeat (first | exact Below.refl _ _ | exact Nat.le_refl _ | refine Below.alloc ?_ ?_ _ | refine Below.setCell ?_ ?_ _ | refine Below.drew ?_ | refine bl_drewN ?_ _ | (assumption) | refine bl_call ?_ (by assumption) ?_ | omega | (simp <;> omega)))) HM.out (by rw[HS.out]; exact blk_old HX.out) (blk_old HY.out) (blk_old HZ.out) (by omega) (by omega)).mono ?_;rintro e w' ⟨h1,h2,sv,h3,h4⟩;exact⟨h1,h2,sv,h3,own_lower h4 (by simp)⟩
 · rintro u v ⟨sv,hu,hO⟩ huv;refine⟨sv,(huv.block _ (blk_lt hu) (by simp; omega)).trans hu,own_belX hO huv (by omega)⟩
 · rintro e w3 ⟨rfl,hX,sv,hS3,hO⟩;have B3:Below w.heap.size w w3:=hX.below B2 (by omega) (by simp);obtain⟨p,q,r,rfl⟩:=own_form hO;have c0:=row1_0 hS3;have f0:=row_f hS3;have hz3:=blk_lt hS3;have HO:=Lib.hid (own_lower hO (show w.heap.size+3<=w2.heap.size+1 by omega));clear hX hO hS3;go_wp2_with fail;exact bodyPost_ret (v:=.tuple #[.slice p q r,.int .i64 0]) (by simp[results,Tryz.results54,go_sem, *]) rfl ⟨_,rfl,own_lower (own_belX HO.out ((BelX.here [w.heap.size+2] w3).setOld (p:=⟨w.heap.size+2,0,none⟩) (by simp) _) (by omega)) (by omega),(by repeat (first | exact Below.refl _ _ | exact Nat.le_refl _ | refine Below.alloc ?_ ?_ _ | refine Below.setCell ?_ ?_ _ | refine Below.drew ?_ | refine bl_drewN ?_ _ | (assumption) | refine bl_call ?_ (by assumption) ?_ | omega | (simp <;> omega)))⟩
end Go.Proofs.YtaffkceklkdokaaGreatDoor
