/- The rack's methods: New, usable, check, found. -/
import Derived.Test.YtaffkceklkdokaaGreatDoorZ2
import Derived.Test.YtaffkceklkdokaaGreatDoorZ3
import Derived.Shelf.LaysM
import Derived.Shelf.Strconv.Itoa3
import Derived.Lib.ItoaLen
set_option maxHeartbeats 8000000
set_option maxRecDepth 100000
namespace Go.Proofs.YtaffkceklkdokaaGreatDoor
open Go.RowKit
attribute [local go_sem ↓] Go.wp_at_zero Go.wp_at_succ
theorem row2 {w:World} {g t:Nat} {c0 c1:Value} (h:w.heap[g]?=some (.cells #[c0,c1] t (0,0))) :
  w.cell? ⟨g,0,none⟩=some c0/\w.cell? ⟨g,1,none⟩=some c1 :=
 ⟨cell_of_row w g 0 _ _ _ h,cell_of_row w g 1 _ _ _ h⟩
open Go.RowKit
attribute [local go_sem ↓] Go.wp_at_zero Go.wp_at_succ
open Go.RowKit
attribute [local go_sem ↓] Go.wp_at_zero Go.wp_at_succ
open Go.RowKit
attribute [local go_sem ↓] Go.wp_at_zero Go.wp_at_succ
open Go.Shelf
def lays171_ren:Go.Shelf.Ren:=⟨fun | 129=>130 | 171=>178 | 243=>184 | 246=>185 | 283=>186 | 284=>187 | 285=>188 | 286=>189 | 317=>190 | 318=>191 | 319=>192 | 320=>43 | 337=>64 | 338=>65 | n=>n,fun | 0=>0 | 2=>2 | 3=>3 | 4=>4 | 5=>5 | 9=>9 | 20=>20 | 37=>102 | 46=>48 | 51=>117 | 53=>119 | 171=>258 | 173=>260 | 212=>263 | 213=>264 | 232=>142 | 233=>143 | n=>n,fun | 17=>8 | 18=>1 | 19=>2 | n=>n⟩
theorem lays171:Go.Proofs.LaysM.n171 Tryz.prog lays171_ren:={
 mixed:=by kernel_rfl,
 f129:=Tryz.func130.trans (congrArg some (by kernel_rfl)),
 f171:=Tryz.func178.trans (congrArg some (by kernel_rfl)),
 f243:=Tryz.func184.trans (congrArg some (by kernel_rfl)),
 f246:=Tryz.func185.trans (congrArg some (by kernel_rfl)),
 f283:=Tryz.func186.trans (congrArg some (by kernel_rfl)),
 f284:=Tryz.func187.trans (congrArg some (by kernel_rfl)),
 f285:=Tryz.func188.trans (congrArg some (by kernel_rfl)),
 f286:=Tryz.func189.trans (congrArg some (by kernel_rfl)),
 f317:=Tryz.func190.trans (congrArg some (by kernel_rfl)),
 f318:=Tryz.func191.trans (congrArg some (by kernel_rfl)),
 f319:=Tryz.func192.trans (congrArg some (by kernel_rfl)),
 f320:=Tryz.func43.trans (congrArg some (by kernel_rfl)),
 f337:=Tryz.func64.trans (congrArg some (by kernel_rfl)),
 f338:=Tryz.func65.trans (congrArg some (by kernel_rfl)),
 t0:=Tryz.underlying0,
 a0:=Tryz.isAgg0,
 z0:=Tryz.sizeOf0,
 v0:=Tryz.zeroValue0,
 t2:=Tryz.underlying2,
 a2:=Tryz.isAgg2,
 z2:=Tryz.sizeOf2,
 v2:=Tryz.zeroValue2,
 t3:=Tryz.underlying3,
 a3:=Tryz.isAgg3,
 z3:=Tryz.sizeOf3,
 v3:=Tryz.zeroValue3,
 t4:=Tryz.underlying4,
 a4:=Tryz.isAgg4,
 z4:=Tryz.sizeOf4,
 v4:=Tryz.zeroValue4,
 t5:=Tryz.underlying5,
 a5:=Tryz.isAgg5,
 z5:=Tryz.sizeOf5,
 v5:=Tryz.zeroValue5,
 t9:=Tryz.underlying9,
 a9:=Tryz.isAgg9,
 z9:=Tryz.sizeOf9,
 v9:=Tryz.zeroValue9,
 t20:=Tryz.underlying20,
 a20:=Tryz.isAgg20,
 z20:=Tryz.sizeOf20,
 v20:=Tryz.zeroValue20,
 t37:=Tryz.underlying102,
 a37:=Tryz.isAgg102,
 z37:=Tryz.sizeOf102,
 v37:=Tryz.zeroValue102,
 t46:=Tryz.underlying48,
 a46:=Tryz.isAgg48,
 z46:=Tryz.sizeOf48,
 v46:=Tryz.zeroValue48,
 t51:=Tryz.underlying117,
 a51:=Tryz.isAgg117,
 z51:=Tryz.sizeOf117,
 v51:=Tryz.zeroValue117,
 t53:=Tryz.underlying119,
 a53:=Tryz.isAgg119,
 z53:=Tryz.sizeOf119,
 v53:=Tryz.zeroValue119,
 t171:=Tryz.underlying258,
 a171:=Tryz.isAgg258,
 z171:=Tryz.sizeOf258,
 v171:=Tryz.zeroValue258,
 t173:=Tryz.underlying260,
 a173:=Tryz.isAgg260,
 z173:=Tryz.sizeOf260,
 v173:=Tryz.zeroValue260,
 t212:=Tryz.underlying263,
 a212:=Tryz.isAgg263,
 z212:=Tryz.sizeOf263,
 v212:=Tryz.zeroValue263,
 t213:=Tryz.underlying264,
 a213:=Tryz.isAgg264,
 z213:=Tryz.sizeOf264,
 t232:=Tryz.underlying142,
 a232:=Tryz.isAgg142,
 z232:=Tryz.sizeOf142,
 v232:=Tryz.zeroValue142,
 t233:=Tryz.underlying143,
 a233:=Tryz.isAgg143,
 z233:=Tryz.sizeOf143,
 v233:=Tryz.zeroValue143,
 g17:=by kernel_rfl,
 g18:=by kernel_rfl,
 g19:=by kernel_rfl,
 i0:=by kernel_rfl,
 i2:=by kernel_rfl,
 i3:=by kernel_rfl,
 i4:=by kernel_rfl,
 i5:=by kernel_rfl,
 i9:=by kernel_rfl,
 i20:=by kernel_rfl,
 i37:=by kernel_rfl,
 i46:=by kernel_rfl,
 i51:=by kernel_rfl,
 i53:=by kernel_rfl,
 i171:=by kernel_rfl,
 i173:=by kernel_rfl,
 i212:=by kernel_rfl,
 i232:=by kernel_rfl,
 i233:=by kernel_rfl,
 m17:=by kernel_rfl,
 m18:=by kernel_rfl,
 m19:=by kernel_rfl }
open Go.RowKit
theorem below_grow (w:World) (k:Nat) (os:Array Obj):Below w.heap.size w (Go.Sort.grow (w.drewN k) os) :=
 ⟨rfl,rfl,rfl,by simp[Go.Sort.grow],fun j hj=>by
  show(w.heap ++ os)[j]?=w.heap[j]?;rw[Array.getElem?_append_left hj]⟩
/-- the table of the powers of ten is laid -/
def Tab (w:World):Prop:=Lib.TabIs Tryz.prog w "internal/strconv.uint64pow10" .u64 Lib.pow10Tab/\lays171_ren.g 17 < w.heap.size
theorem Tab.kept {F:Nat->Prop} {w w':World} (h:Tab w) (hb:BelP F w w') (hF:¬F (lays171_ren.g 17)):Tab w':=by
 obtain⟨h,hlt⟩:=h;refine⟨?_,Nat.lt_of_lt_of_le hlt hb.size⟩;unfold Lib.TabIs World.var? at h ⊢;rw[lays171.m17]at h ⊢;simp only[Option.bind_some]at h ⊢;rw[hb.block _ hlt hF];exact h
theorem Tab.below {w w':World} (h:Tab w) (hb:Below w.heap.size w w'):Tab w':=h.kept (BelP.ofBelow hb) (fun h=>h)
theorem itoa_any (n:Nat) (h1:n<=9223372036854775807) (w:World) (ht:Tab w) :
  Calls Tryz.prog 178 #[.int .i64 n] w fun e w'=>e=.returned (.string ⟨(RK.dec n).toArray⟩)/\Below w.heap.size w w':=by
 refine(Any.strconv_Itoa lays171 n (by omega) (by omega) w ht.1).mono ?_;rintro e w' ⟨rfl,k,os,rfl⟩;exact⟨rfl,below_grow _ _ _⟩
open Go.RowKit
attribute [local go_sem ↓] Go.wp_at_zero Go.wp_at_succ
theorem str_app (a b:List UInt8):(⟨a.toArray⟩:ByteArray) ++ ⟨b.toArray⟩=⟨(a ++ b).toArray⟩:=by
 have h:((⟨a.toArray⟩:ByteArray) ++ ⟨b.toArray⟩).data=(a ++ b).toArray:=by simp[ByteArray.data_append]
 exact congrArg ByteArray.mk h
theorem str_size (l:List UInt8):(⟨l.toArray⟩:ByteArray).size=l.length:=by simp[ByteArray.size]
theorem dec_len (n:Nat) (h:n<=9223372036854775807):(RK.dec n).length<=21:=Lib.itoa_length_le n (by omega) (by omega)
/-- a text's sum, its parts out of sight -/
theorem str_sum (a b:List UInt8) {s t:ByteArray} (hs:s=⟨a.toArray⟩) (ht:t=⟨b.toArray⟩):∃u:ByteArray,s ++ t=u/\u=⟨(a ++ b).toArray⟩/\u.size=s.size+t.size:=by
 subst hs ht;exact⟨_,rfl,str_app a b,by rw[str_app,str_size,str_size,str_size,List.length_append]⟩
theorem empty_text (w:World) :
  Calls Tryz.prog 211 #[.agg #[]] w fun e w'=>e=.returned (.string ⟨#[45]⟩)/\Below w.heap.size w w':=by
 go_enter Tryz.func211,Tryz.ntmps211;go_wp2_with fail
 go_ret
 exact⟨rfl,(by repeat (first | exact Below.refl _ _ | exact Nat.le_refl _ | refine Below.alloc ?_ ?_ _ | refine Below.setCell ?_ ?_ _ | refine Below.drew ?_ | refine bl_drewN ?_ _ | (assumption) | refine bl_call ?_ (by assumption) ?_ | omega | (simp <;> omega)))⟩
theorem pair_text (a b:Nat) (w:World) (ha:a<=9223372036854775807) (hb:b<=9223372036854775807) (ht:Tab w) :
  Calls Tryz.prog 213 #[.agg #[.int .i64 a,.int .i64 b]] w fun e w'=>e=.returned (.string ⟨(RK.dec a ++ 58 :: RK.dec b).toArray⟩)/\Below w.heap.size w w':=by
 have hA:=fun wx h=>itoa_any a ha wx h;have hB:=fun wx h=>itoa_any b hb wx h;obtain⟨s1,hs1⟩:∃s:ByteArray,s=⟨(RK.dec a).toArray⟩:=⟨_,rfl⟩
 obtain⟨s2,hs2⟩:∃s:ByteArray,s=⟨(RK.dec b).toArray⟩:=⟨_,rfl⟩
 obtain⟨t1,e1,q1,y1⟩:=str_sum _ [58] hs1 rfl;obtain⟨t2,e2,q2,y2⟩:=str_sum _ _ q1 hs2;rw[List.append_assoc,List.singleton_append]at q2;have n1:s1.size<=21:=by rw[hs1,str_size]; exact dec_len a ha
 have n2:s2.size<=21:=by rw[hs2,str_size]; exact dec_len b hb
 rw[<-hs1]at hA;rw[<-hs2]at hB;rw[<-q2];have n3:t1.size<=22:=by rw[y1]; have:(⟨[58].toArray⟩:ByteArray).size=1:=rfl; omega
 have m1:s1.size<=9223372036854775806:=by omega
 have m2:t1.size+s2.size<=9223372036854775807:=by omega
 have HA:=Lib.hid hA;have HB:=Lib.hid hB;have HT:=Lib.hid ht;clear hA hB hs1 hs2 q1 q2 y1 y2 ht ha hb;have hgt:¬w.heap.size<=lays171_ren.g 17:=by have:=HT.out.2; omega
 go_enter Tryz.func213,Tryz.ntmps213;go_wp2_with fail;obtain⟨w1,h1⟩:∃wx:World,wx=w.alloc (.cells #[.int .i64 a,.int .i64 b] 163):=⟨_,rfl⟩
 rw[<-h1];have hg1:w1.heap[w.heap.size]?=some (.cells #[.int .i64 a,.int .i64 b] 163 (0,0)):=by rw[h1]; exact blk_new _ _
 have B1:Below w.heap.size w w1:=by rw[h1]; exact(by repeat (first | exact Below.refl _ _ | exact Nat.le_refl _ | refine Below.alloc ?_ ?_ _ | refine Below.setCell ?_ ?_ _ | refine Below.drew ?_ | refine bl_drewN ?_ _ | (assumption) | refine bl_call ?_ (by assumption) ?_ | omega | (simp <;> omega)))
 obtain⟨c0,c1⟩:=row2 hg1;have HT1:=Lib.hid (HT.out.below B1);have hgs:=blk_lt hg1;clear h1 hg1;refine with_act fun a0 ha0=>?_;have hsz0:a0.tmps.size=11:=by rw[ha0]; rfl
 refine wp_region_vals (W0:=w1) (by kernel_rfl) (by kernel_rfl) [(3,.pointer (some ⟨w.heap.size,0,none⟩)),(4,.int .i64 a),(5,.string s1),(6,.string t1),(7,.pointer (some ⟨w.heap.size,1,none⟩)),(8,.int .i64 b),(9,.string s2),(10,.string t2),(2,.string t2)] rfl (by show([3,4,5,6,7,8,9,10,2]:List Nat).Nodup; decide) _ hsz0 (by kernel_rfl) (BelX.start _ _) ⟨⟨rfl,?y1v0⟩,⟨rfl,?y1v1⟩,⟨rfl,?y1v2⟩,⟨rfl,?y1v3⟩,⟨rfl,?y1v4⟩,⟨rfl,?y1v5⟩,⟨rfl,?y1v6⟩,⟨rfl,?y1v7⟩,⟨rfl,?y1v8⟩,trivial⟩ ?y1done
 case y1v0 =>
  intro a' w' hA hdep hX K hK;obtain⟨r1,q1⟩:=dpi hA 1 (.pointer (some ⟨w.heap.size,0,none⟩)) (by kernel_rfl) (by rw[ha0]; rfl);clear hdep ha0 hA;refine StepG.value (wanted_none rfl) rfl ?_ (hK _ hX);simp[go_sem, *]
 case y1v1 =>
  intro a' w' hA hdep hX K hK;obtain⟨r3,q3⟩:=dpv hdep ⟨0,.data⟩ (by simp) rfl rfl;have kc0:w'.cell? ⟨w.heap.size,0,none⟩=some (.int .i64 a):=hX.cell (by simp) (by first | assumption | (go_simp; done) | (simp; done));have kc1:w'.cell? ⟨w.heap.size,1,none⟩=some (.int .i64 b):=hX.cell (by simp) (by first | assumption | (go_simp; done) | (simp; done));clear hdep ha0 hA;refine StepG.value (wanted_none rfl) rfl ?_ (hK _ hX);simp[go_sem, *]
 case y1v2 =>
  intro a' w' hA hdep hX K hK;obtain⟨r4,q4⟩:=dpv hdep ⟨1,.data⟩ (by simp) rfl rfl;clear hdep ha0 hA;refine StepG.call (wanted_none rfl) rfl ?_ ((HA.out w' (HT1.out.kept (BelP.ofX hX) (fun h=>by simp at h)))) (fun w2 hb=>hK _ (hX.call hb));simp[go_sem, *]
 case y1v3 =>
  intro a' w' hA hdep hX K hK;obtain⟨r5,q5⟩:=dpv hdep ⟨2,.data⟩ (by simp) rfl rfl;clear hdep ha0 hA;refine StepG.value (wanted_none rfl) rfl ?_ (hK _ hX);simp[go_sem, *]
 case y1v4 =>
  intro a' w' hA hdep hX K hK;obtain⟨r1,q1⟩:=dpi hA 1 (.pointer (some ⟨w.heap.size,0,none⟩)) (by kernel_rfl) (by rw[ha0]; rfl);clear hdep ha0 hA;refine StepG.value (wanted_none rfl) rfl ?_ (hK _ hX);simp[go_sem, *]
 case y1v5 =>
  intro a' w' hA hdep hX K hK;obtain⟨r7,q7⟩:=dpv hdep ⟨4,.data⟩ (by simp) rfl rfl;have kc0:w'.cell? ⟨w.heap.size,0,none⟩=some (.int .i64 a):=hX.cell (by simp) (by first | assumption | (go_simp; done) | (simp; done));have kc1:w'.cell? ⟨w.heap.size,1,none⟩=some (.int .i64 b):=hX.cell (by simp) (by first | assumption | (go_simp; done) | (simp; done));clear hdep ha0 hA;refine StepG.value (wanted_none rfl) rfl ?_ (hK _ hX);simp[go_sem, *]
 case y1v6 =>
  intro a' w' hA hdep hX K hK;obtain⟨r8,q8⟩:=dpv hdep ⟨5,.data⟩ (by simp) rfl rfl;clear hdep ha0 hA;refine StepG.call (wanted_none rfl) rfl ?_ ((HB.out w' (HT1.out.kept (BelP.ofX hX) (fun h=>by simp at h)))) (fun w2 hb=>hK _ (hX.call hb));simp[go_sem, *]
 case y1v7 =>
  intro a' w' hA hdep hX K hK;obtain⟨r6,q6⟩:=dpv hdep ⟨3,.data⟩ (by simp) rfl rfl;obtain⟨r9,q9⟩:=dpv hdep ⟨6,.data⟩ (by simp) rfl rfl;clear hdep ha0 hA;refine StepG.value (wanted_none rfl) rfl ?_ (hK _ hX);simp[go_sem, *]
 case y1v8 =>
  intro a' w' hA hdep hX K hK;obtain⟨r10,q10⟩:=dpv hdep ⟨7,.data⟩ (by simp) rfl rfl;clear hdep ha0 hA;refine StepG.value (wanted_none rfl) rfl ?_ (hK _ hX);simp[go_sem, *]
 intro w2 hXR;rw[ha0]; simp only[putL,Act.put,sA_,sZ_,sS_];clear ha0 hsz0;have B2:Below w.heap.size w w2:=hXR.below (by first | assumption | exact(by repeat (first | exact Below.refl _ _ | exact Nat.le_refl _ | refine Below.alloc ?_ ?_ _ | refine Below.setCell ?_ ?_ _ | refine Below.drew ?_ | refine bl_drewN ?_ _ | (assumption) | refine bl_call ?_ (by assumption) ?_ | omega | (simp <;> omega)))) (by first | omega | (simp <;> omega)) (by simp);go_wp2_with fail
 go_ret
 exact⟨rfl,(by repeat (first | exact Below.refl _ _ | exact Nat.le_refl _ | refine Below.alloc ?_ ?_ _ | refine Below.setCell ?_ ?_ _ | refine Below.drew ?_ | refine bl_drewN ?_ _ | (assumption) | refine bl_call ?_ (by assumption) ?_ | omega | (simp <;> omega)))⟩
open Go.RowKit
attribute [local go_sem ↓] Go.wp_at_zero Go.wp_at_succ
/-- which function an interface value's method is -/
def Meth (v:Value) (name:String) (fn:Nat) (rv:Value):Prop:=∃tt xx,v=.iface tt xx/\(∀w,(method 379 tt xx name).run Tryz.prog w=.ok (fn,rv) w)/\(∀w,(callFunc fn #[rv]).run Tryz.prog w=.ok (.enter fn #[rv]) w)
theorem tm_e (x:Value):Meth (.iface 154 x) "remould/rack.text" 211 x:=⟨_,_,rfl,fun w=>by kernel_rfl,fun w=>by kernel_rfl⟩
theorem tm_p (x:Value):Meth (.iface 163 x) "remould/rack.text" 213 x:=⟨_,_,rfl,fun w=>by kernel_rfl,fun w=>by kernel_rfl⟩
theorem tm_t (g:Nat):Meth (.iface 164 (.pointer (some ⟨g,0,none⟩))) "remould/rack.text" 215 (.pointer (some ⟨g,0,none⟩)):=⟨_,_,rfl,fun w=>by kernel_rfl,fun w=>by kernel_rfl⟩
open Go.RowKit Go.ChangeMaps Go.Maps
theorem MapIs.len {P:Program} {k0:TypeId} {w:World} {b:Nat} {f:Int->Option Value} (h:MapIs w b f) {t e:TypeId} (ht:P.underlying t=some (.map k0 e)) :
  ∃n:Nat,(∀(wx:World) (ty:TypeId),wx.heap[b]?=w.heap[b]?->(Builtin.len_ #[t] ty #[.map (some b)]).run P wx=.ok (.int .i64 n) wx)/\(0 < n↔∃i v,f i=some v):=by
 obtain⟨es,clock,hb,h,-⟩:=h;refine⟨es.size,fun wx ty hx=>by simp[Builtin.len_,run_underlying ht,MapKept.run_getObj_map (hx.trans hb),goInt,Result.andThen],?_⟩;constructor
 ·
  intro hn;have h0:es.toList[0]?=some es[0]:=by simp[hn]
  have hm:es[0]∈es.toList:=List.mem_of_getElem? h0;obtain⟨i,hi,-⟩:=h.1 _ hm;exact⟨i,_,(h.2.2 i _).2 ⟨_,hm,hi,rfl⟩⟩
 ·
  rintro ⟨i,v,hv⟩;obtain⟨e0,he,-⟩:=(h.2.2 i v).1 hv;have hl:=List.length_pos_of_mem he
  simpa using hl
namespace RK
def tL:Nat->Nat
 | 0=>50
 | k+1=>50+tL k+R k * (30+tL k)
theorem flat_le2 (f:Nat->List UInt8) (L M:Nat) (h:∀s,s < M->(f s).length<=L):∀n,n<=M->((List.range n).flatMap f).length<=n * L
 | 0,_=>by simp
 | n+1,hn=>by
  rw[List.range_succ,List.flatMap_append,List.length_append,Nat.succ_mul];have:=flat_le2 f L M h n (by omega);have:=h n (by omega);simp only[List.flatMap_cons,List.flatMap_nil,List.append_nil];omega
/-- the piece of a spot -/
def pc (k:Nat) (m:S) (a:Nat) (s:Nat):List UInt8:=if shelves k m a s=true then 124 :: (dec s ++ 58 :: shT k (spot k m a s)) else []
/-- the text up to a spot -/
def upto (k:Nat) (m:S) (a b j:Nat):List UInt8 :=
 (dec a ++ 58 :: dec b) ++ [40] ++ (if mn k (shelves k m a)=none then [] else shT k (shelves k m a)) ++ (List.range j).flatMap (pc k m a)
theorem shT_upto {k:Nat} {m:S} {a b:Nat} (ha:mn (k+1) m=some a) (hb:mx (k+1) m=some b):shT (k+1) m=upto k m a b (R k) ++ [41]:=by
 rw[shT,ha,hb];simp only[upto,List.append_assoc,List.cons_append,List.nil_append];rfl
theorem upto_succ (k:Nat) (m:S) (a b j:Nat):upto k m a b (j+1)=upto k m a b j ++ pc k m a j:=by
 simp[upto,List.range_succ,List.flatMap_append]
theorem upto_len {k:Nat} {m:S} {a b j:Nat} (hk:k+1<=3) (ih:∀m:S,Supp k m->(shT k m).length<=tL k) (ha:a < R (k+1)) (hb:b < R (k+1)) (hj:j<=R k):(upto k m a b j).length+1<=tL (k+1):=by
 have hr:=R_le hk;have hr2:=R_le (k:=k) (by omega);have h1:=dec_len a (by omega);have h2:=dec_len b (by omega);have h3:(if mn k (shelves k m a)=none then [] else shT k (shelves k m a)).length<=tL k:=by
  split
  · simp
  · exact ih _ (shelves_supp k m a)
 have h4:=flat_le2 (pc k m a) (30+tL k) (R k) (fun s hs=>by
  unfold pc
  split
  · have:=dec_len s (by omega);have:=ih (spot k m a s) (spot_supp k m a s);simp only[List.length_cons,List.length_append]; omega
  · simp) j hj
 have h5:j * (30+tL k)<=R k * (30+tL k):=Nat.mul_le_mul_right _ hj;unfold upto;simp only[List.length_append,List.length_cons,List.length_nil,tL];omega
theorem shT_len:∀(k:Nat) (m:S),k<=3->Supp k m->(shT k m).length<=tL k:=by
 intro k
 induction k with
 | zero =>
  intro m hk hs;rcases ends_or hs with ⟨-,e1,e2⟩ | ⟨a,b,ha,hb,e1,e2⟩
  · rw[shT,e1,e2]; simp[tL]
  · have h0:R 0=2:=rfl;have:=hs a ha.1;have:=hs b hb.1;have h1:=dec_len a (by omega);have h2:=dec_len b (by omega);rw[shT,e1,e2];simp only[List.length_cons,List.length_append,tL]; omega
 | succ k ih =>
  intro m hk hs;rcases ends_or hs with ⟨-,e1,e2⟩ | ⟨a,b,ha,hb,e1,e2⟩
  · rw[shT,e1,e2]; simp only[tL,List.length_cons,List.length_nil]; omega
  ·
   have:=upto_len (m:=m) (j:=R k) hk (fun m h=>ih m (by omega) h) (hs a ha.1) (hs b hb.1) (Nat.le_refl _);rw[shT_upto e1 e2,List.length_append]
   simpa using this
theorem tL_le {k:Nat} (h:k<=3):tL k<=30000:=by
 rcases (by omega:k=0∨k=1∨k=2∨k=3) with rfl | rfl | rfl | rfl <;> decide
end RK
open Go.RowKit Go.ChangeMaps
attribute [local go_sem ↓] Go.wp_at_zero Go.wp_at_succ
theorem str_eq {s t:ByteArray} {l l':List UInt8} (hs:s=⟨l.toArray⟩) (ht:t=⟨l'.toArray⟩) (h:l=l'):s=t:=by rw[hs,ht,h]
/-- an interface value whose text is known in every later world -/
def Says (w:World) (v:Value) (s:ByteArray):Prop:=∃fn rv,Meth v "remould/rack.text" fn rv/\∀wx,Below w.heap.size w wx ->
 Calls Tryz.prog fn #[rv] wx fun e w'=>e=.returned (.string s)/\Below wx.heap.size wx w'
theorem text_any:∀(k:Nat) (v:Value) (m:RK.S) (F:Nat->Prop) (w:World),k<=3->Rep ty k w v m F->Tab w->Says w v ⟨(RK.shT k m).toArray⟩:=by
 intro k
 induction k with
 | zero =>
  intro v m F w hk h ht;have hsup:=h.supp;rcases RK.ends_or hsup with ⟨he,e1,e2⟩ | ⟨a,b,ha,hb,e1,e2⟩
  ·
   have hv:v=vE ty:=by
    obtain⟨-,-,⟨-,hv⟩ | ⟨a',b',ha',-⟩⟩:=h
    · exact hv
    · have:=ha'.1; rw[he a']at this; cases this
   subst hv;refine⟨_,_,tm_e _,fun wx hb=>?_⟩;rw[RK.shT,e1,e2];exact empty_text wx
  ·
   obtain⟨-,-,⟨he,-⟩ | ⟨a',b',ha',hb',rfl⟩⟩:=h
   · have:=ha.1; rw[he a]at this; cases this
   obtain rfl:=ha'.unique ha;obtain rfl:=hb'.unique hb;refine⟨_,_,tm_p _,fun wx hbx=>?_⟩;rw[RK.shT,e1,e2];have h0:RK.R 0=2:=rfl;have:=hsup _ ha.1;have:=hsup _ hb.1;exact pair_text _ _ wx (by omega) (by omega) (ht.below hbx)
 | succ k ih =>
  intro v m F w0 hk h ht0;have hsup:=h.supp;rcases RK.ends_or hsup with ⟨he,e1,e2⟩ | ⟨a,b,ha,hb,e1,e2⟩
  ·
   have hv:v=vE ty:=by
    obtain⟨-,⟨-,hv,-⟩ | ⟨a',b',g,bm,sv,Fs,sp,Fp,ha',-⟩⟩:=h
    · exact hv
    · have:=ha'.1; rw[he a']at this; cases this
   subst hv;refine⟨_,_,tm_e _,fun wx hb=>?_⟩;rw[RK.shT,e1,e2];exact empty_text wx
  ·
   obtain⟨-,⟨he,-⟩ | ⟨a',b',g,bm,sv,Fs,sp,Fp,ha',hb',rfl,hg0,hmap0,hsv0,hsp0,-⟩⟩:=h
   · have:=ha.1; rw[he a]at this; cases this
   obtain rfl:=ha'.unique ha;obtain rfl:=hb'.unique hb;refine⟨_,_,tm_t _,fun w hbw=>?_⟩;have ht:=ht0.below hbw;have hg:=(hbw.block g (blk_lt hg0)).trans hg0;have hmap:=hmap0.of_block (hbw.block bm hmap0.lt);have hsv:=hsv0.below hbw;have hsp:=fun s hs=>(hsp0 s hs).below hbw;have has:=hsup _ ha.1;have hbs:=hsup _ hb.1;have hr:=RK.R_le hk;have hr2:=RK.R_le (k:=k) (by omega);have hlen:∀j,j<=RK.R k->(RK.upto k m a' b' j).length+1<=30000:=fun j hj=>Nat.le_trans (RK.upto_len hk (fun m h=>RK.shT_len k m (by omega) h) has hbs hj) (RK.tL_le hk);have hlS:=Nat.le_trans (RK.shT_len k _ (by omega) (RK.shelves_supp k m a')) (RK.tL_le (by omega));have hsays:=ih sv _ Fs w (by omega) hsv ht;have hspsays:=fun s hs=>ih (sp s) _ (Fp s) w (by omega) (hsp s hs) ht;obtain⟨n,hln,hn0⟩:=hmap.len Tryz.underlying166;have hne:0 < n↔¬RK.mn k (RK.shelves k m a')=none:=by
    rw[hn0,RK.mn_none (RK.shelves_supp k m a')];constructor
    ·
     rintro ⟨i,x,h⟩ he;unfold spotsF at h
     split at h
     · rename_i h1; rw[he]at h1; exact absurd h1.2 (by decide)
     · cases h
    · intro he;obtain⟨s,hs⟩:=RK.exists_min he;exact⟨(s:Int),_,spotsF_in hs.1⟩
   have hPL:=fun o wx ho=>places_any o k wx ho (by omega);have hlk2:=hlen;obtain⟨p,ep⟩:∃p,RK.R k=p:=⟨_,rfl⟩
   rw[ep]at hPL hr2 hlen;rw[RK.shT_upto e1 e2,ep];obtain⟨G,hG⟩:∃G:Nat->ByteArray,∀j,G j=⟨(RK.upto k m a' b' j).toArray⟩:=⟨_,fun _=>rfl⟩
   have hGl:∀j,j<=p->(G j).size<=30000:=fun j hj=>by rw[hG,str_size]; have:=hlen j hj; omega
   have hPT:=fun wx h=>pair_text a' b' wx (by omega) (by omega) h;obtain⟨s1,hs1⟩:∃s:ByteArray,s=⟨(RK.dec a' ++ 58 :: RK.dec b').toArray⟩:=⟨_,rfl⟩
   obtain⟨s2,x2,q2,y2⟩:=str_sum _ [40] hs1 rfl;obtain⟨s9,x9,q9,y9⟩:=str_sum _ [41] (hG p) rfl;have l1:=dec_len a' (by omega);have l2:=dec_len b' (by omega);have n1:s1.size<=43:=by rw[hs1,str_size,List.length_append,List.length_cons]; omega
   have z2:(⟨[40].toArray⟩:ByteArray).size=1:=rfl;rw[z2]at y2;have m1:s1.size<=9223372036854775806:=by omega
   have m9:(G p).size<=9223372036854775806:=by have:=hGl p (Nat.le_refl _); omega
   rw[<-hs1]at hPT;rw[<-q9];have hgs:=blk_lt hg;have hbms:=hmap.lt;have hwk:=wrap_small (n:=k) (by omega);obtain⟨c0,c1,c2,c3,c4⟩:=row5 hg;have HT:=Lib.hid ht;have HLN:=Lib.hid hln;have HG:=Lib.hid hG;have HGl:=Lib.hid hGl;have HPT:=Lib.hid hPT;have HPL:=Lib.hid hPL;have HG1:=Lib.hid hg;have HM:=Lib.hid hmap;have HSP:=Lib.hid hspsays;clear hln hspsays hlk2 hlen hmap hg hPT hPL hGl ht ih hsv hsv0 hsp hsp0 hmap0 hg0 ht0 hbw e1 e2 ha hb ha' hb' hsup hn0 hs1 q9
   by_cases hnn:0 < n
   ·
    have hmn:=hne.1 hnn;obtain⟨fn1,rv1,⟨tt1,xx1,rfl,hm1,hf1⟩,hc1⟩:=hsays;obtain⟨sS,hsS⟩:∃s:ByteArray,s=⟨(RK.shT k (RK.shelves k m a')).toArray⟩:=⟨_,rfl⟩
    rw[<-hsS]at hc1;have n3:sS.size<=30000:=by rw[hsS,str_size]; exact hlS
    obtain⟨s3,x3,q3,y3⟩:=str_sum _ _ q2 hsS;have hG0:s3=G 0:=str_eq q3 (HG.out 0) (by simp[RK.upto,hmn]);have HG0:=Lib.hid hG0;have m3:s2.size+sS.size<=9223372036854775807:=by omega
    have HC1:=Lib.hid hc1;clear hc1 hsS q3 q2 hG0 hmn hne y3 y2 hG;go_enter Tryz.func215,Tryz.ntmps215;go_wp2_with fail;refine(HPT.out _ HT.out).mono ?_;rintro e w1 ⟨rfl,hb1⟩;have B1:Below w.heap.size w w1:=hb1;have hg1:=(B1.block g hgs).trans HG1.out;clear c0 c1 c2 c3 c4;obtain⟨c0,c1,c2,c3,c4⟩:=row5 hg1;have hlw:=fun ty=>HLN.out w1 ty (B1.block bm hbms);have zs1:=B1.size;have hgs1:=blk_lt hg1;clear hg1;go_wp2_with fail;refine(HC1.out _ B1).mono ?_;rintro e w2 ⟨rfl,hb2⟩;have B2:Below w.heap.size w w2:=bl_call B1 hb2 (by omega);have hg2:=(B2.block g hgs).trans HG1.out;clear c0 c1 c2 c3 c4 hlw;obtain⟨c0,c1,c2,c3,c4⟩:=row5 hg2;clear hg2;have zs2:=B2.size;go_wp2_with fail;refine(HPL.out _ _ (by omega)).mono ?_;rintro e w3 ⟨rfl,rfl⟩;clear hm1 hf1;go_upto_region 5 with fail;go_loopw [3,32] (fun s i wr=>∃j:Nat,i=.int .i64 j/\j<=p/\s=.string (G j)/\Below w.heap.size w wr) (fun _ i _=>p-(intOf i).toNat)
    case atStart=>exact⟨0,by simp,by omega,by rw[HG0.out],(by repeat (first | exact Below.refl _ _ | exact Nat.le_refl _ | refine Below.alloc ?_ ?_ _ | refine Below.setCell ?_ ?_ _ | refine Below.drew ?_ | refine bl_drewN ?_ _ | (assumption) | refine bl_call ?_ (by assumption) ?_ | omega | (simp <;> omega)))⟩
    case round =>
     obtain⟨j,rfl,hj,rfl,B⟩:=hrel;have HTr:=Lib.hid (HT.out.below B);have hgr:=(B.block g hgs).trans HG1.out;have HMr:=Lib.hid (HM.out.of_block (B.block bm hbms));have hgrs:=blk_lt hgr;obtain⟨r0,r1,r2,r3,r4⟩:=row5 hgr;have zr:=B.size;clear hgr;have hGj:=HGl.out j hj
     by_cases hjp:j < p
     ·
      have hin:InInt (j:Int):=⟨by omega,by omega⟩
      by_cases hsh:RK.shelves k m a' j=true
      ·
       obtain⟨fn2,rv2,⟨tt2,xx2,hsv2,hm2,hf2⟩,hc2⟩:=HSP.out j hsh;have hlk:=HMr.out.look Tryz.underlying3 Tryz.underlying166 (zero_shape wr) hin true;rw[spotsF_in hsh,Option.getD_some,hsv2]at hlk;simp only[if_true,Option.isSome_some]at hlk;have hIT:=fun wx h=>itoa_any j (by omega) wx h;obtain⟨d0,hd0⟩:∃s:ByteArray,s=⟨(RK.dec j).toArray⟩:=⟨_,rfl⟩
       rw[<-hd0]at hIT;have hdl:d0.size<=21:=by rw[hd0,str_size]; exact dec_len j (by omega)
       obtain⟨d3,hd3⟩:∃s:ByteArray,s=⟨(RK.shT k (RK.spot k m a' j)).toArray⟩:=⟨_,rfl⟩
       rw[<-hd3]at hc2;have hdl3:d3.size<=30000:=by rw[hd3,str_size]; exact Nat.le_trans (RK.shT_len k _ (by omega) (RK.spot_supp k m a' j)) (RK.tL_le (by omega))
       obtain⟨d1,f1,g1,y1⟩:=str_sum [124] _ rfl hd0;obtain⟨d2,f2,g2,y2⟩:=str_sum _ [58] g1 rfl;obtain⟨d4,f4,g4,y4⟩:=str_sum _ _ g2 hd3;obtain⟨d5,f5,g5,y5⟩:=str_sum _ _ (HG.out j) g4;have z1:(⟨[124].toArray⟩:ByteArray).size=1:=rfl;have z2:(⟨[58].toArray⟩:ByteArray).size=1:=rfl;rw[z1]at y1;rw[z2]at y2;have hlast:d5=G (j+1):=str_eq g5 (HG.out (j+1)) (by
        rw[RK.upto_succ,RK.pc,if_pos hsh];simp)
       rw[hlast]at f5;have m0:1+d0.size<=9223372036854775807:=by omega
       have m1:d0.size<=9223372036854775806:=by omega
       have m2:d1.size<=9223372036854775806:=by omega
       have m3:d2.size+d3.size<=9223372036854775807:=by omega
       have m4:(G j).size+d4.size<=9223372036854775807:=by omega
       have HIT:=Lib.hid hIT;have HC2:=Lib.hid hc2;clear hIT hc2 hd0 hd3 g1 g2 g4 g5 hlast hsv2 hsh z1 z2 y1 y2 y4 y5;go_wp2_with fail;refine(HIT.out _ HTr.out).mono ?_;rintro e w4 ⟨rfl,hb4⟩;have B4:Below w.heap.size w w4:=bl_call B hb4 (by omega);have zr4:=B4.size;go_wp2_with fail;refine(HC2.out _ B4).mono ?_;rintro e w5 ⟨rfl,hb5⟩;have B5:Below w.heap.size w w5:=bl_call B4 hb5 (by omega);go_wp2_with fail
       go_roundw
       case rel=>exact⟨j+1,by simp,by omega,by first | rfl | simp,B5⟩
       case measure=>simp[intOf]; omega
      ·
       have hlk:=HMr.out.look Tryz.underlying3 Tryz.underlying166 (zero_shape wr) hin true;rw[spotsF_out hsh]at hlk;simp only[if_true,Option.getD_none,Option.isSome_none]at hlk;have hlast:G j=G (j+1):=str_eq (HG.out j) (HG.out (j+1)) (by
        rw[RK.upto_succ,RK.pc,if_neg hsh,List.append_nil])
       have HL:=Lib.hid hlast;clear hlast hsh;go_wp2_with fail
       go_roundw
       case rel=>exact⟨j+1,by simp,by omega,by rw[HL.out],B⟩
       case measure=>simp[intOf]; omega
     ·
      obtain rfl:j=p:=by omega
      go_wp2_with fail
      go_ret
      exact⟨rfl,(by repeat (first | exact Below.refl _ _ | exact Nat.le_refl _ | refine Below.alloc ?_ ?_ _ | refine Below.setCell ?_ ?_ _ | refine Below.drew ?_ | refine bl_drewN ?_ _ | (assumption) | refine bl_call ?_ (by assumption) ?_ | omega | (simp <;> omega)))⟩
   ·
    have hmn:RK.mn k (RK.shelves k m a')=none:=by
     by_cases h:RK.mn k (RK.shelves k m a')=none
     · exact h
     · exact absurd (hne.2 h) hnn
    have hG0:s2=G 0:=str_eq q2 (HG.out 0) (by simp[RK.upto,hmn]);have HG0:=Lib.hid hG0;clear q2 hG0 hmn hne y2 hG hsays;go_enter Tryz.func215,Tryz.ntmps215;go_wp2_with fail;refine(HPT.out _ HT.out).mono ?_;rintro e w1 ⟨rfl,hb1⟩;have B1:Below w.heap.size w w1:=hb1;have hg1:=(B1.block g hgs).trans HG1.out;clear c0 c1 c2 c3 c4;obtain⟨c0,c1,c2,c3,c4⟩:=row5 hg1;have hlw:=fun ty=>HLN.out w1 ty (B1.block bm hbms);have zs1:=B1.size;have hgs1:=blk_lt hg1;clear hg1;go_wp2_with fail;refine(HPL.out _ _ (by omega)).mono ?_;rintro e w3 ⟨rfl,rfl⟩;go_upto_region 5 with fail;go_loopw [3,32] (fun s i wr=>∃j:Nat,i=.int .i64 j/\j<=p/\s=.string (G j)/\Below w.heap.size w wr) (fun _ i _=>p-(intOf i).toNat)
    case atStart=>exact⟨0,by simp,by omega,by rw[HG0.out],(by repeat (first | exact Below.refl _ _ | exact Nat.le_refl _ | refine Below.alloc ?_ ?_ _ | refine Below.setCell ?_ ?_ _ | refine Below.drew ?_ | refine bl_drewN ?_ _ | (assumption) | refine bl_call ?_ (by assumption) ?_ | omega | (simp <;> omega)))⟩
    case round =>
     obtain⟨j,rfl,hj,rfl,B⟩:=hrel;have HTr:=Lib.hid (HT.out.below B);have hgr:=(B.block g hgs).trans HG1.out;have HMr:=Lib.hid (HM.out.of_block (B.block bm hbms));have hgrs:=blk_lt hgr;obtain⟨r0,r1,r2,r3,r4⟩:=row5 hgr;have zr:=B.size;clear hgr;have hGj:=HGl.out j hj
     by_cases hjp:j < p
     ·
      have hin:InInt (j:Int):=⟨by omega,by omega⟩
      by_cases hsh:RK.shelves k m a' j=true
      ·
       obtain⟨fn2,rv2,⟨tt2,xx2,hsv2,hm2,hf2⟩,hc2⟩:=HSP.out j hsh;have hlk:=HMr.out.look Tryz.underlying3 Tryz.underlying166 (zero_shape wr) hin true;rw[spotsF_in hsh,Option.getD_some,hsv2]at hlk;simp only[if_true,Option.isSome_some]at hlk;have hIT:=fun wx h=>itoa_any j (by omega) wx h;obtain⟨d0,hd0⟩:∃s:ByteArray,s=⟨(RK.dec j).toArray⟩:=⟨_,rfl⟩
       rw[<-hd0]at hIT;have hdl:d0.size<=21:=by rw[hd0,str_size]; exact dec_len j (by omega)
       obtain⟨d3,hd3⟩:∃s:ByteArray,s=⟨(RK.shT k (RK.spot k m a' j)).toArray⟩:=⟨_,rfl⟩
       rw[<-hd3]at hc2;have hdl3:d3.size<=30000:=by rw[hd3,str_size]; exact Nat.le_trans (RK.shT_len k _ (by omega) (RK.spot_supp k m a' j)) (RK.tL_le (by omega))
       obtain⟨d1,f1,g1,y1⟩:=str_sum [124] _ rfl hd0;obtain⟨d2,f2,g2,y2⟩:=str_sum _ [58] g1 rfl;obtain⟨d4,f4,g4,y4⟩:=str_sum _ _ g2 hd3;obtain⟨d5,f5,g5,y5⟩:=str_sum _ _ (HG.out j) g4;have z1:(⟨[124].toArray⟩:ByteArray).size=1:=rfl;have z2:(⟨[58].toArray⟩:ByteArray).size=1:=rfl;rw[z1]at y1;rw[z2]at y2;have hlast:d5=G (j+1):=str_eq g5 (HG.out (j+1)) (by
        rw[RK.upto_succ,RK.pc,if_pos hsh];simp)
       rw[hlast]at f5;have m0:1+d0.size<=9223372036854775807:=by omega
       have m1:d0.size<=9223372036854775806:=by omega
       have m2:d1.size<=9223372036854775806:=by omega
       have m3:d2.size+d3.size<=9223372036854775807:=by omega
       have m4:(G j).size+d4.size<=9223372036854775807:=by omega
       have HIT:=Lib.hid hIT;have HC2:=Lib.hid hc2;clear hIT hc2 hd0 hd3 g1 g2 g4 g5 hlast hsv2 hsh z1 z2 y1 y2 y4 y5;go_wp2_with fail;refine(HIT.out _ HTr.out).mono ?_;rintro e w4 ⟨rfl,hb4⟩;have B4:Below w.heap.size w w4:=bl_call B hb4 (by omega);have zr4:=B4.size;go_wp2_with fail;refine(HC2.out _ B4).mono ?_;rintro e w5 ⟨rfl,hb5⟩;have B5:Below w.heap.size w w5:=bl_call B4 hb5 (by omega);go_wp2_with fail
       go_roundw
       case rel=>exact⟨j+1,by simp,by omega,by first | rfl | simp,B5⟩
       case measure=>simp[intOf]; omega
      ·
       have hlk:=HMr.out.look Tryz.underlying3 Tryz.underlying166 (zero_shape wr) hin true;rw[spotsF_out hsh]at hlk;simp only[if_true,Option.getD_none,Option.isSome_none]at hlk;have hlast:G j=G (j+1):=str_eq (HG.out j) (HG.out (j+1)) (by
        rw[RK.upto_succ,RK.pc,if_neg hsh,List.append_nil])
       have HL:=Lib.hid hlast;clear hlast hsh;go_wp2_with fail
       go_roundw
       case rel=>exact⟨j+1,by simp,by omega,by rw[HL.out],B⟩
       case measure=>simp[intOf]; omega
     ·
      obtain rfl:j=p:=by omega
      go_wp2_with fail
      go_ret
      exact⟨rfl,(by repeat (first | exact Below.refl _ _ | exact Nat.le_refl _ | refine Below.alloc ?_ ?_ _ | refine Below.setCell ?_ ?_ _ | refine Below.drew ?_ | refine bl_drewN ?_ _ | (assumption) | refine bl_call ?_ (by assumption) ?_ | omega | (simp <;> omega)))⟩
end Go.Proofs.YtaffkceklkdokaaGreatDoor
