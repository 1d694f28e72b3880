/- The strings aa, ab, bb are a set of patterns of two letters. -/
import Derived.Test.YtaffkceklkdokaaGreatDoorTB
import Derived.Shelf.GgClosure.StringsIndexFuncTop
import Derived.Shelf.Strings.Search3
set_option maxRecDepth 100000
set_option maxHeartbeats 4000000
namespace Go.Proofs.YtaffkceklkdokaaGreatDoor
open Go.RowKit Go.Shelf
def laysCF_ren:Go.Shelf.Ren:=⟨fun | 15=>171 | 17=>156 | 20=>179 | n=>n,fun | 0=>0 | 3=>3 | 4=>4 | 9=>9 | 21=>21 | 23=>221 | n=>n,fun | n=>n⟩
theorem laysCF:Go.Proofs.LaysGw.n17 Tryz.prog laysCF_ren:={
 mixed:=by kernel_rfl,
 f15:=Tryz.func171.trans (congrArg some (by kernel_rfl)),
 f17:=Tryz.func156.trans (congrArg some (by kernel_rfl)),
 f20:=Tryz.func179.trans (congrArg some (by kernel_rfl)),
 t0:=Tryz.underlying0,
 a0:=Tryz.isAgg0,
 z0:=Tryz.sizeOf0,
 v0:=Tryz.zeroValue0,
 i0:=by kernel_rfl,
 t3:=Tryz.underlying3,
 a3:=Tryz.isAgg3,
 z3:=Tryz.sizeOf3,
 v3:=Tryz.zeroValue3,
 i3:=by kernel_rfl,
 t4:=Tryz.underlying4,
 a4:=Tryz.isAgg4,
 z4:=Tryz.sizeOf4,
 v4:=Tryz.zeroValue4,
 i4:=by kernel_rfl,
 t9:=Tryz.underlying9,
 a9:=Tryz.isAgg9,
 z9:=Tryz.sizeOf9,
 v9:=Tryz.zeroValue9,
 i9:=by kernel_rfl,
 t21:=Tryz.underlying21,
 a21:=Tryz.isAgg21,
 z21:=Tryz.sizeOf21,
 v21:=Tryz.zeroValue21,
 i21:=by kernel_rfl,
 t23:=Tryz.underlying221,
 a23:=Tryz.isAgg221,
 z23:=Tryz.sizeOf221,
 v23:=Tryz.zeroValue221,
 i23:=by kernel_rfl }
def lays144_ren:Go.Shelf.Ren:=⟨fun | 143=>83 | 144=>160 | 217=>116 | 219=>102 | 224=>118 | 225=>117 | 266=>141 | 267=>119 | 314=>142 | n=>n,fun | 3=>3 | 4=>4 | 5=>5 | 9=>9 | 46=>48 | 51=>117 | 146=>204 | n=>n,fun | 1=>3 | n=>n⟩
theorem lays144:Go.Proofs.Lays.n144 Tryz.prog lays144_ren:={
 mixed:=by kernel_rfl,
 f143:=Tryz.func83.trans (congrArg some (by kernel_rfl)),
 f144:=Tryz.func160.trans (congrArg some (by kernel_rfl)),
 f217:=Tryz.func116.trans (congrArg some (by kernel_rfl)),
 f219:=Tryz.func102.trans (congrArg some (by kernel_rfl)),
 f224:=Tryz.func118.trans (congrArg some (by kernel_rfl)),
 f225:=Tryz.func117.trans (congrArg some (by kernel_rfl)),
 f266:=Tryz.func141.trans (congrArg some (by kernel_rfl)),
 f267:=Tryz.func119.trans (congrArg some (by kernel_rfl)),
 f314:=Tryz.func142.trans (congrArg some (by kernel_rfl)),
 t3:=Tryz.underlying3,
 a3:=Tryz.isAgg3,
 z3:=Tryz.sizeOf3,
 v3:=Tryz.zeroValue3,
 t4:=Tryz.underlying4,
 a4:=Tryz.isAgg4,
 z4:=Tryz.sizeOf4,
 v4:=Tryz.zeroValue4,
 t5:=Tryz.underlying5,
 a5:=Tryz.isAgg5,
 z5:=Tryz.sizeOf5,
 v5:=Tryz.zeroValue5,
 t9:=Tryz.underlying9,
 a9:=Tryz.isAgg9,
 z9:=Tryz.sizeOf9,
 v9:=Tryz.zeroValue9,
 t46:=Tryz.underlying48,
 a46:=Tryz.isAgg48,
 z46:=Tryz.sizeOf48,
 v46:=Tryz.zeroValue48,
 t51:=Tryz.underlying117,
 a51:=Tryz.isAgg117,
 z51:=Tryz.sizeOf117,
 v51:=Tryz.zeroValue117,
 t146:=Tryz.underlying204,
 a146:=Tryz.isAgg204,
 z146:=Tryz.sizeOf204,
 v146:=Tryz.zeroValue204,
 g1:=by kernel_rfl }
attribute [local go_sem ↓] Go.wp_at_zero Go.wp_at_succ
theorem tread_within (n lo hi:Int) (w:World) :
  Calls Tryz.prog 136 #[.int .i64 n,.int .i64 lo,.int .i64 hi] w fun e w'=>e=.returned (.bool (decide (lo<=n) && decide (n<=hi)))/\w=w':=by
 by_cases h1:lo<=n
 ·
  by_cases h2:n<=hi
  all_goals
   go_enter Tryz.func136,Tryz.ntmps136;go_wp2
   go_ret
   exact⟨by simp[h1,h2],rfl⟩
 ·
  go_enter Tryz.func136,Tryz.ntmps136;go_wp2
  go_ret
  exact⟨by rw[decide_eq_false (show ¬lo<=n by omega)]; rfl,rfl⟩
/-- what is no letter a or b -/
def noLet (x:Nat):Bool:=decide ((x:Int) < 97) || decide (2<=wrap64 (wrap32 ((x:Int)-97)))
theorem isWord1_ok (qb:Nat) (x:Nat) (w:World) (h:w.cell? ⟨qb,0,none⟩=some (.int .i64 2)):Calls Tryz.prog 157 #[.int .i32 (x:Nat),.pointer (some ⟨qb,0,none⟩)] w fun e w'=>e=.returned (.bool (noLet x))/\w=w':=by
 by_cases h1:(x:Int) < 97
 ·
  go_enter Tryz.func157,Tryz.ntmps157;go_wp2
  go_ret
  exact⟨by simp[noLet,h1],rfl⟩
 ·
  go_enter Tryz.func157,Tryz.ntmps157;go_wp2
  go_ret
  exact⟨by simp[noLet]; omega,rfl⟩
theorem isWord_ok (s:ByteArray) (hs:decide (0<=Lib.idxFunc noLet true s)=false) (w:World):Calls Tryz.prog 137 #[.int .i64 2,.string s] w fun e w'=>e=.returned (.bool true)/\Below w.heap.size w w':=by
 have hmf:∀(fn:Fn) (first cap:Array Value) (w:World),(Instr.makeFunc fn first cap).run Tryz.prog w=.ok (.func fn first cap) w:=fun _ _ _ _=>rfl;have hp:PredAt Tryz.prog 157 #[.pointer (some ⟨w.heap.size,0,none⟩)] encR noLet (w.alloc (.cells #[.int .i64 2] 3)):=by
  intro W x hb;refine(isWord1_ok w.heap.size x W (keepc hb (by simp))).mono ?_;rintro e w' ⟨rfl,rfl⟩;exact⟨rfl,0,rfl⟩
 have hC:=Any.strings_ContainsFunc laysCF 157 #[.pointer (some ⟨w.heap.size,0,none⟩)] (enters_of Tryz.func157 (by kernel_rfl) rfl) noLet s _ hp;rw[hs]at hC;have HC:=Lib.hid hC;clear hC hp hs;go_enter Tryz.func137,Tryz.ntmps137;go_wp2_with fail;refine HC.out.mono ?_;rintro e w' ⟨rfl,hb⟩;have B:Below w.heap.size w w':=bl_call (by repeat (first | exact Below.refl _ _ | exact Nat.le_refl _ | refine Below.alloc ?_ ?_ _ | refine Below.setCell ?_ ?_ _ | refine Below.drew ?_ | refine bl_drewN ?_ _ | (assumption) | refine bl_call ?_ (by assumption) ?_ | omega | (simp <;> omega))) hb (by simp);clear hb;go_wp2
 go_ret
 exact⟨rfl,B⟩
abbrev AA:ByteArray:=⟨#[97,97]⟩
abbrev AB:ByteArray:=⟨#[97,98]⟩
abbrev BB:ByteArray:=⟨#[98,98]⟩
theorem nl_aa:decide (0<=Lib.idxFunc noLet true AA)=false:=by kernel_rfl
theorem nl_ab:decide (0<=Lib.idxFunc noLet true AB)=false:=by kernel_rfl
theorem nl_bb:decide (0<=Lib.idxFunc noLet true BB)=false:=by kernel_rfl
theorem isSet_ok (sb cap:Nat) (w:World) (c0:w.cell? ⟨sb,0,none⟩=some (.string AA)) (c1:w.cell? ⟨sb,1,none⟩=some (.string AB)) (c2:w.cell? ⟨sb,2,none⟩=some (.string BB)) :
  Calls Tryz.prog 112 #[.int .i64 2,.slice (some ⟨sb,0,none⟩) 3 cap] w fun e w'=>e=.returned (.bool true)/\Below w.heap.size w w':=by
 go_enter Tryz.func112,Tryz.ntmps112;go_wp2_with (first
  | (go_at_call 136; refine(tread_within _ _ _ _).mono ?_; rintro e w' ⟨rfl,rfl⟩)
  | fail)
 go_loopw [17] (fun x wr=>∃k:Nat,x=.int .i64 k/\k<=3/\Below w.heap.size w wr) (fun x _=>3-(intOf x).toNat)
 case atStart=>exact⟨0,rfl,by decide,(by repeat (first | exact Below.refl _ _ | exact Nat.le_refl _ | refine Below.alloc ?_ ?_ _ | refine Below.setCell ?_ ?_ _ | refine Below.drew ?_ | refine bl_drewN ?_ _ | (assumption) | refine bl_call ?_ (by assumption) ?_ | omega | (simp <;> omega)))⟩
 case round =>
  obtain⟨k,rfl,hk,B⟩:=hrel;have q0:=keepc B c0;have q1:=keepc B c1;have q2:=keepc B c2;clear c0 c1 c2;rcases (by omega:k=0∨k=1∨k=2∨k=3) with rfl | rfl | rfl | rfl
  ·
   have hu:=hk;clear hu;go_wp2_with (first
    | (go_at_call 136; refine(tread_within _ _ _ _).mono ?_; rintro e w' ⟨rfl,rfl⟩)
    | fail)
   refine(isWord_ok AA nl_aa _).mono ?_;rintro e w2 ⟨rfl,hb2⟩;have B2:Below w.heap.size w w2:=bl_call B hb2 B.size;have d0:=keepc hb2 q0;have d1:=keepc hb2 q1;have d2:=keepc hb2 q2;clear hb2 q0 q1 q2;go_wp2;exact⟨⟨0+1,rfl,by decide,B2⟩,by decide⟩
  ·
   have hu:=hk;clear hu;go_wp2_with (first
    | (go_at_call 136; refine(tread_within _ _ _ _).mono ?_; rintro e w' ⟨rfl,rfl⟩)
    | fail)
   refine(isWord_ok AB nl_ab _).mono ?_;rintro e w2 ⟨rfl,hb2⟩;have B2:Below w.heap.size w w2:=bl_call B hb2 B.size;have d0:=keepc hb2 q0;have d1:=keepc hb2 q1;have d2:=keepc hb2 q2;clear hb2 q0 q1 q2;go_wp2;exact⟨⟨1+1,rfl,by decide,B2⟩,by decide⟩
  ·
   have hu:=hk;clear hu;go_wp2_with (first
    | (go_at_call 136; refine(tread_within _ _ _ _).mono ?_; rintro e w' ⟨rfl,rfl⟩)
    | fail)
   refine(isWord_ok BB nl_bb _).mono ?_;rintro e w2 ⟨rfl,hb2⟩;have B2:Below w.heap.size w w2:=bl_call B hb2 B.size;have d0:=keepc hb2 q0;have d1:=keepc hb2 q1;have d2:=keepc hb2 q2;clear hb2 q0 q1 q2;go_wp2;exact⟨⟨2+1,rfl,by decide,B2⟩,by decide⟩
  ·
   clear q0 q1 q2;go_wp2
   go_ret
   exact⟨rfl,B⟩
open Go.RowKit Go.Shelf
attribute [local go_sem ↓] Go.wp_at_zero Go.wp_at_succ
/-- the library's own variable holds some number -/
def MaxM (w:World):Prop:=∃m,w.cell? ⟨3,0,none⟩=some (.int .i64 m)
theorem MaxM.below {w w':World} (h:MaxM w) (hb:Below w.heap.size w w'):MaxM w':=h.imp fun _ h=>keepc hb h
theorem avoids1_ok (sb:Nat) (s p:ByteArray) (hs:s.size < 4294967281) (w:World) (hM:MaxM w) (h:w.cell? ⟨sb,0,none⟩=some (.string s)) :
  Calls Tryz.prog 159 #[.string p,.pointer (some ⟨sb,0,none⟩)] w fun e w'=>e=.returned (.bool (Lib.contains s.data.toList p.data.toList))/\w=w':=by
 obtain⟨m,hm⟩:=hM;have HC:=Lib.hid (Any.strings_Contains lays144 s p m w hs hm);clear hm hs;go_enter Tryz.func159,Tryz.ntmps159;go_wp2_with fail;refine HC.out.mono ?_;rintro e w' ⟨rfl,rfl⟩;go_wp2
 go_ret
 exact⟨rfl,rfl⟩
def idx3 (b0 b1 b2:Bool):Int:=if b0 then 0 else if b1 then 1 else if b2 then 2 else -1
theorem avIdx (sb lb cap:Nat) (s:ByteArray) (b0 b1 b2:Bool) (hs:s.size < 4294967281) (w:World) (hM:MaxM w) (h:w.cell? ⟨sb,0,none⟩=some (.string s)) (c0:w.cell? ⟨lb,0,none⟩=some (.string AA)) (c1:w.cell? ⟨lb,1,none⟩=some (.string AB)) (c2:w.cell? ⟨lb,2,none⟩=some (.string BB))
  (h0:Lib.contains s.data.toList AA.data.toList=b0) (h1:Lib.contains s.data.toList AB.data.toList=b1) (h2:Lib.contains s.data.toList BB.data.toList=b2) :
  Calls Tryz.prog 172 #[.slice (some ⟨lb,0,none⟩) 3 cap,.func (.func 159) #[] #[.pointer (some ⟨sb,0,none⟩)]] w fun e w'=>e=.returned (.int .i64 (idx3 b0 b1 b2))/\w=w':=by
 have he:∀args w,(callFunc 159 args).run Tryz.prog w=.ok (.enter 159 args) w:=enters_of Tryz.func159 (by kernel_rfl) rfl;go_enter Tryz.func172,Tryz.ntmps172;go_wp2;go_loopw [8] (fun x wr=>∃k:Nat,x=.int .i64 k/\k<=3/\(1<=k->b0=false)/\(2<=k->b1=false)/\(3<=k->b2=false)/\w=wr) (fun x _=>3-(intOf x).toNat)
 case atStart=>exact⟨0,rfl,by decide,fun h=>absurd h (by decide),fun h=>absurd h (by decide),fun h=>absurd h (by decide),rfl⟩
 case round =>
  obtain⟨k,rfl,hk,k0,k1,k2,rfl⟩:=hrel;rcases (by omega:k=0∨k=1∨k=2∨k=3) with rfl | rfl | rfl | rfl
  ·
   clear k0 k1 k2;have HA:=Lib.hid (avoids1_ok sb s AA hs w hM h);rw[h0]at HA;go_wp2_with fail;refine HA.out.mono ?_;rintro e w' ⟨rfl,rfl⟩;cases b0
   · go_wp2;exact⟨⟨1,rfl,by decide,fun _=>trivial,fun h=>absurd h (by decide),fun h=>absurd h (by decide),trivial⟩,by decide⟩
   ·
    go_wp2
    go_ret
    exact⟨rfl,rfl⟩
  ·
   obtain rfl:=k0 (by decide);clear k1 k2;have HA:=Lib.hid (avoids1_ok sb s AB hs w hM h);rw[h1]at HA;go_wp2_with fail;refine HA.out.mono ?_;rintro e w' ⟨rfl,rfl⟩;cases b1
   · go_wp2;exact⟨⟨2,rfl,by decide,fun _=>trivial,fun _=>trivial,fun h=>absurd h (by decide),trivial⟩,by decide⟩
   ·
    go_wp2
    go_ret
    exact⟨rfl,rfl⟩
  ·
   obtain rfl:=k0 (by decide);obtain rfl:=k1 (by decide);clear k2;have HA:=Lib.hid (avoids1_ok sb s BB hs w hM h);rw[h2]at HA;go_wp2_with fail;refine HA.out.mono ?_;rintro e w' ⟨rfl,rfl⟩;cases b2
   · go_wp2;exact⟨⟨3,rfl,by decide,fun _=>trivial,fun _=>trivial,fun _=>trivial,trivial⟩,by decide⟩
   ·
    go_wp2
    go_ret
    exact⟨rfl,rfl⟩
  ·
   obtain rfl:=k0 (by decide);obtain rfl:=k1 (by decide);obtain rfl:=k2 (by decide);go_wp2
   go_ret
   exact⟨rfl,rfl⟩
theorem avHas (sb lb cap:Nat) (s:ByteArray) (b0 b1 b2:Bool) (hs:s.size < 4294967281) (w:World) (hM:MaxM w) (h:w.cell? ⟨sb,0,none⟩=some (.string s)) (c0:w.cell? ⟨lb,0,none⟩=some (.string AA)) (c1:w.cell? ⟨lb,1,none⟩=some (.string AB)) (c2:w.cell? ⟨lb,2,none⟩=some (.string BB))
  (h0:Lib.contains s.data.toList AA.data.toList=b0) (h1:Lib.contains s.data.toList AB.data.toList=b1) (h2:Lib.contains s.data.toList BB.data.toList=b2) :
  Calls Tryz.prog 158 #[.slice (some ⟨lb,0,none⟩) 3 cap,.func (.func 159) #[] #[.pointer (some ⟨sb,0,none⟩)]] w fun e w'=>e=.returned (.bool (b0 || b1 || b2))/\w=w':=by
 have HI:=Lib.hid (avIdx sb lb cap s b0 b1 b2 hs w hM h c0 c1 c2 h0 h1 h2);clear h0 h1 h2;go_enter Tryz.func158,Tryz.ntmps158;go_wp2_with fail;refine HI.out.mono ?_;rintro e w' ⟨rfl,rfl⟩;go_wp2
 go_ret
 exact⟨by cases b0 <;> cases b1 <;> cases b2 <;> rfl,rfl⟩
theorem avoids_ok (lb cap:Nat) (s:ByteArray) (b0 b1 b2:Bool) (hs:s.size < 4294967281) (w:World) (hM:MaxM w) (c0:w.cell? ⟨lb,0,none⟩=some (.string AA)) (c1:w.cell? ⟨lb,1,none⟩=some (.string AB)) (c2:w.cell? ⟨lb,2,none⟩=some (.string BB))
  (h0:Lib.contains s.data.toList AA.data.toList=b0) (h1:Lib.contains s.data.toList AB.data.toList=b1) (h2:Lib.contains s.data.toList BB.data.toList=b2) :
  Calls Tryz.prog 138 #[.slice (some ⟨lb,0,none⟩) 3 cap,.string s] w fun e w'=>e=.returned (.bool !(b0 || b1 || b2))/\Below w.heap.size w w':=by
 have hmf:∀(fn:Fn) (first cap:Array Value) (w:World),(Instr.makeFunc fn first cap).run Tryz.prog w=.ok (.func fn first cap) w:=fun _ _ _ _=>rfl;have hB:Below w.heap.size w (w.alloc (.cells #[.string s] 9)):=(by repeat (first | exact Below.refl _ _ | exact Nat.le_refl _ | refine Below.alloc ?_ ?_ _ | refine Below.setCell ?_ ?_ _ | refine Below.drew ?_ | refine bl_drewN ?_ _ | (assumption) | refine bl_call ?_ (by assumption) ?_ | omega | (simp <;> omega)))
 have HI:=Lib.hid (avHas w.heap.size lb cap s b0 b1 b2 hs _ (hM.below hB) (by simp) (keepc hB c0) (keepc hB c1) (keepc hB c2) h0 h1 h2);clear h0 h1 h2 hB;go_enter Tryz.func138,Tryz.ntmps138;go_wp2_with fail;refine HI.out.mono ?_;rintro e w' ⟨rfl,rfl⟩;go_wp2
 go_ret
 exact⟨by cases b0 <;> cases b1 <;> cases b2 <;> rfl,(by repeat (first | exact Below.refl _ _ | exact Nat.le_refl _ | refine Below.alloc ?_ ?_ _ | refine Below.setCell ?_ ?_ _ | refine Below.drew ?_ | refine bl_drewN ?_ _ | (assumption) | refine bl_call ?_ (by assumption) ?_ | omega | (simp <;> omega)))⟩
end Go.Proofs.YtaffkceklkdokaaGreatDoor
