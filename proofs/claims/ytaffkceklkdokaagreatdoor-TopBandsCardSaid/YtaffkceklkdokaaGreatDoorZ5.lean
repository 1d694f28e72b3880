/- TrimLeft, Atoi, HasPrefix by the shelf's contracts; CutPrefix. -/
import Derived.Shelf.Strings.SlTrimAscii
import Derived.Shelf.Strings.Prefix
import Derived.Shelf.Strconv.Atoi
import Derived.Lib.AtoiErrMem
import Derived.Test.YtaffkceklkdokaaGreatDoorZ4
import Derived.Deep.AppendLies
import Derived.Laws.OwnMore
set_option maxRecDepth 100000
set_option maxHeartbeats 8000000
namespace Go.Proofs.YtaffkceklkdokaaGreatDoor
open Go.Shelf
def lays161_ren:Go.Shelf.Ren:=⟨fun | 119=>181 | 137=>180 | 151=>165 | 152=>174 | 161=>132 | 197=>164 | 217=>116 | 224=>118 | 225=>117 | 227=>151 | 228=>163 | 231=>150 | 233=>152 | 235=>153 | 260=>173 | 266=>141 | n=>n,fun | 0=>0 | 3=>3 | 4=>4 | 5=>5 | 9=>9 | 21=>21 | 46=>48 | 105=>228 | 116=>214 | 117=>215 | 119=>248 | 124=>218 | 138=>250 | 139=>251 | n=>n,fun | 3=>6 | 4=>7 | n=>n⟩
theorem lays161:Go.Proofs.Lays.n161 Tryz.prog lays161_ren:={
 mixed:=by kernel_rfl,
 f119:=Tryz.func181.trans (congrArg some (by kernel_rfl)),
 f137:=Tryz.func180.trans (congrArg some (by kernel_rfl)),
 f151:=Tryz.func165.trans (congrArg some (by kernel_rfl)),
 f152:=Tryz.func174.trans (congrArg some (by kernel_rfl)),
 f161:=Tryz.func132.trans (congrArg some (by kernel_rfl)),
 f197:=Tryz.func164.trans (congrArg some (by kernel_rfl)),
 f217:=Tryz.func116.trans (congrArg some (by kernel_rfl)),
 f224:=Tryz.func118.trans (congrArg some (by kernel_rfl)),
 f225:=Tryz.func117.trans (congrArg some (by kernel_rfl)),
 f227:=Tryz.func151.trans (congrArg some (by kernel_rfl)),
 f228:=Tryz.func163.trans (congrArg some (by kernel_rfl)),
 f231:=Tryz.func150.trans (congrArg some (by kernel_rfl)),
 f233:=Tryz.func152.trans (congrArg some (by kernel_rfl)),
 f235:=Tryz.func153.trans (congrArg some (by kernel_rfl)),
 f260:=Tryz.func173.trans (congrArg some (by kernel_rfl)),
 f266:=Tryz.func141.trans (congrArg some (by kernel_rfl)),
 t0:=Tryz.underlying0,
 a0:=Tryz.isAgg0,
 z0:=Tryz.sizeOf0,
 v0:=Tryz.zeroValue0,
 t3:=Tryz.underlying3,
 a3:=Tryz.isAgg3,
 z3:=Tryz.sizeOf3,
 v3:=Tryz.zeroValue3,
 t4:=Tryz.underlying4,
 a4:=Tryz.isAgg4,
 z4:=Tryz.sizeOf4,
 v4:=Tryz.zeroValue4,
 t5:=Tryz.underlying5,
 a5:=Tryz.isAgg5,
 z5:=Tryz.sizeOf5,
 v5:=Tryz.zeroValue5,
 t9:=Tryz.underlying9,
 a9:=Tryz.isAgg9,
 z9:=Tryz.sizeOf9,
 v9:=Tryz.zeroValue9,
 t21:=Tryz.underlying21,
 a21:=Tryz.isAgg21,
 z21:=Tryz.sizeOf21,
 v21:=Tryz.zeroValue21,
 t46:=Tryz.underlying48,
 a46:=Tryz.isAgg48,
 z46:=Tryz.sizeOf48,
 v46:=Tryz.zeroValue48,
 t105:=Tryz.underlying228,
 a105:=Tryz.isAgg228,
 z105:=Tryz.sizeOf228,
 v105:=Tryz.zeroValue228,
 t116:=Tryz.underlying214,
 a116:=Tryz.isAgg214,
 z116:=Tryz.sizeOf214,
 t117:=Tryz.underlying215,
 a117:=Tryz.isAgg215,
 z117:=Tryz.sizeOf215,
 v117:=Tryz.zeroValue215,
 t119:=Tryz.underlying248,
 a119:=Tryz.isAgg248,
 z119:=Tryz.sizeOf248,
 t124:=Tryz.underlying218,
 a124:=Tryz.isAgg218,
 z124:=Tryz.sizeOf218,
 v124:=Tryz.zeroValue218,
 t138:=Tryz.underlying250,
 a138:=Tryz.isAgg250,
 z138:=Tryz.sizeOf250,
 v138:=Tryz.zeroValue250,
 t139:=Tryz.underlying251,
 a139:=Tryz.isAgg251,
 z139:=Tryz.sizeOf251,
 v139:=Tryz.zeroValue251,
 g3:=by kernel_rfl,
 g4:=by kernel_rfl }
def lays172_ren:Go.Shelf.Ren:=⟨fun | 129=>130 | 171=>178 | 172=>133 | 205=>177 | 243=>184 | 244=>154 | 245=>155 | 246=>185 | 247=>166 | 279=>167 | 280=>168 | 281=>169 | 282=>170 | 283=>186 | 284=>187 | 285=>188 | 286=>189 | 287=>175 | 316=>176 | 317=>190 | 318=>191 | 319=>192 | 320=>43 | 321=>182 | 322=>183 | 337=>64 | 338=>65 | n=>n,fun | 0=>0 | 2=>2 | 3=>3 | 4=>4 | 5=>5 | 9=>9 | 20=>20 | 21=>21 | 37=>102 | 46=>48 | 51=>117 | 53=>119 | 75=>194 | 76=>195 | 80=>156 | 85=>232 | 127=>253 | 143=>254 | 145=>256 | 167=>231 | 168=>234 | 171=>258 | 173=>260 | 175=>240 | 210=>244 | 212=>263 | 213=>264 | 232=>142 | 233=>143 | n=>n,fun | 15=>4 | 16=>5 | 17=>8 | 18=>1 | 19=>2 | n=>n⟩
theorem lays172:Go.Proofs.Lays.n172 Tryz.prog lays172_ren:={
 mixed:=by kernel_rfl,
 f129:=Tryz.func130.trans (congrArg some (by kernel_rfl)),
 f171:=Tryz.func178.trans (congrArg some (by kernel_rfl)),
 f172:=Tryz.func133.trans (congrArg some (by kernel_rfl)),
 f205:=Tryz.func177.trans (congrArg some (by kernel_rfl)),
 f243:=Tryz.func184.trans (congrArg some (by kernel_rfl)),
 f244:=Tryz.func154.trans (congrArg some (by kernel_rfl)),
 f245:=Tryz.func155.trans (congrArg some (by kernel_rfl)),
 f246:=Tryz.func185.trans (congrArg some (by kernel_rfl)),
 f247:=Tryz.func166.trans (congrArg some (by kernel_rfl)),
 f279:=Tryz.func167.trans (congrArg some (by kernel_rfl)),
 f280:=Tryz.func168.trans (congrArg some (by kernel_rfl)),
 f281:=Tryz.func169.trans (congrArg some (by kernel_rfl)),
 f282:=Tryz.func170.trans (congrArg some (by kernel_rfl)),
 f283:=Tryz.func186.trans (congrArg some (by kernel_rfl)),
 f284:=Tryz.func187.trans (congrArg some (by kernel_rfl)),
 f285:=Tryz.func188.trans (congrArg some (by kernel_rfl)),
 f286:=Tryz.func189.trans (congrArg some (by kernel_rfl)),
 f287:=Tryz.func175.trans (congrArg some (by kernel_rfl)),
 f316:=Tryz.func176.trans (congrArg some (by kernel_rfl)),
 f317:=Tryz.func190.trans (congrArg some (by kernel_rfl)),
 f318:=Tryz.func191.trans (congrArg some (by kernel_rfl)),
 f319:=Tryz.func192.trans (congrArg some (by kernel_rfl)),
 f320:=Tryz.func43.trans (congrArg some (by kernel_rfl)),
 f321:=Tryz.func182.trans (congrArg some (by kernel_rfl)),
 f322:=Tryz.func183.trans (congrArg some (by kernel_rfl)),
 f337:=Tryz.func64.trans (congrArg some (by kernel_rfl)),
 f338:=Tryz.func65.trans (congrArg some (by kernel_rfl)),
 t0:=Tryz.underlying0,
 a0:=Tryz.isAgg0,
 z0:=Tryz.sizeOf0,
 v0:=Tryz.zeroValue0,
 t2:=Tryz.underlying2,
 a2:=Tryz.isAgg2,
 z2:=Tryz.sizeOf2,
 v2:=Tryz.zeroValue2,
 t3:=Tryz.underlying3,
 a3:=Tryz.isAgg3,
 z3:=Tryz.sizeOf3,
 v3:=Tryz.zeroValue3,
 t4:=Tryz.underlying4,
 a4:=Tryz.isAgg4,
 z4:=Tryz.sizeOf4,
 v4:=Tryz.zeroValue4,
 t5:=Tryz.underlying5,
 a5:=Tryz.isAgg5,
 z5:=Tryz.sizeOf5,
 v5:=Tryz.zeroValue5,
 t9:=Tryz.underlying9,
 a9:=Tryz.isAgg9,
 z9:=Tryz.sizeOf9,
 v9:=Tryz.zeroValue9,
 t20:=Tryz.underlying20,
 a20:=Tryz.isAgg20,
 z20:=Tryz.sizeOf20,
 v20:=Tryz.zeroValue20,
 t21:=Tryz.underlying21,
 a21:=Tryz.isAgg21,
 z21:=Tryz.sizeOf21,
 v21:=Tryz.zeroValue21,
 t37:=Tryz.underlying102,
 a37:=Tryz.isAgg102,
 z37:=Tryz.sizeOf102,
 v37:=Tryz.zeroValue102,
 t46:=Tryz.underlying48,
 a46:=Tryz.isAgg48,
 z46:=Tryz.sizeOf48,
 v46:=Tryz.zeroValue48,
 t51:=Tryz.underlying117,
 a51:=Tryz.isAgg117,
 z51:=Tryz.sizeOf117,
 v51:=Tryz.zeroValue117,
 t53:=Tryz.underlying119,
 a53:=Tryz.isAgg119,
 z53:=Tryz.sizeOf119,
 v53:=Tryz.zeroValue119,
 t75:=Tryz.underlying194,
 a75:=Tryz.isAgg194,
 z75:=Tryz.sizeOf194,
 v75:=Tryz.zeroValue194,
 t76:=Tryz.underlying195,
 a76:=Tryz.isAgg195,
 z76:=Tryz.sizeOf195,
 v76:=Tryz.zeroValue195,
 t85:=Tryz.underlying232,
 a85:=Tryz.isAgg232,
 z85:=Tryz.sizeOf232,
 v85:=Tryz.zeroValue232,
 t127:=Tryz.underlying253,
 a127:=Tryz.isAgg253,
 z127:=Tryz.sizeOf253,
 v127:=Tryz.zeroValue253,
 t143:=Tryz.underlying254,
 a143:=Tryz.isAgg254,
 z143:=Tryz.sizeOf254,
 v143:=Tryz.zeroValue254,
 t145:=Tryz.underlying256,
 a145:=Tryz.isAgg256,
 z145:=Tryz.sizeOf256,
 v145:=Tryz.zeroValue256,
 t167:=Tryz.underlying231,
 a167:=Tryz.isAgg231,
 z167:=Tryz.sizeOf231,
 v167:=Tryz.zeroValue231,
 t168:=Tryz.underlying234,
 a168:=Tryz.isAgg234,
 z168:=Tryz.sizeOf234,
 v168:=Tryz.zeroValue234,
 t171:=Tryz.underlying258,
 a171:=Tryz.isAgg258,
 z171:=Tryz.sizeOf258,
 v171:=Tryz.zeroValue258,
 t173:=Tryz.underlying260,
 a173:=Tryz.isAgg260,
 z173:=Tryz.sizeOf260,
 v173:=Tryz.zeroValue260,
 t175:=Tryz.underlying240,
 a175:=Tryz.isAgg240,
 z175:=Tryz.sizeOf240,
 v175:=Tryz.zeroValue240,
 t210:=Tryz.underlying244,
 a210:=Tryz.isAgg244,
 z210:=Tryz.sizeOf244,
 v210:=Tryz.zeroValue244,
 t212:=Tryz.underlying263,
 a212:=Tryz.isAgg263,
 z212:=Tryz.sizeOf263,
 v212:=Tryz.zeroValue263,
 t213:=Tryz.underlying264,
 a213:=Tryz.isAgg264,
 z213:=Tryz.sizeOf264,
 t232:=Tryz.underlying142,
 a232:=Tryz.isAgg142,
 z232:=Tryz.sizeOf142,
 v232:=Tryz.zeroValue142,
 t233:=Tryz.underlying143,
 a233:=Tryz.isAgg143,
 z233:=Tryz.sizeOf143,
 v233:=Tryz.zeroValue143,
 g15:=by kernel_rfl,
 g16:=by kernel_rfl,
 g17:=by kernel_rfl,
 g18:=by kernel_rfl,
 g19:=by kernel_rfl }
def lays206_ren:Go.Shelf.Ren:=⟨fun | 206=>162 | n=>n,fun | 3=>3 | 4=>4 | 9=>9 | n=>n,fun | n=>n⟩
theorem lays206:Go.Proofs.Lays.n206 Tryz.prog lays206_ren:={
 mixed:=by kernel_rfl,
 f206:=Tryz.func162.trans (congrArg some (by kernel_rfl)),
 t3:=Tryz.underlying3,
 a3:=Tryz.isAgg3,
 z3:=Tryz.sizeOf3,
 v3:=Tryz.zeroValue3,
 t4:=Tryz.underlying4,
 a4:=Tryz.isAgg4,
 z4:=Tryz.sizeOf4,
 v4:=Tryz.zeroValue4,
 t9:=Tryz.underlying9,
 a9:=Tryz.isAgg9,
 z9:=Tryz.sizeOf9,
 v9:=Tryz.zeroValue9 }
open Go.RowKit
attribute [local go_sem ↓] Go.wp_at_zero Go.wp_at_succ
def digits:ByteArray:=⟨#[48,49,50,51,52,53,54,55,56,57]⟩
theorem digits_isD (c:UInt8):digits.data.toList.contains c=RK.isD c:=by
 rw[Bool.eq_iff_iff];simp only[digits,RK.isD,List.contains_iff_mem,Bool.and_eq_true,decide_eq_true_eq,List.mem_cons,List.not_mem_nil,or_false];constructor
 · rintro (rfl | rfl | rfl | rfl | rfl | rfl | rfl | rfl | rfl | rfl) <;> decide
 ·
  rintro ⟨h1,h2⟩;have e:∀n:UInt8,c.toNat=n.toNat->c=n:=fun n h=>UInt8.toNat_inj.1 h;have:c.toNat=48∨c.toNat=49∨c.toNat=50∨c.toNat=51∨c.toNat=52∨c.toNat=53∨c.toNat=54∨c.toNat=55∨c.toNat=56∨c.toNat=57:=by omega
  rcases this with h | h | h | h | h | h | h | h | h | h
  · exact .inl (e 48 h)
  · exact .inr (.inl (e 49 h))
  · exact .inr (.inr (.inl (e 50 h)))
  · exact .inr (.inr (.inr (.inl (e 51 h))))
  · exact .inr (.inr (.inr (.inr (.inl (e 52 h)))))
  · exact .inr (.inr (.inr (.inr (.inr (.inl (e 53 h))))))
  · exact .inr (.inr (.inr (.inr (.inr (.inr (.inl (e 54 h)))))))
  · exact .inr (.inr (.inr (.inr (.inr (.inr (.inr (.inl (e 55 h))))))))
  · exact .inr (.inr (.inr (.inr (.inr (.inr (.inr (.inr (.inl (e 56 h)))))))))
  · exact .inr (.inr (.inr (.inr (.inr (.inr (.inr (.inr (.inr (e 57 h)))))))))
theorem trim_any (l:List UInt8) (w:World) :
  Calls Tryz.prog 132 #[.string ⟨l.toArray⟩,.string digits] w fun e w'=>e=.returned (.string ⟨(l.dropWhile RK.isD).toArray⟩)/\Below w.heap.size w w':=by
 refine(Any.strings_TrimLeft_laid lays161 (by kernel_rfl) ⟨l.toArray⟩ digits w (by decide) (fun j b h=>(by decide:∀c∈digits.data.toList,c.toNat < 128) b (List.mem_of_getElem? h))).mono ?_;rintro e w' ⟨rfl,hb⟩;refine⟨?_,hb⟩;have h:(Lib.trimLeftS l digits.data.toList)=l.dropWhile RK.isD:=by
  unfold Lib.trimLeftS
  congr 1
  funext c
  exact digits_isD c
 rw[<-h]
theorem prefix_any (l p:List UInt8) (w:World) :
  Calls Tryz.prog 162 #[.string ⟨l.toArray⟩,.string ⟨p.toArray⟩] w fun e w'=>e=.returned (.bool (Lib.hasPrefix l p))/\w'=w:=Any.stringslite_HasPrefix lays206 _ _ w
theorem atoi_ok (l:List UInt8) (n:Int) (w:World) (hl:l.length<=18) (h:Lib.atoi l=some n) :
  Calls Tryz.prog 133 #[.string ⟨l.toArray⟩] w fun e w'=>e=.returned (.tuple #[.int .i64 n,.nilIface])/\Below w.heap.size w w':=by
 refine(Any.strconv_Atoi lays172 ⟨l.toArray⟩ n (by rw[str_size]; exact hl) h w).mono ?_;rintro e w' ⟨rfl,t,rfl⟩;exact⟨rfl,Lib.bytesWorld_below _ _ _⟩
/-- what is left behind a character, and whether it came -/
def cutT (c:UInt8) (l:List UInt8):Value:=match RK.skipL c l with
 | some r=>.tuple #[.string ⟨r.toArray⟩,.bool true]
 | none=>.tuple #[.string ⟨l.toArray⟩,.bool false]
theorem cutL_any (c:UInt8) (l:List UInt8) (w:World) (hl:l.length<=1000000) :
  Calls Tryz.prog 149 #[.string ⟨l.toArray⟩,.string ⟨[c].toArray⟩] w fun e w'=>e=.returned (cutT c l)/\w=w':=by
 have hP:=fun wx=>prefix_any l [c] wx;have hsz:(⟨[c].toArray⟩:ByteArray).size=1:=rfl;obtain⟨q,hq⟩:∃q:ByteArray,q=⟨[c].toArray⟩:=⟨_,rfl⟩
 obtain⟨s,hs⟩:∃s:ByteArray,s=⟨l.toArray⟩:=⟨_,rfl⟩
 have hss:s.size=l.length:=by rw[hs,str_size]
 rw[<-hq]at hP hsz ⊢;rw[<-hs]at hP ⊢;cases hk:RK.skipL c l with
 | none =>
  have hp:Lib.hasPrefix l [c]=false:=by
   cases l with
   | nil=>rfl
   | cons d m =>
    simp only[RK.skipL]at hk
    split at hk
    · cases hk
    · rename_i h;have h':¬c=d:=fun e=>h e.symm;simp[Lib.hasPrefix,List.isPrefixOf,h']
  rw[hp]at hP;have hc:cutT c l=.tuple #[.string s,.bool false]:=by rw[cutT,hk,hs]
  rw[hc];have HP:=Lib.hid hP;clear hP hk hp hc hs hq;go_enter Tryz.func149,Tryz.ntmps149;go_wp2_with fail;refine(HP.out _).mono ?_;rintro e w1 ⟨rfl,rfl⟩;go_wp2_with fail;exact bodyPost_ret (v:=.tuple #[.string s,.bool false]) (by simp[results,Tryz.results149,go_sem]) rfl ⟨rfl,rfl⟩
 | some r =>
  have hlr:l=c :: r:=by
   cases l with
   | nil=>cases hk
   | cons d m =>
    simp only[RK.skipL]at hk
    split at hk
    · rename_i h; cases hk; rw[h]
    · cases hk
  have hp:Lib.hasPrefix l [c]=true:=by rw[hlr]; simp[Lib.hasPrefix]
  rw[hp]at hP;obtain⟨t,ht⟩:∃t:ByteArray,t=⟨r.toArray⟩:=⟨_,rfl⟩
  have hc:cutT c l=.tuple #[.string t,.bool true]:=by rw[cutT,hk,ht]
  rw[hc];have hex:s.extract 1 s.size=t:=by
   rw[hss,hs,ht,hlr];have h:(⟨(c :: r).toArray⟩:ByteArray).extract 1 (r.length+1)=⟨r.toArray⟩:=by
    apply ByteArray.ext;simp[ByteArray.data_extract]
   exact h
  have h1:1<=s.size:=by rw[hss,hlr]; simp
  have h2:s.size<=1000000:=by omega
  have HP:=Lib.hid hP;clear hP hk hp hc hs hq hss hl hlr ht;go_enter Tryz.func149,Tryz.ntmps149;go_wp2_with fail;refine(HP.out _).mono ?_;rintro e w1 ⟨rfl,rfl⟩;go_wp2_with fail;exact bodyPost_ret (v:=.tuple #[.string t,.bool true]) (by simp[results,Tryz.results149,go_sem]) rfl ⟨rfl,rfl⟩
open Go.RowKit
attribute [local go_sem ↓] Go.wp_at_zero Go.wp_at_succ
theorem cut_any (c:UInt8) (l:List UInt8) (w:World) (hl:l.length<=1000000) :
  Calls Tryz.prog 131 #[.string ⟨l.toArray⟩,.string ⟨[c].toArray⟩] w fun e w'=>e=.returned (cutT c l)/\w=w':=by
 have hC:=fun wx=>cutL_any c l wx hl;obtain⟨q,hq⟩:∃q:ByteArray,q=⟨[c].toArray⟩:=⟨_,rfl⟩
 obtain⟨s,hs⟩:∃s:ByteArray,s=⟨l.toArray⟩:=⟨_,rfl⟩
 obtain⟨t,b,ht⟩:∃t b,cutT c l=.tuple #[.string t,.bool b]:=by
  unfold cutT
  split
  · exact⟨_,_,rfl⟩
  · exact⟨_,_,rfl⟩
 rw[<-hq,<-hs];simp only[<-hq,<-hs,ht]at hC;rw[ht];have HC:=Lib.hid hC;clear hC hq hs ht hl;go_enter Tryz.func131,Tryz.ntmps131;go_wp2_with fail;refine(HC.out _).mono ?_;rintro e w1 ⟨rfl,rfl⟩;go_wp2_with fail;exact bodyPost_ret (v:=.tuple #[.string t,.bool b]) (by simp[results,Tryz.results131,go_sem]) rfl ⟨rfl,rfl⟩
/-- a reader in memory, and what is left to read -/
def RdIs (w:World) (rb:Nat) (l:List UInt8):Prop:=w.heap[rb]?=some (.cells #[.string ⟨l.toArray⟩] 150 (0,0))
/-- what skip does -/
def SkipPost (rb:Nat) (c:UInt8) (l:List UInt8) (w:World) (e:Ending) (w':World):Prop :=
 (RK.skipL c l=none/\e=.returned (.bool false)/\w=w')∨∃r,RK.skipL c l=some r/\e=.returned (.bool true)/\RdIs w' rb r/\BelX [rb] w w'
theorem skip_any (rb:Nat) (c:UInt8) (l:List UInt8) (w:World) (hl:l.length<=1000000) (h:RdIs w rb l) :
  Calls Tryz.prog 105 #[.pointer (some ⟨rb,0,none⟩),.string ⟨[c].toArray⟩] w (SkipPost rb c l w):=by
 have hC:=fun wx=>cut_any c l wx hl;have h0:w.heap[rb]?=some (.cells #[.string ⟨l.toArray⟩] 150 (0,0)):=h;have c0:=cell_of_row w rb 0 _ _ _ h0;have fz:=row_f h0;obtain⟨q,hq⟩:∃q:ByteArray,q=⟨[c].toArray⟩:=⟨_,rfl⟩
 obtain⟨s,hs⟩:∃s:ByteArray,s=⟨l.toArray⟩:=⟨_,rfl⟩
 simp only[<-hq,<-hs]at hC c0 ⊢;cases hk:RK.skipL c l with
 | none =>
  have ht:cutT c l=.tuple #[.string s,.bool false]:=by rw[cutT,hk,hs]
  rw[ht]at hC;have HC:=Lib.hid hC;have HK:=Lib.hid hk;clear hC hq hs ht hl h h0 hk;go_enter Tryz.func105,Tryz.ntmps105;go_wp2_with fail;refine(HC.out _).mono ?_;rintro e w1 ⟨rfl,rfl⟩;go_wp2_with fail
  go_ret
  exact .inl ⟨HK.out,rfl,rfl⟩
 | some r =>
  obtain⟨t,ht0⟩:∃t:ByteArray,t=⟨r.toArray⟩:=⟨_,rfl⟩
  have ht:cutT c l=.tuple #[.string t,.bool true]:=by rw[cutT,hk,ht0]
  rw[ht]at hC;have HC:=Lib.hid hC;have HK:=Lib.hid hk;have HP:=Lib.hid (show RdIs (w.setCell ⟨rb,0,none⟩ (.string t)) rb r by
   unfold RdIs;rw[<-ht0];simp[World.setCell,Array.getElem?_modify,h0])
  clear hC hq hs ht hl h h0 hk ht0;go_enter Tryz.func105,Tryz.ntmps105;go_wp2_with fail;refine(HC.out _).mono ?_;rintro e w1 ⟨rfl,rfl⟩;go_wp2_with fail
  go_ret
  exact .inr ⟨r,HK.out,rfl,HP.out,(BelX.here [rb] w).setOld (p:=⟨rb,0,none⟩) (by simp) _⟩
theorem demand_ok (n:Int) (w:World) :
  Calls Tryz.prog 96 #[.bool true,.int .i64 n] w fun e w'=>e=.returned (.tuple #[])/\w=w':=by
 go_enter Tryz.func96,Tryz.ntmps96;go_wp2
 go_end0
 exact⟨rfl,rfl⟩
open Go.RowKit
attribute [local go_sem ↓] Go.wp_at_zero Go.wp_at_succ
theorem demand_no (c:Int) (w:World):Calls Tryz.prog 96 #[.bool false,.int .i64 c] w fun e w'=>e=.panicked [{ v:=.iface 146 (.agg #[.int .i64 c]),recovered:=false }]/\w=w':=by
 go_enter Tryz.func96,Tryz.ntmps96;go_wp2;exact⟨rfl,rfl,rfl⟩
theorem decFrom_digits:∀(l:List UInt8) (acc:Nat),(∀c∈l,RK.isD c=true)->Lib.decFrom acc l=some (l.foldl (fun n c=>10 * n+(c.toNat-48)) acc)
 | [],_,_=>rfl
 | b :: r,acc,h=>by
  have hb:=h b (by simp);simp only[RK.isD,Bool.and_eq_true,decide_eq_true_eq]at hb;have hd:Lib.digitVal b=some (b.toNat-48):=by rw[Lib.digitVal,if_pos hb]
  rw[Lib.decFrom,hd];have:=decFrom_digits r (acc * 10+(b.toNat-48)) (fun c hc=>h c (by simp[hc]));simp only[List.foldl_cons];rw[Nat.mul_comm 10 acc];exact this
theorem atoi_digits {l:List UInt8} (h:∀c∈l,RK.isD c=true) (hl:1<=l.length):Lib.atoi l=some ((l.foldl (fun n c=>10 * n+(c.toNat-48)) 0:Nat):Int):=by
 cases l with
 | nil=>simp at hl
 | cons b r =>
  have hb:=h b (by simp);simp only[RK.isD,Bool.and_eq_true,decide_eq_true_eq]at hb;have h45:(b == 45)=false:=by rw[beq_eq_false_iff_ne]; rintro rfl; exact absurd hb.1 (by decide)
  have h43:(b == 43)=false:=by rw[beq_eq_false_iff_ne]; rintro rfl; exact absurd hb.1 (by decide)
  rw[Lib.atoi,h45,h43];simp only[Bool.false_eq_true,if_false,Lib.decNat,List.isEmpty_cons];rw[decFrom_digits _ 0 h];rfl
theorem foldl_small:∀(l:List UInt8) (acc:Nat),l.length<=3->(∀c∈l,RK.isD c=true)->l.foldl (fun n c=>10 * n+(c.toNat-48)) acc<=(acc+1) * 10 ^ l.length
 | [],acc,_,_=>by simp
 | b :: r,acc,hl,h=>by
  have hb:=h b (by simp);simp only[RK.isD,Bool.and_eq_true,decide_eq_true_eq]at hb;have:=foldl_small r (10 * acc+(b.toNat-48)) (by simp at hl; omega) (fun c hc=>h c (by simp[hc]));simp only[List.foldl_cons,List.length_cons,Nat.pow_succ];refine Nat.le_trans this ?_;rw[Nat.mul_comm (10 ^ r.length) 10,<-Nat.mul_assoc];exact Nat.mul_le_mul_right _ (by omega)
theorem numL_small {l r:List UInt8} {n:Nat} (h:RK.numL l=some (n,r)):n<=1000:=by
 unfold RK.numL at h
 split at h
 · rename_i hc;obtain⟨h1,h2⟩:=Prod.mk.inj (Option.some.inj h);have:=foldl_small (l.takeWhile RK.isD) 0 hc.2 (fun c hc=>by have:=List.all_takeWhile (p:=RK.isD) (l:=l); exact List.all_eq_true.1 this c hc);rw[h1]at this;have h3:10 ^ (l.takeWhile RK.isD).length<=10 ^ 3:=Nat.pow_le_pow_right (by omega) hc.2;omega
 · cases h
end Go.Proofs.YtaffkceklkdokaaGreatDoor
/- Bounds of what the reader's places are. -/
namespace Go.Proofs.YtaffkceklkdokaaGreatDoor.RK
theorem skipL_len {c:UInt8} {l r:List UInt8} (h:skipL c l=some r):r.length+1=l.length:=by
 cases l with
 | nil=>cases h
 | cons d m =>
  simp only[skipL]at h
  split at h
  · cases h; rfl
  · cases h
theorem numL_len {l r:List UInt8} {n:Nat} (h:numL l=some (n,r)):r.length+1<=l.length:=by
 unfold numL at h
 split at h
 · rename_i hc;obtain⟨h1,h2⟩:=Prod.mk.inj (Option.some.inj h);have:=congrArg List.length (List.takeWhile_append_dropWhile (p:=isD) (l:=l));rw[List.length_append,h2]at this;omega
 · cases h
theorem twoL_len {l r:List UInt8} {x y:Nat} (h:twoL l=some (x,y,r)):r.length+3<=l.length/\x<=1000/\y<=1000:=by
 unfold twoL at h
 split at h
 ·
  rename_i a l1 e1
  split at h
  ·
   rename_i l2 e2
   split at h
   · rename_i b l3 e3;cases h;have:=numL_len e1;have:=skipL_len e2;have:=numL_len e3;exact⟨by omega,numL_small e1,numL_small e3⟩
   · cases h
  · cases h
 · cases h
def V:Nat->Nat
 | 0=>1000
 | k+1=>1000 * R k+V k+1000
/-- out and rest are no longer than what was read; the places are small -/
def Fine (k:Nat) (n:Nat) (p:List Nat × List UInt8):Prop:=p.1.length+p.2.length<=n/\∀y∈p.1,y<=V k
theorem rdL_fine {k:Nat} (hrec:∀l p,rd k l=some p->Fine k l.length p):∀(f:Nat) (out:List Nat) (l:List UInt8) (p:List Nat × List UInt8) (n:Nat),
  rdL (rd k) (R k) f out l=some p->out.length+l.length<=n->(∀y∈out,y<=V (k+1))->Fine (k+1) n p:=by
 intro f
 induction f with
 | zero=>intro out l p n h; cases h
 | succ f ih =>
  intro out l p n h hn hv;rw[rdL]at h
  split at h
  ·
   rename_i l1 e1
   split at h
   ·
    rename_i s l2 e2
    split at h
    ·
     rename_i l3 e3
     split at h
     ·
      rename_i ys l4 e4;have h1:=skipL_len e1;have h2:=numL_len e2;have h3:=skipL_len e3;obtain⟨h4,h5⟩:=hrec _ _ e4;have hs:=numL_small e2;refine ih _ _ _ _ h ?_ ?_
      · rw[List.length_append,List.length_map];simp only at h4;omega
      ·
       intro y hy;rcases List.mem_append.1 hy with hy | hy
       · exact hv y hy
       · obtain⟨z,hz,rfl⟩:=List.mem_map.1 hy;have:=h5 z hz;have h6:s * R k<=1000 * R k:=Nat.mul_le_mul_right _ hs;simp only[V]; omega
     · cases h
    · cases h
   · cases h
  ·
   split at h
   · rename_i l1 e1;cases h;have h1:=skipL_len e1;exact⟨by simp only; omega,hv⟩
   · cases h
theorem rd_fine:∀(k:Nat) (l:List UInt8) (p:List Nat × List UInt8),rd k l=some p->Fine k l.length p:=by
 intro k
 induction k with
 | zero =>
  intro l p h;rw[rd]at h
  split at h
  · rename_i l1 e1;cases h;have:=skipL_len e1;exact⟨by simp only[List.length_nil]; omega,by intro y hy; cases hy⟩
  ·
   split at h
   · rename_i x y l1 e1;cases h;obtain⟨h1,h2,h3⟩:=twoL_len e1;refine⟨by simp only[List.length_cons,List.length_nil]; omega,?_⟩;intro z hz;simp only[List.mem_cons,List.not_mem_nil,or_false]at hz;rcases hz with rfl | rfl <;> simp only[V] <;> omega
   · cases h
 | succ k ih =>
  intro l p h;rw[rd]at h
  split at h
  · rename_i l1 e1;cases h;have:=skipL_len e1;exact⟨by simp only[List.length_nil]; omega,by intro y hy; cases hy⟩
  ·
   split at h
   ·
    rename_i x y l1 e1;obtain⟨h1,h2,h3⟩:=twoL_len e1;have hx:∀z∈[x],z<=V (k+1):=by
     intro z hz;rw[List.mem_singleton.1 hz];simp only[V]; omega
    split at h
    ·
     rename_i l2 e2;have h4:=skipL_len e2
     split at h
     · rename_i l3 e3;cases h;have h5:=skipL_len e3;exact⟨by simp only[List.length_cons,List.length_nil]; omega,hx⟩
     ·
      split at h
      · rename_i q l3 e3;have h5:=(ih _ _ e3).1;simp only at h5;exact rdL_fine ih _ _ _ _ _ h (by simp only[List.length_cons,List.length_nil]; omega) hx
      · cases h
    · cases h
   · cases h
theorem V_le {k:Nat} (h:k<=3):V k<=30000:=by
 rcases (by omega:k=0∨k=1∨k=2∨k=3) with rfl | rfl | rfl | rfl <;> decide
end Go.Proofs.YtaffkceklkdokaaGreatDoor.RK
/- The reader: number, the walk. -/
namespace Go.Proofs.YtaffkceklkdokaaGreatDoor
open Go.RowKit
attribute [local go_sem ↓] Go.wp_at_zero Go.wp_at_succ
theorem take_left2 {a b l:List UInt8} (h:a ++ b=l):l.take a.length=a:=by subst h; simp
theorem drop_left2 {a b l:List UInt8} (h:a ++ b=l):l.drop a.length=b:=by subst h; simp
theorem ext_left {l:List UInt8} {n:Nat} (hn:(l.takeWhile RK.isD).length=n):(⟨l.toArray⟩:ByteArray).extract 0 n=⟨(l.takeWhile RK.isD).toArray⟩:=by
 apply ByteArray.ext;have h:=take_left2 (List.takeWhile_append_dropWhile (p:=RK.isD) (l:=l));rw[hn]at h;simp[ByteArray.data_extract,h]
theorem ext_right {l:List UInt8} {n:Nat} (hn:(l.takeWhile RK.isD).length=n):(⟨l.toArray⟩:ByteArray).extract n l.length=⟨(l.dropWhile RK.isD).toArray⟩:=by
 apply ByteArray.ext;have h:=drop_left2 (List.takeWhile_append_dropWhile (p:=RK.isD) (l:=l));rw[hn]at h;have h2:(l.dropWhile RK.isD).length<=l.length-n:=by rw[<-h,List.length_drop]; exact Nat.le_refl _
 simp[ByteArray.data_extract,h,List.take_of_length_le h2]
abbrev trouble (c:Int):Ending:=.panicked [{ v:=.iface 146 (.agg #[.int .i64 c]),recovered:=false }]
/-- what number does -/
def NumPost (rb:Nat) (l:List UInt8) (w:World) (e:Ending) (w':World):Prop :=
 (RK.numL l=none/\e=trouble 4/\BelX [rb] w w')∨∃n r,RK.numL l=some (n,r)/\e=.returned (.int .i64 (n:Nat))/\RdIs w' rb r/\BelX [rb] w w'
theorem number_any (rb:Nat) (l:List UInt8) (w:World) (hl:l.length<=1000000) (h:RdIs w rb l) :
  Calls Tryz.prog 106 #[.pointer (some ⟨rb,0,none⟩)] w (NumPost rb l w):=by
 obtain⟨n,hn⟩:∃n,(l.takeWhile RK.isD).length=n:=⟨_,rfl⟩
 by_cases hc:1<=n/\n<=3
 ·
  have hk:RK.numL l=some ((l.takeWhile RK.isD).foldl (fun n c=>10 * n+(c.toNat-48)) 0,l.dropWhile RK.isD):=by
   unfold RK.numL;rw[hn,if_pos hc]
  have hat:=atoi_digits (l:=l.takeWhile RK.isD) (fun c hc=>by have:=List.all_takeWhile (p:=RK.isD) (l:=l); exact List.all_eq_true.1 this c hc) (by omega);obtain⟨v,hv⟩:∃v,(l.takeWhile RK.isD).foldl (fun n c=>10 * n+(c.toNat-48)) 0=v:=⟨_,rfl⟩
  rw[hv]at hk hat;have hA:=fun wx=>atoi_ok (l.takeWhile RK.isD) v wx (by omega) hat;obtain⟨d,hdd⟩:∃d:ByteArray,d=⟨(l.takeWhile RK.isD).toArray⟩:=⟨_,rfl⟩
  simp only[<-hdd]at hA;have hex1:(⟨l.toArray⟩:ByteArray).extract 0 n=d:=by rw[hdd]; exact ext_left hn
  have hex2:=ext_right hn;have HK:=Lib.hid hk;have HA:=Lib.hid hA;have h13:(decide ((1:Int)<=(n:Int)) && decide ((n:Int)<=3))=true:=by simp; omega
  have H13:=Lib.hid h13;have HC:=Lib.hid hc;obtain⟨s,hs⟩:∃s:ByteArray,s=⟨l.toArray⟩:=⟨_,rfl⟩
  obtain⟨t,ht⟩:∃t:ByteArray,t=⟨(l.dropWhile RK.isD).toArray⟩:=⟨_,rfl⟩
  have hss:s.size=l.length:=by rw[hs,str_size]
  have hts:t.size=(l.dropWhile RK.isD).length:=by rw[ht,str_size]
  have hln:l.length=n+(l.dropWhile RK.isD).length:=by
   have:=congrArg List.length (List.takeWhile_append_dropWhile (p:=RK.isD) (l:=l));rw[List.length_append,hn]at this;exact this.symm
  have hd:(s.size:Int)-(t.size:Int)=(n:Int):=by rw[hss,hts,hln]; omega
  have hnb:n<=1000000:=by omega
  have hwn:IntKind.i64.wrap (n:Int)=n:=by simp[IntKind.wrap,IntKind.signed,IntKind.bits]; omega
  have hT:=fun wx=>trim_any l wx;simp only[<-hs,<-ht]at hT;have h0:w.heap[rb]?=some (.cells #[.string s] 150 (0,0)):=by rw[hs]; exact h
  have c0:=cell_of_row w rb 0 _ _ _ h0;have hrb:=blk_lt h0;have HT:=Lib.hid (show ∀wx,Calls Tryz.prog 132 #[.string s,.string ⟨#[48,49,50,51,52,53,54,55,56,57]⟩] wx fun e w'=>e=.returned (.string t)/\Below wx.heap.size wx w' from hT);have HW:=Lib.hid (fun a b c wx=>within_any a b c wx);have HH0:=Lib.hid h0;rw[<-hs,<-ht,<-hss]at hex2; rw[<-hs]at hex1; have hns:n<=s.size:=(by omega); have HTT:=Lib.hid ht; clear hT h0 h hs ht hss hts hln hk hA hat hv hdd h13 hc hn hl;go_enter Tryz.func106,Tryz.ntmps106;go_upto_region 1 with fail;refine with_act fun a0 ha0=>?_;have hsz0:a0.tmps.size=41:=by rw[ha0]; rfl
  refine wp_region_vals (W0:=w) (by kernel_rfl) (by kernel_rfl) [(6,.pointer (some ⟨rb,0,none⟩)),(7,.pointer (some ⟨rb,0,none⟩)),(8,.pointer (some ⟨rb,0,none⟩)),(9,.string s),(10,.int .i64 s.size),(11,.pointer (some ⟨rb,0,none⟩)),(12,.pointer (some ⟨rb,0,none⟩)),(13,.pointer (some ⟨rb,0,none⟩)),(14,.string s),(15,.string t),(16,.int .i64 t.size),(17,.int .i64 n),(3,.int .i64 n)] rfl (by show([6,7,8,9,10,11,12,13,14,15,16,17,3]:List Nat).Nodup; decide) _ hsz0 (by kernel_rfl) (BelX.start _ _) ⟨⟨rfl,?y1v0⟩,⟨rfl,?y1v1⟩,⟨rfl,?y1v2⟩,⟨rfl,?y1v3⟩,⟨rfl,?y1v4⟩,⟨rfl,?y1v5⟩,⟨rfl,?y1v6⟩,⟨rfl,?y1v7⟩,⟨rfl,?y1v8⟩,⟨rfl,?y1v9⟩,⟨rfl,?y1v10⟩,⟨rfl,?y1v11⟩,⟨rfl,?y1v12⟩,trivial⟩ ?y1done
  case y1v0 =>
   exact mvVi rfl rfl rfl (by kernel_rfl) (by rw[ha0]; rfl)
  case y1v1 =>
   intro a' w' hA hdep hX K hK;obtain⟨r6,q6⟩:=dpv hdep ⟨0,.data⟩ (by simp) rfl rfl;clear hdep ha0 hA;refine StepG.value (wanted_none rfl) rfl ?_ (hK _ hX);simp[go_sem, *]
  case y1v2 =>
   intro a' w' hA hdep hX K hK;obtain⟨r7,q7⟩:=dpv hdep ⟨1,.data⟩ (by simp) rfl rfl;clear hdep ha0 hA;refine StepG.value (wanted_none rfl) rfl ?_ (hK _ hX);simp[go_sem, *]
  case y1v3 =>
   intro a' w' hA hdep hX K hK;obtain⟨r8,q8⟩:=dpv hdep ⟨2,.data⟩ (by simp) rfl rfl;have kc0:w'.cell? ⟨rb,0,none⟩=some (.string s):=hX.cell (by simp) (by first | assumption | (go_simp; done) | (simp; done));clear hdep ha0 hA;refine StepG.value (wanted_none rfl) rfl ?_ (hK _ hX);simp[go_sem, *]
  case y1v4 =>
   intro a' w' hA hdep hX K hK;obtain⟨r9,q9⟩:=dpv hdep ⟨3,.data⟩ (by simp) rfl rfl;clear hdep ha0 hA;refine StepG.value (wanted_none rfl) rfl ?_ (hK _ hX);simp[go_sem, *]
  case y1v5 =>
   exact mvVi rfl rfl rfl (by kernel_rfl) (by rw[ha0]; rfl)
  case y1v6 =>
   intro a' w' hA hdep hX K hK;obtain⟨r11,q11⟩:=dpv hdep ⟨5,.data⟩ (by simp) rfl rfl;clear hdep ha0 hA;refine StepG.value (wanted_none rfl) rfl ?_ (hK _ hX);simp[go_sem, *]
  case y1v7 =>
   intro a' w' hA hdep hX K hK;obtain⟨r12,q12⟩:=dpv hdep ⟨6,.data⟩ (by simp) rfl rfl;clear hdep ha0 hA;refine StepG.value (wanted_none rfl) rfl ?_ (hK _ hX);simp[go_sem, *]
  case y1v8 =>
   intro a' w' hA hdep hX K hK;obtain⟨r13,q13⟩:=dpv hdep ⟨7,.data⟩ (by simp) rfl rfl;have kc0:w'.cell? ⟨rb,0,none⟩=some (.string s):=hX.cell (by simp) (by first | assumption | (go_simp; done) | (simp; done));clear hdep ha0 hA;refine StepG.value (wanted_none rfl) rfl ?_ (hK _ hX);simp[go_sem, *]
  case y1v9 =>
   intro a' w' hA hdep hX K hK;obtain⟨r14,q14⟩:=dpv hdep ⟨8,.data⟩ (by simp) rfl rfl;clear hdep ha0 hA;refine StepG.call (wanted_none rfl) rfl ?_ ((HT.out w')) (fun w2 hb=>hK _ (hX.call hb));simp[go_sem, *]
  case y1v10 =>
   intro a' w' hA hdep hX K hK;obtain⟨r15,q15⟩:=dpv hdep ⟨9,.data⟩ (by simp) rfl rfl;clear hdep ha0 hA;refine StepG.value (wanted_none rfl) rfl ?_ (hK _ hX);simp[go_sem, *]
  case y1v11 =>
   intro a' w' hA hdep hX K hK;obtain⟨r10,q10⟩:=dpv hdep ⟨4,.data⟩ (by simp) rfl rfl;obtain⟨r16,q16⟩:=dpv hdep ⟨10,.data⟩ (by simp) rfl rfl;clear hdep ha0 hA;refine StepG.value (wanted_none rfl) rfl ?_ (hK _ hX);simp[go_sem, *]
  case y1v12 =>
   intro a' w' hA hdep hX K hK;obtain⟨r17,q17⟩:=dpv hdep ⟨11,.data⟩ (by simp) rfl rfl;clear hdep ha0 hA;refine StepG.value (wanted_none rfl) rfl ?_ (hK _ hX);simp[go_sem, *]
  intro w2 hXR;rw[ha0]; simp only[putL,Act.put,sA_,sZ_,sS_];clear ha0 hsz0;have B2:Below w.heap.size w w2:=hXR.below (by first | assumption | exact(by repeat (first | exact Below.refl _ _ | exact Nat.le_refl _ | refine Below.alloc ?_ ?_ _ | refine Below.setCell ?_ ?_ _ | refine Below.drew ?_ | refine bl_drewN ?_ _ | (assumption) | refine bl_call ?_ (by assumption) ?_ | omega | (simp <;> omega)))) (by first | omega | (simp <;> omega)) (by simp);have hg2:=(B2.block rb hrb).trans HH0.out;have c0':=cell_of_row w2 rb 0 _ _ _ hg2;have fz2:=row_f hg2;have HG2:=Lib.hid hg2;have zr2:=B2.size;clear hg2 c0;go_wp2_with fail;refine(HW.out _ _ _ _).mono ?_;rintro e w3 ⟨rfl,rfl⟩;rw[H13.out];go_wp2_with fail;refine(demand_ok _ _).mono ?_;rintro e w4 ⟨rfl,rfl⟩;go_wp2_with fail;refine(HA.out _).mono ?_;rintro e w5 ⟨rfl,hb5⟩;have B5:Below w.heap.size w w5:=bl_call B2 hb5 (by omega);have hg5:=(B5.block rb hrb).trans HH0.out;clear c0' fz2;have c5:=cell_of_row w5 rb 0 _ _ _ hg5;have fz5:=row_f hg5;have HP:=Lib.hid (show RdIs (w5.setCell ⟨rb,0,none⟩ (.string t)) rb (l.dropWhile RK.isD) by
   unfold RdIs;rw[<-HTT.out];simp[World.setCell,Array.getElem?_modify,hg5])
  have HX:=Lib.hid (show BelX [rb] w (w5.setCell ⟨rb,0,none⟩ (.string t)) from BelX.setOld ⟨B5.os,B5.tape,B5.output,B5.size,fun k hk _=>B5.block k hk⟩ (p:=⟨rb,0,none⟩) (by simp) _);clear hg5;go_wp2_with fail
  go_ret
  exact .inr ⟨v,_,HK.out,rfl,HP.out,HX.out⟩
 ·
  have hk:RK.numL l=none:=by
   unfold RK.numL;rw[hn,if_neg hc]
  have HK:=Lib.hid hk;have h13:(decide ((1:Int)<=(n:Int)) && decide ((n:Int)<=3))=false:=by simp; omega
  have H13:=Lib.hid h13;obtain⟨s,hs⟩:∃s:ByteArray,s=⟨l.toArray⟩:=⟨_,rfl⟩
  obtain⟨t,ht⟩:∃t:ByteArray,t=⟨(l.dropWhile RK.isD).toArray⟩:=⟨_,rfl⟩
  have hss:s.size=l.length:=by rw[hs,str_size]
  have hts:t.size=(l.dropWhile RK.isD).length:=by rw[ht,str_size]
  have hln:l.length=n+(l.dropWhile RK.isD).length:=by
   have:=congrArg List.length (List.takeWhile_append_dropWhile (p:=RK.isD) (l:=l));rw[List.length_append,hn]at this;exact this.symm
  have hd:(s.size:Int)-(t.size:Int)=(n:Int):=by rw[hss,hts,hln]; omega
  have hnb:n<=1000000:=by omega
  have hwn:IntKind.i64.wrap (n:Int)=n:=by simp[IntKind.wrap,IntKind.signed,IntKind.bits]; omega
  have hT:=fun wx=>trim_any l wx;simp only[<-hs,<-ht]at hT;have h0:w.heap[rb]?=some (.cells #[.string s] 150 (0,0)):=by rw[hs]; exact h
  have c0:=cell_of_row w rb 0 _ _ _ h0;have hrb:=blk_lt h0;have HT:=Lib.hid (show ∀wx,Calls Tryz.prog 132 #[.string s,.string ⟨#[48,49,50,51,52,53,54,55,56,57]⟩] wx fun e w'=>e=.returned (.string t)/\Below wx.heap.size wx w' from hT);have HW:=Lib.hid (fun a b c wx=>within_any a b c wx);have HH0:=Lib.hid h0;clear hT h0 h hs ht hss hts hln hk h13 hc hn hl;go_enter Tryz.func106,Tryz.ntmps106;go_upto_region 1 with fail;refine with_act fun a0 ha0=>?_;have hsz0:a0.tmps.size=41:=by rw[ha0]; rfl
  refine wp_region_vals (W0:=w) (by kernel_rfl) (by kernel_rfl) [(6,.pointer (some ⟨rb,0,none⟩)),(7,.pointer (some ⟨rb,0,none⟩)),(8,.pointer (some ⟨rb,0,none⟩)),(9,.string s),(10,.int .i64 s.size),(11,.pointer (some ⟨rb,0,none⟩)),(12,.pointer (some ⟨rb,0,none⟩)),(13,.pointer (some ⟨rb,0,none⟩)),(14,.string s),(15,.string t),(16,.int .i64 t.size),(17,.int .i64 n),(3,.int .i64 n)] rfl (by show([6,7,8,9,10,11,12,13,14,15,16,17,3]:List Nat).Nodup; decide) _ hsz0 (by kernel_rfl) (BelX.start _ _) ⟨⟨rfl,?y2v0⟩,⟨rfl,?y2v1⟩,⟨rfl,?y2v2⟩,⟨rfl,?y2v3⟩,⟨rfl,?y2v4⟩,⟨rfl,?y2v5⟩,⟨rfl,?y2v6⟩,⟨rfl,?y2v7⟩,⟨rfl,?y2v8⟩,⟨rfl,?y2v9⟩,⟨rfl,?y2v10⟩,⟨rfl,?y2v11⟩,⟨rfl,?y2v12⟩,trivial⟩ ?y2done
  case y2v0 =>
   exact mvVi rfl rfl rfl (by kernel_rfl) (by rw[ha0]; rfl)
  case y2v1 =>
   intro a' w' hA hdep hX K hK;obtain⟨r6,q6⟩:=dpv hdep ⟨0,.data⟩ (by simp) rfl rfl;clear hdep ha0 hA;refine StepG.value (wanted_none rfl) rfl ?_ (hK _ hX);simp[go_sem, *]
  case y2v2 =>
   intro a' w' hA hdep hX K hK;obtain⟨r7,q7⟩:=dpv hdep ⟨1,.data⟩ (by simp) rfl rfl;clear hdep ha0 hA;refine StepG.value (wanted_none rfl) rfl ?_ (hK _ hX);simp[go_sem, *]
  case y2v3 =>
   intro a' w' hA hdep hX K hK;obtain⟨r8,q8⟩:=dpv hdep ⟨2,.data⟩ (by simp) rfl rfl;have kc0:w'.cell? ⟨rb,0,none⟩=some (.string s):=hX.cell (by simp) (by first | assumption | (go_simp; done) | (simp; done));clear hdep ha0 hA;refine StepG.value (wanted_none rfl) rfl ?_ (hK _ hX);simp[go_sem, *]
  case y2v4 =>
   intro a' w' hA hdep hX K hK;obtain⟨r9,q9⟩:=dpv hdep ⟨3,.data⟩ (by simp) rfl rfl;clear hdep ha0 hA;refine StepG.value (wanted_none rfl) rfl ?_ (hK _ hX);simp[go_sem, *]
  case y2v5 =>
   exact mvVi rfl rfl rfl (by kernel_rfl) (by rw[ha0]; rfl)
  case y2v6 =>
   intro a' w' hA hdep hX K hK;obtain⟨r11,q11⟩:=dpv hdep ⟨5,.data⟩ (by simp) rfl rfl;clear hdep ha0 hA;refine StepG.value (wanted_none rfl) rfl ?_ (hK _ hX);simp[go_sem, *]
  case y2v7 =>
   intro a' w' hA hdep hX K hK;obtain⟨r12,q12⟩:=dpv hdep ⟨6,.data⟩ (by simp) rfl rfl;clear hdep ha0 hA;refine StepG.value (wanted_none rfl) rfl ?_ (hK _ hX);simp[go_sem, *]
  case y2v8 =>
   intro a' w' hA hdep hX K hK;obtain⟨r13,q13⟩:=dpv hdep ⟨7,.data⟩ (by simp) rfl rfl;have kc0:w'.cell? ⟨rb,0,none⟩=some (.string s):=hX.cell (by simp) (by first | assumption | (go_simp; done) | (simp; done));clear hdep ha0 hA;refine StepG.value (wanted_none rfl) rfl ?_ (hK _ hX);simp[go_sem, *]
  case y2v9 =>
   intro a' w' hA hdep hX K hK;obtain⟨r14,q14⟩:=dpv hdep ⟨8,.data⟩ (by simp) rfl rfl;clear hdep ha0 hA;refine StepG.call (wanted_none rfl) rfl ?_ ((HT.out w')) (fun w2 hb=>hK _ (hX.call hb));simp[go_sem, *]
  case y2v10 =>
   intro a' w' hA hdep hX K hK;obtain⟨r15,q15⟩:=dpv hdep ⟨9,.data⟩ (by simp) rfl rfl;clear hdep ha0 hA;refine StepG.value (wanted_none rfl) rfl ?_ (hK _ hX);simp[go_sem, *]
  case y2v11 =>
   intro a' w' hA hdep hX K hK;obtain⟨r10,q10⟩:=dpv hdep ⟨4,.data⟩ (by simp) rfl rfl;obtain⟨r16,q16⟩:=dpv hdep ⟨10,.data⟩ (by simp) rfl rfl;clear hdep ha0 hA;refine StepG.value (wanted_none rfl) rfl ?_ (hK _ hX);simp[go_sem, *]
  case y2v12 =>
   intro a' w' hA hdep hX K hK;obtain⟨r17,q17⟩:=dpv hdep ⟨11,.data⟩ (by simp) rfl rfl;clear hdep ha0 hA;refine StepG.value (wanted_none rfl) rfl ?_ (hK _ hX);simp[go_sem, *]
  intro w2 hXR;rw[ha0]; simp only[putL,Act.put,sA_,sZ_,sS_];clear ha0 hsz0;have B2:Below w.heap.size w w2:=hXR.below (by first | assumption | exact(by repeat (first | exact Below.refl _ _ | exact Nat.le_refl _ | refine Below.alloc ?_ ?_ _ | refine Below.setCell ?_ ?_ _ | refine Below.drew ?_ | refine bl_drewN ?_ _ | (assumption) | refine bl_call ?_ (by assumption) ?_ | omega | (simp <;> omega)))) (by first | omega | (simp <;> omega)) (by simp);have hg2:=(B2.block rb hrb).trans HH0.out;have c0':=cell_of_row w2 rb 0 _ _ _ hg2;have fz2:=row_f hg2;have HG2:=Lib.hid hg2;have zr2:=B2.size;clear hg2 c0;go_wp2_with fail;refine(HW.out _ _ _ _).mono ?_;rintro e w3 ⟨rfl,rfl⟩;rw[H13.out];go_wp2_with (first | (go_at_call 96; refine(demand_no _ _).mono ?_; rintro e w' ⟨rfl,rfl⟩) | fail)
  exact⟨rfl,.inl ⟨HK.out,rfl,⟨B2.os,B2.tape,B2.output,B2.size,fun k hk _=>B2.block k hk⟩⟩⟩
open Go.RowKit
attribute [local go_sem ↓] Go.wp_at_zero Go.wp_at_succ
theorem infoInt:(Tryz.prog.info? 3).map (fun i=>(i.zero,i.size,i.bytes))=some (some (.int .i64 0),1,8):=by kernel_rfl
def ints (l:List Nat):List Value:=l.map fun(n:Nat)=>.int .i64 n
theorem ints_append (l:List Nat) (n:Nat):ints (l ++ [n])=ints l ++ [.int .i64 n]:=by simp[ints]
theorem cell_one_new (w:World) (a:Value) (t:TypeId):∀j u,[a][j]?=some u->(w.alloc (.cells #[a] t)).cell? ((⟨w.heap.size,0,none⟩:Addr).add j)=some u:=by
 intro j u hj
 match j,hj with
 | 0,hj=>simp at hj; subst hj; simp[Addr.add]
 | j+1,hj=>simp at hj
theorem one_cell (x:Int):∀u∈[Value.int .i64 x],u.oneCell'=true:=by intro u hu; simp at hu; subst hu; rfl
theorem own_below {w w':World} {B e size n:Nat} {v:Value} {xs:List Value} (h:w.ownsRow B e size v n xs) (hb:Below w.heap.size w w'):w'.ownsRow B e size v n xs:=by
 obtain⟨h1,h2⟩:=h;refine⟨h1,?_⟩;rcases h2 with h2 | ⟨g,cap,cur,h3,h4,h5,h6⟩
 · exact .inl h2
 · exact .inr ⟨g,cap,cur,h3,h4,(hb.block g (blk_lt h5)).trans h5,h6⟩
/-- the places below a bound -/
def below (m:RK.S) (j:Nat):List Nat:=(List.range j).filter m
theorem below_succ (m:RK.S) (j:Nat):below m (j+1)=below m j ++ (if m j=true then [j] else []):=by
 unfold below;rw[List.range_succ,List.filter_append]
 by_cases h:m j=true <;> simp[h]
theorem below_len (m:RK.S) (j:Nat):(below m j).length<=j:=by
 have:=List.length_filter_le m (List.range j);rw[List.length_range]at this;exact this
theorem list_any (k : Nat) (v : Value) (m : RK.S) (F : Nat -> Prop) (w : World) (hk : k <= 3) (h : Rep ty k w v m F) :
    Calls Tryz.prog 77 #[v, .int .i64 (k : Int)] w fun e w' => ∃ sv, e = .returned sv /\ w'.ownsRow w.heap.size 3 1 sv (RK.lst k m).length (ints (RK.lst k m)) /\ Below w.heap.size w w' := by
  obtain ⟨i0, hi, hz0, hz1, hz2⟩ := info_parts infoInt
  have hP := fun wx => places_any (k : Int) k wx rfl hk
  have hH := fun (x : Nat) (wx : World) (hx : x < RK.R k) (hb : Below w.heap.size w wx) => has_any k (k : Int) v m F x wx rfl hk (h.below hb) hx
  have hR := RK.R_le hk
  have hlst : RK.lst k m = below m (RK.R k) := rfl
  rw [hlst]
  obtain ⟨p, hp⟩ : ∃ p, RK.R k = p := ⟨_, rfl⟩
  simp only [hp] at hP hH hR ⊢
  have HP := Lib.hid hP
  have HH := Lib.hid hH
  clear hP hH hlst hp h
  go_enter Tryz.func77, Tryz.ntmps77
  go_wp2_with fail
  refine (HP.out _).mono ?_
  rintro e w1 ⟨rfl, rfl⟩
  go_upto_region 3 with fail
  go_loopw [9, 5] (fun x v wr => ∃ j : Nat, x = .int .i64 j /\ j <= p /\ wr.ownsRow w.heap.size 3 1 v (below m j).length (ints (below m j)) /\ Below w.heap.size w wr) (fun x _ _ => p - (intOf x).toNat)
  case atStart => exact ⟨0, rfl, by omega, World.ownsRow_nil _ _ _ _, (by repeat (first | exact Below.refl _ _ | exact Nat.le_refl _ | refine Below.alloc ?_ ?_ _ | refine Below.setCell ?_ ?_ _ | refine Below.drew ?_ | refine bl_drewN ?_ _ | (assumption) | refine bl_call ?_ (by assumption) ?_ | omega | (simp <;> omega)))⟩
  case round =>
    obtain ⟨j, rfl, hj, hw, B⟩ := hrel
    have hbl := below_len m j
    obtain ⟨L, hL⟩ : ∃ L, (below m j).length = L := ⟨_, rfl⟩
    by_cases hjp : j < p
    · have hs := below_succ m j
      have HW := Lib.hid hw
      have zr := B.size
      by_cases hm : m j = true
      · rw [if_pos hm] at hs
        have HS := Lib.hid hs
        have hHj := fun wx hb => HH.out j wx hjp hb
        rw [hm] at hHj
        have HHj := Lib.hid hHj
        clear hHj hs hm hw
        go_wp2_with fail
        refine (HHj.out _ B).mono ?_
        rintro e w2 ⟨rfl, hb2⟩
        have B2 : Below w.heap.size w w2 := bl_call B hb2 (by omega)
        have zr2 := B2.size
        have hw2 := own_below HW.out hb2
        clear HW
        go_wp2_with (first
          | (at_builtin; refine wpList_append_own _ rfl _ _ 22 rfl w.heap.size 3 i0 (.int .i64 0) 1 8 Tryz.underlying22 hi hz0 hz1 hz2 rfl (by decide) _ _ _ rfl (hw2.alloc _) ⟨w2.heap.size, 0, none⟩ 1 1 [.int .i64 (j : Nat)] rfl rfl (cell_one_new _ _ _) (one_cell _) (by unfold maxLen; omega) (by omega) (by have := B2.size; simp; omega) ?_; intro v' w3 hown' hgrow3 hnil3
             have hbw3 : Below w.heap.size w w3 := Below.grown (B2.alloc (by have := B2.size; omega) _) hgrow3 (by have := B2.size; simp; omega) (fun q hq => by have := (hw2.lt _ hq).1; omega)
             rw [<- ints_append] at hown'
             have HO := Lib.hid hown'
             clear hown' hgrow3 hnil3)
          | fail)
        go_roundw
        case rel =>
          refine ⟨j + 1, by simp, by omega, ?_, hbw3⟩
          rw [HS.out, List.length_append, List.length_singleton]
          exact HO.out
        case measure => simp [intOf]; omega
      · have hmf : m j = false := by simpa using hm
        rw [if_neg hm, List.append_nil] at hs
        have HS := Lib.hid hs
        have hHj := fun wx hb => HH.out j wx hjp hb
        rw [hmf] at hHj
        have HHj := Lib.hid hHj
        clear hHj hs hm hmf
        go_wp2_with fail
        refine (HHj.out _ B).mono ?_
        rintro e w2 ⟨rfl, hb2⟩
        have B2 : Below w.heap.size w w2 := bl_call B hb2 (by omega)
        have zr2 := B2.size
        go_wp2_with fail
        go_roundw
        case rel =>
          refine ⟨j + 1, by simp, by omega, ?_, B2⟩
          rw [HS.out]
          exact own_below HW.out hb2
        case measure => simp [intOf]; omega
    · obtain rfl : j = p := by omega
      have HW := Lib.hid hw
      clear hw
      go_wp2_with fail
      go_ret
      exact ⟨_, rfl, HW.out, B⟩
open Go.RowKit
attribute [local go_sem ↓] Go.wp_at_zero Go.wp_at_succ
open Go.RowKit
attribute [local go_sem ↓] Go.wp_at_zero Go.wp_at_succ
/-- what places does -/
def PlPost (rb k:Nat) (l:List UInt8) (w:World) (e:Ending) (w':World):Prop :=
 (RK.rd k l=none/\e=trouble 4/\BelX [rb] w w')∨∃out r sv,RK.rd k l=some (out,r)/\e=.returned sv/\w'.ownsRow w.heap.size 3 1 sv out.length (ints out)/\RdIs w' rb r/\BelX [rb] w w'
theorem BelX.trans' {bs:List Nat} {w w' w2:World} (h:BelX bs w w') (h2:BelX bs w' w2):BelX bs w w2 :=
 ⟨h2.os.trans h.os,h2.tape.trans h.tape,h2.output.trans h.output,Nat.le_trans h.size h2.size,fun k hk hn=>(h2.block k (Nat.lt_of_lt_of_le hk h.size) hn).trans (h.block k hk hn)⟩
theorem own_belX {w w':World} {B e size n rb:Nat} {v:Value} {xs:List Value} (h:w.ownsRow B e size v n xs) (hX:BelX [rb] w w') (hB:rb < B):w'.ownsRow B e size v n xs:=by
 obtain⟨h1,h2⟩:=h;refine⟨h1,?_⟩;rcases h2 with h2 | ⟨g,cap,cur,h3,h4,h5,h6⟩
 · exact .inl h2
 · exact .inr ⟨g,cap,cur,h3,h4,(hX.block g (blk_lt h5) (by simp; omega)).trans h5,h6⟩
theorem RdIs.alloc {w:World} {rb:Nat} {l:List UInt8} (h:RdIs w rb l) (o:Obj):RdIs (w.alloc o) rb l:=blk_old h
theorem places_zero (rb : Nat) (l : List UInt8) (w : World) (hl : l.length <= 1000000) (h : RdIs w rb l) :
    Calls Tryz.prog 95 #[.pointer (some ⟨rb, 0, none⟩), .int .i64 0] w (PlPost rb 0 l w) := by
  obtain ⟨i0, hi, hz0, hz1, hz2⟩ := info_parts infoInt
  have HS := Lib.hid (fun c l' wx (hl : l'.length <= 1000000) h => skip_any rb c l' wx hl h)
  have HN := Lib.hid (fun l' wx (hl : l'.length <= 1000000) h => number_any rb l' wx hl h)
  have HR := Lib.hid h
  have hrb := blk_lt h
  clear h
  go_enter Tryz.func95, Tryz.ntmps95
  go_wp2_with fail
  refine (HS.out 45 l w hl HR.out).mono ?_
  rintro e w1 (⟨hk, rfl, rfl⟩ | ⟨r, hk, rfl, hr, hx⟩)
  · have HK := Lib.hid hk
    clear hk
    go_wp2_with fail
    refine (HN.out l w hl HR.out).mono ?_
    rintro e w1 (⟨hn, rfl, hx⟩ | ⟨x, l1, hn, rfl, hr1, hx1⟩)
    · have HP := Lib.hid (show RK.rd 0 l = none by rw [RK.rd, HK.out]; simp only [RK.twoL, hn])
      have HX := Lib.hid hx
      clear hn hx
      go_wp2_with fail
      exact ⟨rfl, .inl ⟨HP.out, rfl, HX.out⟩⟩
    · have hl1 := RK.numL_len hn
      have HN1 := Lib.hid hn
      have HR1 := Lib.hid hr1
      have HX1 := Lib.hid hx1
      have zr1 := hx1.size
      clear hn hr1 hx1
      go_upto_region 4 with fail
      obtain ⟨w2, h2⟩ : ∃ wx : World, wx = w1.alloc (.cells #[.int .i64 x] 3) := ⟨_, rfl⟩
      rw [<- h2]
      have HR2 := Lib.hid (show RdIs w2 rb l1 by rw [h2]; exact HR1.out.alloc _)
      have HX2 := Lib.hid (show BelX [rb] w w2 by rw [h2]; exact HX1.out.alloc _)
      have zr2 := HX2.out.size
      have HO2 := Lib.hid (show w2.ownsRow w.heap.size 3 1 (.slice (some ⟨w1.heap.size, 0, none⟩) 1 1) 1 (ints [x]) by
        rw [h2]
        exact World.ownsRow_lit (base := w.heap.size) (e := 3) (size := 1) w1 #[.int .i64 (x : Nat)] 1 (by omega) (by decide) rfl)
      clear h2
      go_wp2_with fail
      refine (HS.out 58 l1 w2 (by omega) HR2.out).mono ?_
      rintro e w3 (⟨hk, rfl, rfl⟩ | ⟨l2, hk, rfl, hr, hx⟩)
      · have HP := Lib.hid (show RK.rd 0 l = none by rw [RK.rd, HK.out]; simp only [RK.twoL, HN1.out, hk])
        clear hk
        go_wp2_with (first | (go_at_call 96; refine (demand_no _ _).mono ?_; rintro e w' ⟨rfl, rfl⟩) | fail)
        exact ⟨rfl, .inl ⟨HP.out, rfl, HX2.out⟩⟩
      · have hl2 := RK.skipL_len hk
        have HK2 := Lib.hid hk
        have HR3 := Lib.hid hr
        have HX3 := Lib.hid (HX2.out.trans' hx)
        have HO3 := Lib.hid (own_belX HO2.out hx hrb)
        have zr3 := HX3.out.size
        clear hk hr hx
        go_wp2_with fail
        refine (demand_ok _ _).mono ?_
        rintro e w4 ⟨rfl, rfl⟩
        go_wp2_with fail
        refine (HN.out l2 w3 (by omega) HR3.out).mono ?_
        rintro e w5 (⟨hn, rfl, hx⟩ | ⟨y, l3, hn, rfl, hr, hx⟩)
        · have HP := Lib.hid (show RK.rd 0 l = none by rw [RK.rd, HK.out]; simp only [RK.twoL, HN1.out, HK2.out, hn])
          have HX := Lib.hid (HX3.out.trans' hx)
          clear hn hx
          go_wp2_with fail
          exact ⟨rfl, .inl ⟨HP.out, rfl, HX.out⟩⟩
        · have HP := Lib.hid (show RK.rd 0 l = some ([x, y], l3) by rw [RK.rd, HK.out]; simp only [RK.twoL, HN1.out, HK2.out, hn])
          have HX := Lib.hid (HX3.out.trans' hx)
          have HR5 := Lib.hid hr
          have hO5 := own_belX HO3.out hx hrb
          have zr5 := HX.out.size
          clear hn hx hr
          go_wp2_with (first
            | (at_builtin; refine wpList_append_own _ rfl _ _ 22 rfl w.heap.size 3 i0 (.int .i64 0) 1 8 Tryz.underlying22 hi hz0 hz1 hz2 rfl (by decide) _ _ _ rfl (hO5.alloc _) ⟨w5.heap.size, 0, none⟩ 1 1 [.int .i64 (y : Nat)] rfl rfl (cell_one_new _ _ _) (one_cell _) (by unfold maxLen; omega) (by omega) (by have := HX.out.size; simp; omega) ?_; intro v' w6 hown' hgrow6 hnil6
               have hb : Below w.heap.size (w5.alloc (.cells #[.int .i64 (y : Nat)] 3)) w6 := Below.grown (Below.refl _ _) hgrow6 (by have := HX.out.size; simp; omega) (fun q hq => by have := (hO5.lt _ hq).1; omega)
               have hXa := HX.out.alloc (.cells #[.int .i64 (y : Nat)] 3)
               have HX6 := Lib.hid (show BelX [rb] w w6 from ⟨hb.os.trans hXa.os, hb.tape.trans hXa.tape, hb.output.trans hXa.output, Nat.le_trans hXa.size hb.size, fun k hk hn => (hb.block k hk).trans (hXa.block k hk hn)⟩)
               have HR6 := Lib.hid (show RdIs w6 rb l3 from (hb.block rb hrb).trans (HR5.out.alloc _))
               clear hb hXa
               rw [<- ints_append] at hown'
               have HO := Lib.hid hown'
               clear hown' hgrow6 hnil6)
            | fail)
          go_ret
          exact .inr ⟨[x, y], l3, _, HP.out, rfl, HO.out, HR6.out, HX6.out⟩
  · have HP := Lib.hid (show RK.rd 0 l = some ([], r) by rw [RK.rd, hk])
    have HR1 := Lib.hid hr
    have HX := Lib.hid hx
    clear hk hr hx
    go_wp2_with fail
    go_ret
    exact .inr ⟨[], r, _, HP.out, rfl, World.ownsRow_nil _ _ _ _, HR1.out, HX.out⟩
open Go.RowKit
attribute [local go_sem ↓] Go.wp_at_zero Go.wp_at_succ
/-- how much is left to read -/
def rdLen (rb:Nat) (w:World):Nat:=match w.cell? ⟨rb,0,none⟩ with
 | some (.string s)=>s.size
 | _=>0
theorem rdLen_of {w:World} {rb:Nat} {l:List UInt8} (h:RdIs w rb l):rdLen rb w=l.length:=by
 have h0:w.heap[rb]?=some (.cells #[.string ⟨l.toArray⟩] 150 (0,0)):=h;rw[rdLen,cell_of_row w rb 0 _ _ _ h0];exact str_size l
theorem places_succ (k : Nat) (hk3 : k + 1 <= 3) (ih : ∀ (rb : Nat) (l : List UInt8) (w : World), l.length <= 1000000 -> RdIs w rb l ->
    Calls Tryz.prog 95 #[.pointer (some ⟨rb, 0, none⟩), .int .i64 (k : Int)] w (PlPost rb k l w))
    (rb : Nat) (l : List UInt8) (w : World) (hl : l.length <= 1000000) (h : RdIs w rb l) :
    Calls Tryz.prog 95 #[.pointer (some ⟨rb, 0, none⟩), .int .i64 ((k : Int) + 1)] w (PlPost rb (k + 1) l w) := by
  have hk0 : ¬ ((k : Int) + 1 = 0) := by omega
  have hwk := wrap_small (n := k) (by omega)
  have HI := Lib.hid ih
  clear ih
  obtain ⟨i0, hi, hz0, hz1, hz2⟩ := info_parts infoInt
  have HS := Lib.hid (fun c l' wx (hl : l'.length <= 1000000) h => skip_any rb c l' wx hl h)
  have HN := Lib.hid (fun l' wx (hl : l'.length <= 1000000) h => number_any rb l' wx hl h)
  have HR := Lib.hid h
  have hrb := blk_lt h
  clear h
  go_enter Tryz.func95, Tryz.ntmps95
  go_wp2_with fail
  refine (HS.out 45 l w hl HR.out).mono ?_
  rintro e w1 (⟨hk, rfl, rfl⟩ | ⟨r, hk, rfl, hr, hx⟩)
  · have HK := Lib.hid hk
    clear hk
    go_wp2_with fail
    refine (HN.out l w hl HR.out).mono ?_
    rintro e w1 (⟨hn, rfl, hx⟩ | ⟨x, l1, hn, rfl, hr1, hx1⟩)
    · have HP := Lib.hid (show RK.rd (k + 1) l = none by rw [RK.rd, HK.out]; simp only [RK.twoL, hn])
      have HX := Lib.hid hx
      clear hn hx
      go_wp2_with fail
      exact ⟨rfl, .inl ⟨HP.out, rfl, HX.out⟩⟩
    · have hl1 := RK.numL_len hn
      have HN1 := Lib.hid hn
      have HR1 := Lib.hid hr1
      have HX1 := Lib.hid hx1
      have zr1 := hx1.size
      clear hn hr1 hx1
      go_upto_region 4 with fail
      obtain ⟨w2, h2⟩ : ∃ wx : World, wx = w1.alloc (.cells #[.int .i64 x] 3) := ⟨_, rfl⟩
      rw [<- h2]
      have HR2 := Lib.hid (show RdIs w2 rb l1 by rw [h2]; exact HR1.out.alloc _)
      have HX2 := Lib.hid (show BelX [rb] w w2 by rw [h2]; exact HX1.out.alloc _)
      have zr2 := HX2.out.size
      have HO2 := Lib.hid (show w2.ownsRow w.heap.size 3 1 (.slice (some ⟨w1.heap.size, 0, none⟩) 1 1) 1 (ints [x]) by
        rw [h2]
        exact World.ownsRow_lit (base := w.heap.size) (e := 3) (size := 1) w1 #[.int .i64 (x : Nat)] 1 (by omega) (by decide) rfl)
      clear h2
      go_wp2_with fail
      refine (HS.out 58 l1 w2 (by omega) HR2.out).mono ?_
      rintro e w3 (⟨hk, rfl, rfl⟩ | ⟨l2, hk, rfl, hr, hx⟩)
      · have HP := Lib.hid (show RK.rd (k + 1) l = none by rw [RK.rd, HK.out]; simp only [RK.twoL, HN1.out, hk])
        clear hk
        go_wp2_with (first | (go_at_call 96; refine (demand_no _ _).mono ?_; rintro e w' ⟨rfl, rfl⟩) | fail)
        exact ⟨rfl, .inl ⟨HP.out, rfl, HX2.out⟩⟩
      · have hl2 := RK.skipL_len hk
        have HK2 := Lib.hid hk
        have HR3 := Lib.hid hr
        have HX3 := Lib.hid (HX2.out.trans' hx)
        have HO3 := Lib.hid (own_belX HO2.out hx hrb)
        have zr3 := HX3.out.size
        clear hk hr hx
        go_wp2_with fail
        refine (demand_ok _ _).mono ?_
        rintro e w4 ⟨rfl, rfl⟩
        go_wp2_with fail
        refine (HN.out l2 w3 (by omega) HR3.out).mono ?_
        rintro e w5 (⟨hn, rfl, hx⟩ | ⟨y, l3, hn, rfl, hr, hx⟩)
        · have HP := Lib.hid (show RK.rd (k + 1) l = none by rw [RK.rd, HK.out]; simp only [RK.twoL, HN1.out, HK2.out, hn])
          have HX := Lib.hid (HX3.out.trans' hx)
          clear hn hx
          go_wp2_with fail
          exact ⟨rfl, .inl ⟨HP.out, rfl, HX.out⟩⟩
        · have hl3 := RK.numL_len hn
          have HTW := Lib.hid (show RK.twoL l = some (x, y, l3) by simp only [RK.twoL, HN1.out, HK2.out, hn])
          have HX := Lib.hid (HX3.out.trans' hx)
          have HR5 := Lib.hid hr
          have HO5 := Lib.hid (own_belX HO3.out hx hrb)
          have zr5 := HX.out.size
          clear hn hx hr
          go_wp2_with fail
          refine (HS.out 40 l3 w5 (by omega) HR5.out).mono ?_
          rintro e w6 (⟨hk, rfl, rfl⟩ | ⟨l4, hk, rfl, hr, hx⟩)
          · have HP := Lib.hid (show RK.rd (k + 1) l = none by rw [RK.rd, HK.out]; simp only [HTW.out, hk])
            clear hk
            go_wp2_with (first | (go_at_call 96; refine (demand_no _ _).mono ?_; rintro e w' ⟨rfl, rfl⟩) | fail)
            exact ⟨rfl, .inl ⟨HP.out, rfl, HX.out⟩⟩
          · have hl4 := RK.skipL_len hk
            have HK4 := Lib.hid hk
            have HR6 := Lib.hid hr
            have HX6 := Lib.hid (HX.out.trans' hx)
            have HO6 := Lib.hid (own_belX HO5.out hx hrb)
            have zr6 := HX6.out.size
            clear hk hr hx
            go_wp2_with fail
            refine (demand_ok _ _).mono ?_
            rintro e w7 ⟨rfl, rfl⟩
            go_wp2_with fail
            refine (HS.out 41 l4 w6 (by omega) HR6.out).mono ?_
            rintro e w7 (⟨hk, rfl, rfl⟩ | ⟨l5, hk, rfl, hr, hx⟩)
            · have HK5 := Lib.hid hk
              clear hk
              go_wp2_with fail
              refine (HI.out rb l4 w6 (by omega) HR6.out).mono ?_
              rintro e w8 (⟨hrd, rfl, hx⟩ | ⟨out, l6, sv, hrd, rfl, -, hr, hx⟩)
              · have HP := Lib.hid (show RK.rd (k + 1) l = none by rw [RK.rd, HK.out]; simp only [HTW.out, HK4.out, HK5.out, hrd])
                have HX8 := Lib.hid (HX6.out.trans' hx)
                clear hrd hx
                go_wp2_with fail
                exact ⟨rfl, .inl ⟨HP.out, rfl, HX8.out⟩⟩
              · have hl6 := (RK.rd_fine k l4 _ hrd).1
                have HP := Lib.hid (show RK.rd (k + 1) l = RK.rdL (RK.rd k) (RK.R k) (l6.length + 1) [x] l6 by rw [RK.rd, HK.out]; simp only [HTW.out, HK4.out, HK5.out, hrd])
                have HR8 := Lib.hid hr
                have HX8 := Lib.hid (HX6.out.trans' hx)
                have HO8 := Lib.hid (own_belX HO6.out hx hrb)
                have zr8 := HX8.out.size
                clear hrd hr hx
                obtain ⟨RES, hRES⟩ : ∃ RES, RK.rd (k + 1) l = RES := ⟨_, rfl⟩
                have HRES := Lib.hid hRES
                have HP0 := Lib.hid (HP.out.symm.trans hRES)
                clear hRES HP
                go_upto_region 12 with fail
                go_loopw [5] (fun o wr => ∃ (f : Nat) (out : List Nat) (lr : List UInt8), wr.ownsRow w.heap.size 3 1 o out.length (ints out) /\ RdIs wr rb lr /\ BelX [rb] w wr /\ lr.length + 1 <= f /\ out.length + lr.length <= 1000000 /\ Hid (∀ y ∈ out, y <= RK.V (k + 1)) /\ Hid (RK.rdL (RK.rd k) (RK.R k) f out lr = RES)) (fun _ wr => rdLen rb wr)
                case atStart =>
                  obtain ⟨-, hx1, -⟩ := RK.twoL_len HTW.out
                  have hol : [x].length + l6.length <= 1000000 := by
                    have : ([x] : List Nat).length = 1 := rfl
                    try simp only at hl6
                    omega
                  exact ⟨l6.length + 1, [x], l6, HO8.out, HR8.out, HX8.out, by omega, hol, Lib.hid (fun y hy => by rw [List.mem_singleton.1 hy]; simp only [RK.V]; omega), HP0⟩
                case round =>
                  obtain ⟨f, out2, lr, hO, hR, hX, hf, hol, HV, HE⟩ := hrel
                  obtain ⟨f, rfl⟩ : ∃ f', f = f' + 1 := ⟨f - 1, by omega⟩
                  have HOr := Lib.hid hO
                  have HRr := Lib.hid hR
                  have HXr := Lib.hid hX
                  have zrr := hX.size
                  clear hO hR hX
                  go_wp2_with fail
                  refine (HS.out 124 lr wr (by omega) HRr.out).mono ?_
                  rintro e w9 (⟨hk, rfl, rfl⟩ | ⟨m1, hk, rfl, hr, hx⟩)
                  · have hE := HE.out
                    rw [RK.rdL, hk] at hE
                    simp only at hE
                    have HE2 := Lib.hid hE
                    clear hE hk
                    go_wp2_with fail
                    refine (HS.out 41 lr wr (by omega) HRr.out).mono ?_
                    rintro e w9 (⟨hk, rfl, rfl⟩ | ⟨m1, hk, rfl, hr, hx⟩)
                    · have HN0 := Lib.hid (show RK.rd (k + 1) l = none by rw [HRES.out, <- HE2.out]; simp only [hk])
                      clear hk
                      go_wp2_with (first | (go_at_call 96; refine (demand_no _ _).mono ?_; rintro e w' ⟨rfl, rfl⟩) | fail)
                      exact ⟨rfl, .inl ⟨HN0.out, rfl, HXr.out⟩⟩
                    · have HN0 := Lib.hid (show RK.rd (k + 1) l = some (out2, m1) by rw [HRES.out, <- HE2.out]; simp only [hk])
                      have HR9 := Lib.hid hr
                      have HX9 := Lib.hid (HXr.out.trans' hx)
                      have HO9 := Lib.hid (own_belX HOr.out hx hrb)
                      clear hk hr hx
                      go_wp2_with fail
                      refine (demand_ok _ _).mono ?_
                      rintro e w10 ⟨rfl, rfl⟩
                      go_wp2_with fail
                      go_ret
                      exact .inr ⟨out2, m1, _, HN0.out, rfl, HO9.out, HR9.out, HX9.out⟩
                  · have hm1 := RK.skipL_len hk
                    have HK9 := Lib.hid hk
                    have HR9 := Lib.hid hr
                    have HX9 := Lib.hid (HXr.out.trans' hx)
                    have HO9 := Lib.hid (own_belX HOr.out hx hrb)
                    have zr9 := HX9.out.size
                    clear hk hr hx
                    go_wp2_with fail
                    refine (HN.out m1 w9 (by omega) HR9.out).mono ?_
                    rintro e w10 (⟨hn, rfl, hx⟩ | ⟨s, m2, hn, rfl, hr, hx⟩)
                    · have HN0 := Lib.hid (show RK.rd (k + 1) l = none by
                        rw [HRES.out, <- HE.out, RK.rdL, HK9.out]
                        simp only [hn])
                      have HX10 := Lib.hid (HX9.out.trans' hx)
                      clear hn hx
                      go_wp2_with fail
                      exact ⟨rfl, .inl ⟨HN0.out, rfl, HX10.out⟩⟩
                    · have hm2 := RK.numL_len hn
                      have hsm := numL_small hn
                      have HN10 := Lib.hid hn
                      have HR10 := Lib.hid hr
                      have HX10 := Lib.hid (HX9.out.trans' hx)
                      have HO10 := Lib.hid (own_belX HO9.out hx hrb)
                      have zr10 := HX10.out.size
                      clear hn hr hx
                      go_wp2_with fail
                      refine (HS.out 58 m2 w10 (by omega) HR10.out).mono ?_
                      rintro e w11 (⟨hk, rfl, rfl⟩ | ⟨m3, hk, rfl, hr, hx⟩)
                      · have HN0 := Lib.hid (show RK.rd (k + 1) l = none by
                          rw [HRES.out, <- HE.out, RK.rdL, HK9.out]
                          simp only [HN10.out, hk])
                        clear hk
                        go_wp2_with (first | (go_at_call 96; refine (demand_no _ _).mono ?_; rintro e w' ⟨rfl, rfl⟩) | fail)
                        exact ⟨rfl, .inl ⟨HN0.out, rfl, HX10.out⟩⟩
                      · have hm3 := RK.skipL_len hk
                        have HK11 := Lib.hid hk
                        have HR11 := Lib.hid hr
                        have HX11 := Lib.hid (HX10.out.trans' hx)
                        have HO11 := Lib.hid (own_belX HO10.out hx hrb)
                        have zr11 := HX11.out.size
                        clear hk hr hx
                        go_wp2_with fail
                        refine (demand_ok _ _).mono ?_
                        rintro e w12 ⟨rfl, rfl⟩
                        go_wp2_with fail
                        refine (HI.out rb m3 w11 (by omega) HR11.out).mono ?_
                        rintro e w12 (⟨hrd, rfl, hx⟩ | ⟨ys, m4, sv, hrd, rfl, hys, hr, hx⟩)
                        · have HN0 := Lib.hid (show RK.rd (k + 1) l = none by
                            rw [HRES.out, <- HE.out, RK.rdL, HK9.out]
                            simp only [HN10.out, HK11.out, hrd])
                          have HX12 := Lib.hid (HX11.out.trans' hx)
                          clear hrd hx
                          go_wp2_with fail
                          exact ⟨rfl, .inl ⟨HN0.out, rfl, HX12.out⟩⟩
                        · have hfine := RK.rd_fine k m3 _ hrd
                          have HE3 := Lib.hid (show RK.rdL (RK.rd k) (RK.R k) f (out2 ++ ys.map (fun y => s * RK.R k + y)) m4 = RES by
                            rw [<- HE.out, RK.rdL, HK9.out]
                            simp only [HN10.out, HK11.out, hrd])
                          have HR12 := Lib.hid hr
                          have HX12 := Lib.hid (HX11.out.trans' hx)
                          have HO12 := Lib.hid (own_belX HO11.out hx hrb)
                          have HYS := Lib.hid hys
                          have zr12 := HX12.out.size
                          clear hrd hr hx hys
                          have hyl := hfine.1
                          have hyb := hfine.2
                          have HYB := Lib.hid hyb
                          have HPL := Lib.hid (fun o wx ho => places_any o k wx ho (by omega))
                          clear hfine hyb
                          obtain ⟨p, hp⟩ : ∃ p, RK.R k = p := ⟨_, rfl⟩
                          have hpb : p <= 256 := by rw [<- hp]; exact RK.R_le (by omega)
                          have hvk := RK.V_le (k := k) (by omega)
                          have HPp := Lib.hid hp
                          rw [hp] at HPL
                          clear hp
                          obtain ⟨hyx, hyr⟩ := HYS.out
                          rcases hyr with ⟨rfl, hy0⟩ | ⟨g2, cap2, cur2, rfl, hg2a, hg2b, hyrest⟩
                          · have hys0 : ys = [] := List.eq_nil_of_length_eq_zero hy0
                            subst hys0
                            rw [List.map_nil, List.append_nil] at HE3
                            go_upto_region 16 with fail
                            go_loopw [5, 48] (fun o i wz => i = .int .i64 0 /\ o = u5 /\ wz = w12) (fun _ _ _ => 0)
                            case atStart => exact ⟨by simp, rfl, rfl⟩
                            case round =>
                              obtain ⟨rfl, rfl, rfl⟩ := hrel
                              go_wp2_with fail
                              go_roundw
                              case rel => exact ⟨f, out2, m4, HO12.out, HR12.out, HX12.out, by first | omega | (simp at hyl; omega), by first | omega | (simp at hyl; omega), HV, HE3⟩
                              case measure =>
                                first | (rw [rdLen_of HR12.out, rdLen_of HRr.out]; first | omega | (simp at hyl; omega)) | skip
                          · have HOB := Lib.hid (show ∀ q, u5.ownBlock = some q -> q ≠ g2 from fun q hq => by have := (HO11.out.lt _ hq).2; omega)
                            obtain ⟨Z, hZ⟩ : ∃ Z : Nat, s * p = Z := ⟨_, rfl⟩
                            have hZb : Z <= 256000 := by rw [<- hZ]; exact Nat.mul_le_mul hsm hpb
                            have hZi : (s : Int) * (p : Int) = (Z : Int) := by rw [<- hZ]; simp
                            have HZ := Lib.hid hZ
                            have hyl2 : out2.length + ys.length + m4.length <= 1000000 := by first | omega | (simp only at hyl; omega)
                            have hyl3 : ys.length + m4.length <= m3.length := by first | omega | (simp only at hyl; omega)
                            clear hZ hyx hg2b hyrest hyl
                            go_upto_region 16 with fail
                            go_loopw [5, 48] (fun o i wz => ∃ j : Nat, i = .int .i64 j /\ j <= ys.length /\ wz.ownsRow w.heap.size 3 1 o (out2 ++ (ys.take j).map (fun y => Z + y)).length (ints (out2 ++ (ys.take j).map (fun y => Z + y))) /\ Hid (∀ q, o.ownBlock = some q -> q ≠ g2) /\ Hid (RdIs wz rb m4) /\ BelX [rb] w wz /\ wz.ownsRow w11.heap.size 3 1 (.slice (some ⟨g2, 0, none⟩) ys.length cap2) ys.length (ints ys)) (fun _ i _ => ys.length - (intOf i).toNat)
                            case atStart => exact ⟨0, by simp, by omega, by simpa using HO12.out, HOB, HR12, HX12.out, HYS.out⟩
                            case round =>
                              obtain ⟨j, rfl, hj, hOz, HBz, HRz, hXz, hYz⟩ := hrel
                              by_cases hjl : j < ys.length
                              · obtain ⟨y, hy⟩ : ∃ y, ys[j]? = some y := ⟨ys[j], by simp [hjl]⟩
                                have hyv := HYB.out y (List.mem_of_getElem? hy)
                                have hcy : wr.cell? ⟨g2, j, none⟩ = some (.int .i64 (y : Nat)) := (hYz.cellAt j (by omega)).trans (by simp [ints, hy])
                                have htk : ys.take (j + 1) = ys.take j ++ [y] := by rw [List.take_add_one, hy]; rfl
                                have HTK := Lib.hid htk
                                have hlen0 : (out2 ++ (ys.take j).map (fun y => Z + y)).length = out2.length + j := by rw [List.length_append, List.length_map, List.length_take]; omega
                                have HXz := Lib.hid hXz
                                have HYz := Lib.hid hYz
                                have zz := hXz.size
                                have hyc : (s : Int) * (p : Int) + (y : Int) = ((Z + y : Nat) : Int) := by rw [hZi]; simp
                                clear hXz hYz htk hy
                                go_wp2_with fail
                                refine (HPL.out _ _ (by omega)).mono ?_
                                rintro e w13 ⟨rfl, rfl⟩
                                go_wp2_with (first
                                  | (at_builtin; refine wpList_append_lies _ rfl _ _ 22 rfl w.heap.size 3 i0 (.int .i64 0) 1 8 Tryz.underlying22 hi hz0 hz1 hz2 rfl (by decide) _ _ _ rfl (hOz.alloc _) ⟨wr.heap.size, 0, none⟩ 1 1 [_] rfl rfl (cell_one_new _ _ _) (one_cell _) (by decide) (by unfold maxLen; omega) (by omega) (by simp; omega) (wr.heap.size + 1) (by simp) ?_; intro g3 cap3 w14 hown3 hgrow3 hlie3 hgl3
                                     have hb14 : Below w.heap.size (wr.alloc (.cells #[.int .i64 ((Z : Int) + y)] 3)) w14 := Below.grown (Below.refl _ _) hgrow3 (by simp; omega) (fun q hq => by have := (hOz.lt _ hq).1; omega)
                                     have hXa := HXz.out.alloc (.cells #[.int .i64 ((Z : Int) + y)] 3)
                                     have HX14 := Lib.hid (show BelX [rb] w w14 from ⟨hb14.os.trans hXa.os, hb14.tape.trans hXa.tape, hb14.output.trans hXa.output, Nat.le_trans hXa.size hb14.size, fun k hk hn => (hb14.block k hk).trans (hXa.block k hk hn)⟩)
                                     have HR14 := Lib.hid (show RdIs w14 rb m4 from (hb14.block rb hrb).trans (HRz.out.alloc _))
                                     have HY14 := Lib.hid ((HYz.out.alloc (.cells #[.int .i64 ((Z : Int) + y)] 3)).kept hgrow3 (.inr (fun e => HBz.out g2 e.symm rfl)))
                                     have HB14 := Lib.hid (show ∀ q, (Value.slice (some ⟨g3, 0, none⟩) ((out2 ++ (ys.take j).map (fun y => Z + y)).length + 1) cap3).ownBlock = some q -> q ≠ g2 from fun q hq e => by
                                       have hq2 : g3 = q := Option.some.inj hq
                                       rcases hlie3 with h | h
                                       · exact HBz.out g3 h (hq2.trans e)
                                       · have := (HYz.out.lt g2 rfl).2; omega)
                                     have HO14 := Lib.hid hown3
                                     clear hb14 hXa hown3 hgrow3 hlie3 hgl3)
                                  | fail)
                                go_roundw
                                case rel =>
                                  refine ⟨j + 1, by simp, by omega, ?_, HB14, HR14, HX14.out, HY14.out⟩
                                  have h := HO14.out
                                  rw [HTK.out, List.map_append, <- List.append_assoc, List.length_append]
                                  simpa [ints, Nat.min_eq_left hj] using h
                                case measure => simp [intOf]; omega
                              · obtain rfl : j = ys.length := by omega
                                have HOz := Lib.hid hOz
                                have HXz := Lib.hid hXz
                                clear hOz hXz hYz
                                go_wp2_with fail
                                go_roundw
                                case rel =>
                                  refine ⟨f, out2 ++ ys.map (fun y => s * RK.R k + y), m4, ?_, HRz.out, HXz.out, by omega, by rw [List.length_append, List.length_map]; omega, Lib.hid ?_, HE3⟩
                                  · have h := HOz.out
                                    rw [List.take_length] at h
                                    rw [HPp.out, HZ.out]
                                    exact h
                                  · intro y hy
                                    rcases List.mem_append.1 hy with hy | hy
                                    · exact HV.out y hy
                                    · obtain ⟨z, hz, rfl⟩ := List.mem_map.1 hy
                                      have := HYB.out z hz
                                      rw [HPp.out, HZ.out]
                                      simp only [RK.V, HPp.out]
                                      have : Z <= 1000 * p := by rw [<- HZ.out]; exact Nat.mul_le_mul_right _ hsm
                                      omega
                                case measure =>
                                  rw [rdLen_of HRz.out, rdLen_of HRr.out]
                                  omega
            · have HP := Lib.hid (show RK.rd (k + 1) l = some ([x], l5) by rw [RK.rd, HK.out]; simp only [HTW.out, HK4.out, hk])
              have HR7 := Lib.hid hr
              have HX7 := Lib.hid (HX6.out.trans' hx)
              have HO7 := Lib.hid (own_belX HO6.out hx hrb)
              clear hk hr hx
              go_wp2_with fail
              go_ret
              exact .inr ⟨[x], l5, _, HP.out, rfl, HO7.out, HR7.out, HX7.out⟩
  · have HP := Lib.hid (show RK.rd (k + 1) l = some ([], r) by rw [RK.rd, hk])
    have HR1 := Lib.hid hr
    have HX := Lib.hid hx
    clear hk hr hx
    go_wp2_with fail
    go_ret
    exact .inr ⟨[], r, _, HP.out, rfl, World.ownsRow_nil _ _ _ _, HR1.out, HX.out⟩
open Go.RowKit
theorem rplaces_any:∀(k:Nat),k<=3->∀(rb:Nat) (l:List UInt8) (w:World),l.length<=1000000->RdIs w rb l ->
  Calls Tryz.prog 95 #[.pointer (some ⟨rb,0,none⟩),.int .i64 (k:Int)] w (PlPost rb k l w):=by
 intro k
 induction k with
 | zero=>intro hk rb l w hl h; exact places_zero rb l w hl h
 | succ k ih=>intro hk rb l w hl h; exact places_succ k hk (ih (by omega)) rb l w hl h
end Go.Proofs.YtaffkceklkdokaaGreatDoor
