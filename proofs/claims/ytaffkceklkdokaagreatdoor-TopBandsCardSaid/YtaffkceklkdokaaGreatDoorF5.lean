/- A world for the card's witness: the listed variables laid; what the layers ask of the start. -/
import Derived.Test.YtaffkceklkdokaaGreatDoorCards
import Derived.Test.YtaffkceklkdokaaGreatDoorTie
import Derived.WalkKit
import Derived.ProofKit
import Derived.OpenShut
import Derived.Deep.DeepHandedRow
import Derived.Lib.LaidTab
import Derived.Lib.LaidU8
import Derived.Lib.SmallJoins
import Derived.PinnedBridge
import Derived.Lay
import Derived.LaidOnce
import Derived.SevenTiedAt
import Derived.Carry
import Derived.Shelf.Vars
import Derived.ChangeSlices
import Derived.Test.YtaffkceklkdokaaGreatDoorT50
import Derived.Test.YtaffkceklkdokaaGreatDoorT83
set_option maxRecDepth 100000
namespace Go.Proofs.YtaffkceklkdokaaGreatDoor
open Go.ChangeShapes Go.WideShapes Go.ChangeAt Go.RowKit
theorem own:ownKnob Tryz.prog.godebug=none:=by kernel_rfl
theorem inI {x:Int} (h:(Lit.int .i64 x).wf=true) : -9223372036854775808<=x/\x<=9223372036854775807:=by
 simpa[Lit.wf,IntKind.min,IntKind.max,IntKind.signed,IntKind.bits]using h
/-- the listed variables -/
noncomputable def tabs:List (String × DataW Unit):=[("math/bits.deBruijn32tab",Rows.laid_math_bits_deBruijn32tab),("math/bits.deBruijn64tab",Rows.laid_math_bits_deBruijn64tab),("internal/strconv.uint64pow10",Rows.laid_internal_strconv_uint64pow10),("unicode/utf8.acceptRanges",Rows.laid_unicode_utf8_acceptRanges),("strconv.ErrRange",Rows.laid_strconv_ErrRange),("strconv.ErrSyntax",Rows.laid_strconv_ErrSyntax),("unicode/utf8.first",Rows.laid_unicode_utf8_first)]
noncomputable def laidWorld (os:Os):World:=World.laidAll Tryz.prog os tabs
theorem laid_met (os:Os) (args:Array Value):laidMet Tryz.prog tabs ((laidWorld os).forCall (fun _ _=>0) ⟨#[],args,[]⟩).memory :=
 laidMet_laidAll args (by kernel_rfl) (by kernel_rfl)
theorem laidOut:laidOutB Tryz.prog=true:=by kernel_rfl
def deb64:List Int:=[0,1,56,2,57,49,28,3,61,58,42,50,38,29,17,4,62,47,59,36,45,43,51,22,53,39,33,30,24,18,12,5,63,55,48,27,60,41,37,16,46,35,44,21,52,32,23,11,54,26,40,15,34,20,31,10,25,14,19,9,13,8,7,6]
theorem pow_data:(Rows.laid_internal_strconv_uint64pow10:DataW Unit)=Lib.tabData .u64 Lib.pow10Tab:=by kernel_rfl
theorem deb_data:(Rows.laid_math_bits_deBruijn64tab:DataW Unit)=Lib.tabData .u8 deb64:=by kernel_rfl
theorem no_handle:(tabs.filter fun x=>x.2.handleName?.isSome) = []:=by kernel_rfl
/-- a table that is listed lies there -/
theorem tabIs_of {W:World} {name:String} {d:DataW Unit} {g:Nat} {t e:TypeId} {n:Nat} {k:IntKind} {zs:List Int} (h:laidMet Tryz.prog tabs W) (hm:(name,d)∈tabs) (hd:d=Lib.tabData k zs)
  (hg:Tryz.prog.globalNamed name=some g) (hty:(Tryz.prog.globals[g]?).map (·.type)=some t) (ht:Tryz.prog.underlying t=some (.array n e)) (he:Tryz.prog.underlying e=some (.int k)) (hce:Tryz.prog.cellsOf e=1) (hct:Tryz.prog.cellsOf t=n) :
  Lib.TabIs Tryz.prog W name k zs:=by
 obtain⟨g',t',cs,fuel,p,hg',ht',hvar,hr⟩:=Lib.laidMet.reads h hm;obtain rfl:=Option.some.inj (hg.symm.trans hg');obtain rfl:=Option.some.inj (hty.symm.trans ht');unfold Lib.TabIs;rw[hd]at hr;rw[hvar,<-Lib.cells_of_tab ht he hce hct hr]
/-- what the walk asks of the start -/
def TopB (w:World):Prop:=TopV w/\BitTab6 w
theorem top_of {W:World} (h:laidMetH Tryz.prog tabs W) (hs:W.ShapedOpen Tryz.prog):TopB W:=by
 have h':laidMet Tryz.prog tabs W:=by
  unfold laidMetH at h;rw[no_handle]at h;exact h
 clear h;have hgp:Tryz.prog.globalNamed "internal/strconv.uint64pow10" = some (lays171_ren.g 17):=by kernel_rfl
 have hgd:Tryz.prog.globalNamed "math/bits.deBruijn64tab" = some 2:=by kernel_rfl
 have tp:Lib.TabIs Tryz.prog W "internal/strconv.uint64pow10" .u64 Lib.pow10Tab:=tabIs_of h' (.tail _ (.tail _ (.head _))) pow_data hgp (by kernel_rfl) Tryz.underlying263 Tryz.underlying119 (by kernel_rfl) (by kernel_rfl)
 have td:Lib.TabIs Tryz.prog W "math/bits.deBruijn64tab" .u8 deb64:=tabIs_of h' (.tail _ (.head _)) deb_data hgd (by kernel_rfl) Tryz.underlying143 Tryz.underlying5 (by kernel_rfl) (by kernel_rfl)
 refine⟨⟨⟨td.cell hgd 0 (by decide),td.cell hgd 1 (by decide)⟩,⟨tp,block_lt_of_cell (tp.cell hgp 0 (by decide))⟩,?_⟩,fun t=>?_⟩
 · exact cell_of_shapedOpen_int (t:=3) (zero:=#[.int .i64 0]) hs (of_decide_eq_true (by kernel_rfl)) (by kernel_rfl) rfl (by kernel_rfl) (by kernel_rfl) Tryz.underlying3
 ·
  have ht:=t.isLt
  match t,ht with
  | ⟨0,_⟩,_=>exact td.cell hgd 0 (by decide)
  | ⟨1,_⟩,_=>exact td.cell hgd 1 (by decide)
  | ⟨2,_⟩,_=>exact td.cell hgd 3 (by decide)
  | ⟨3,_⟩,_=>exact td.cell hgd 7 (by decide)
  | ⟨4,_⟩,_=>exact td.cell hgd 15 (by decide)
  | ⟨5,_⟩,_=>exact td.cell hgd 31 (by decide)
/-- an argument that is a slice of ints -/
theorem LI_of {H:Type} {enc:TypeId × Value->H} {W:World} {base base':Nat} {v:Value} {d:DataW H} {ps:List MemPlace} (hv:Value.okWide Tryz.prog W .any base' 22 v) (h:DataW.Trod enc Tryz.prog W base (fun _=>true) true 22 v d ps) :
  ∃xs,LZ W v xs/\∀x∈xs,-9223372036854775808<=x/\x<=9223372036854775807:=by
 obtain⟨a0,len,cap,rfl⟩:=Go.WideShapes.okWide_slice Tryz.underlying22 hv;obtain⟨fuel,hf⟩:=h;rcases open_ints Tryz.underlying22 Tryz.underlying3 (by kernel_rfl) hf with ⟨hcs,-⟩ | ⟨a,len',cap',ns,hcs,-,hl,hm,hz,-,hcell,hwz⟩
 ·
  obtain⟨rfl,rfl,rfl⟩:a0=none/\len=0/\cap=0:=by simpa[Value.cells]using hcs
  exact⟨[],⟨none,0,rfl,by simp,fun j x hj=>by simp at hj⟩,fun x h=>by cases h⟩
 ·
  obtain⟨rfl,rfl,rfl⟩:a0=some a/\len=len'/\cap=cap':=by simpa[Value.cells]using hcs
  have hz':ns.length=cap:=by simpa using hz
  have hlen:(ns.take len).length=len:=by rw[List.length_take]; omega
  have hm':len<=9223372036854775807:=by unfold maxLen at hm; omega
  refine⟨ns.take len,⟨some a,cap,by rw[hlen],by rw[hlen]; exact hm',fun j x hj=>⟨a,rfl,?_⟩⟩,fun x hx=>inI (hwz x (List.mem_of_mem_take hx))⟩;have hjl:=(List.getElem?_eq_some_iff.1 hj).1;rw[hlen]at hjl;rw[List.getElem?_take,if_pos hjl]at hj;have hc:=hcell j (by omega);rw[List.getD,hj]at hc;exact hc
theorem TopBands_walk (x:Int) (lv:Value) (xs:List Int) (w:World) (hW:TopB w) (_ : -9223372036854775808<=x/\x<=9223372036854775807) (hL:LZ w lv xs) (_:∀x∈xs,-9223372036854775808<=x/\x<=9223372036854775807) :
  Calls Tryz.prog 3 #[.int .i64 x,lv] w fun e w'=>e=.returned (.bool true)/\Below w.heap.size w w' :=
 TopBands_go x lv xs w hW.2 (fun wx hb=>eight_v wx (hW.1.below hb)) hL
namespace topBands
open Go.ChangeShapes Go.WideShapes Go.ChangeAt Go.RowKit
open Go.Lib Go.Joins
theorem contract (H:Type) (enc:TypeId × Value->H) (W:World) (base:Nat) (args:Array Value) (ds gs:List (DataW H)) (before:List MemPlace)
  (hval:∀(j:Nat) t v,Tryz.f3.params[j]?=some t->args[j]?=some v->Value.okWide Tryz.prog W .any base t v)
  (hW:DataW.Whole enc Tryz.prog Tryz.f3.params.toList Rows.topBandsSpec.vars false W args.toList ds gs before) (hL:laidMetH Tryz.prog tabs W) (hS:W.ShapedOpen Tryz.prog) :
  Calls Tryz.prog 3 args W fun e W'=>∃v,e=.returned v/\Rows.topBandsSpec.post enc Tryz.prog Tryz.f3 false true false false W args v W':=by
 have hW':=hW;obtain⟨p,q,hA0,hV,rfl,hfz,hnd⟩:=hW;have hA:DataW.TrodAll enc Tryz.prog W 0 (fun _=>true) true Tryz.f3.params.toList args.toList ds p:=hA0;rw[Tryz.params3]at hA hval;obtain⟨v0,vs0,d0,ds0,p0,q0,hargs,rfl,rfl,h0,r0⟩:=trodAll_cons hA;obtain⟨v1,vs1,d1,ds1,p1,q1,rfl,rfl,rfl,h1,r1⟩:=trodAll_cons r0;obtain⟨rfl,rfl,rfl⟩:=trodAll_nil r1;obtain rfl:args=#[v0,v1]:=by cases args; simp_all
 obtain⟨rfl,rfl⟩:=trodVars_none hV;obtain⟨x0,rfl,rfl,rfl,wx0⟩:=open_int Tryz.underlying3 (hval 0 3 v0 rfl rfl) h0;obtain⟨x1,li1,wx1⟩:=LI_of (hval 1 22 v1 rfl rfl) h1;have lt1:∀x∈p1,x.block < W.heap.size:=by obtain⟨fuel,hf⟩:=h1; exact DataW.trod_lt fuel _ _ _ hf
 clear hA0;try simp only[List.append_nil]at hW'
 refine(show Calls Tryz.prog 3 _ W _ from(TopBands_walk x0 v1 x1 W (top_of hL hS) (inI wx0) li1 wx1)).mono fun e W' ⟨he,hb⟩=>?_;subst he;exact⟨_,rfl,_,_,_,_,_,_,hW',trodAll_mk1 (shut_bool Tryz.underlying4 _),trodAll_cons_mk (shut_int Tryz.underlying3 wx0) (trodAll_cons_mk (Below.trod laidOut (by kernel_rfl) (of_decide_eq_true (by kernel_rfl)) h1 hb lt1) (trodAll_mk0)),rfl,hb.frame _,fun h=>by cases h⟩
theorem reads (os:Os) {H:Type} (enc:TypeId × Value->H):∃places,DataW.whole enc Tryz.prog ((laidWorld os).forCall (fun _ _=>0) ⟨#[],#[.int .i64 0,.slice none 0 0],[]⟩).memory Tryz.f3.params.toList Rows.topBandsSpec.vars false (#[.int .i64 0,.slice none 0 0]:Array Value).toList 8=some ([.lit (.int .i64 0),.nil],[],places) :=
 ⟨[],by kernel_rfl⟩
theorem lifted (os:Os) (started:os.Started) (H:Type) (enc:TypeId × Value->H) (F:Stop.Interp) :
  ReturnsInHanded {} Tryz.checked os 3 .any ((OpenSpec.ofChange Rows.topBandsSpec).preRow enc Tryz.prog Tryz.f3 Rows.topBandsRow.domain false Rows.topBandsRow.laid) (((OpenSpec.ofChange Rows.topBandsSpec).at F).post enc Tryz.prog Tryz.f3 false true false false):=by
 obtain⟨places,hx⟩:=reads os enc;refine returnsInHanded_of_row (C:=Tryz.checked) (s:=OpenSpec.ofChange Rows.topBandsSpec) own started (by kernel_rfl) Tryz.func3
  (witness_row_at (enc:=enc) (C:=Tryz.checked) false (laidWorld os) #[.int .i64 0,.slice none 0 0] rfl (by kernel_rfl) (by kernel_rfl) (by kernel_rfl)
   (OpenSpec.preRow_of_cond 8 hx (by kernel_rfl) (fun k hk=>by cases hk) (by kernel_rfl) (laid_met os _))) ?_
 intro W base args ds gs before hval hW _ _ _ hL hS _;exact contract H enc W base args ds gs before hval hW hL hS
theorem said:Rows.TopBandsSaid :=
 OpenClaim.holds_of_cond 3 Tryz.f3 rfl rfl rfl rfl rfl rfl rfl ⟨rfl,rfl,rfl,rfl,rfl⟩ rfl rfl rfl rfl rfl (by kernel_rfl) Tryz.func3 (by kernel_rfl)
  (of_decide_eq_true (by kernel_rfl)) (by unfold Func.isWrapper; first | (rw[if_pos (by decide +kernel)]; kernel_rfl) | (rw[if_neg (by decide +kernel)]; exact⟨rfl,rfl⟩))
  (fun os started H enc _ F=>by rw[OpenClaim.pre_eq_preRow]; exact lifted os started H enc F)
theorem plain (f:FuncId) (fn:Func) (hf:Tryz.pinned.checked.prog.funcNamed "remould/remouldtop.TopBands" = some f) (hfn:Tryz.pinned.checked.prog.funcs[f]?=some fn) :
  true=Tryz.pinned.checked.prog.looks []/\∀(j:Nat) t,fn.params[j]?=some t->Tryz.pinned.checked.prog.wantsStandIn t=false:=by
 obtain rfl:f=3:=Option.some.inj ((show Tryz.prog.funcNamed "remould/remouldtop.TopBands" = some 3 by kernel_rfl).symm.trans hf) |>.symm
 obtain rfl:fn=Tryz.f3:=(Option.some.inj (Tryz.func3.symm.trans hfn)).symm;refine⟨by kernel_rfl,fun j t ht=>?_⟩;rw[Tryz.params3]at ht;have hm:t∈[3,22]:=by simpa using Array.mem_of_getElem? ht
 have hall:([3,22].all fun u=>!Tryz.prog.wantsStandIn u)=true:=by kernel_rfl
 exact(show Tryz.prog.wantsStandIn t=false by simpa using List.all_eq_true.1 hall t (by simpa using hm))
theorem card:Rows.TopBandsCardSaid :=
 Claim7.holds_tied_plain_at .later [] _ _ _ _ said (fun _ h=>by cases h) (by kernel_rfl) (fun _ h=>by cases h) topBands_row_tie rfl ⟨rfl,rfl⟩ (by kernel_rfl) rfl plain (by kernel_rfl)
end topBands
theorem TopBands_holds:Rows.TopBandsCardSaid:=topBands.card
end Go.Proofs.YtaffkceklkdokaaGreatDoor
