/- A world for the card's witness: the listed variables laid; what the layers ask of the start. -/
import Derived.Test.YtaffkceklkdokaaGreatDoorCards
import Derived.Test.YtaffkceklkdokaaGreatDoorTie
import Derived.WalkKit
import Derived.ProofKit
import Derived.OpenShut
import Derived.Deep.DeepHandedRow
import Derived.Lib.LaidTab
import Derived.Lib.LaidU8
import Derived.Lib.SmallJoins
import Derived.PinnedBridge
import Derived.Lay
import Derived.LaidOnce
import Derived.SevenTiedAt
import Derived.Carry
import Derived.Shelf.Vars
import Derived.Test.YtaffkceklkdokaaGreatDoorT50
set_option maxRecDepth 100000
namespace Go.Proofs.YtaffkceklkdokaaGreatDoor
open Go.ChangeShapes Go.WideShapes Go.ChangeAt Go.RowKit
theorem own:ownKnob Tryz.prog.godebug=none:=by kernel_rfl
theorem inI {x:Int} (h:(Lit.int .i64 x).wf=true) : -9223372036854775808<=x/\x<=9223372036854775807:=by
 simpa[Lit.wf,IntKind.min,IntKind.max,IntKind.signed,IntKind.bits]using h
/-- the listed variables -/
noncomputable def tabs:List (String × DataW Unit):=[("math/bits.deBruijn32tab",Rows.laid_math_bits_deBruijn32tab),("math/bits.deBruijn64tab",Rows.laid_math_bits_deBruijn64tab),("internal/strconv.uint64pow10",Rows.laid_internal_strconv_uint64pow10),("unicode/utf8.acceptRanges",Rows.laid_unicode_utf8_acceptRanges),("strconv.ErrRange",Rows.laid_strconv_ErrRange),("strconv.ErrSyntax",Rows.laid_strconv_ErrSyntax),("remould/camber.first",Rows.laid_remould_camber_first),("unicode/utf8.first",Rows.laid_unicode_utf8_first)]
noncomputable def laidWorld (os:Os):World:=World.laidAll Tryz.prog os tabs
theorem laid_met (os:Os) (args:Array Value):laidMet Tryz.prog tabs ((laidWorld os).forCall (fun _ _=>0) ⟨#[],args,[]⟩).memory :=
 laidMet_laidAll args (by kernel_rfl) (by kernel_rfl)
def deb64:List Int:=[0,1,56,2,57,49,28,3,61,58,42,50,38,29,17,4,62,47,59,36,45,43,51,22,53,39,33,30,24,18,12,5,63,55,48,27,60,41,37,16,46,35,44,21,52,32,23,11,54,26,40,15,34,20,31,10,25,14,19,9,13,8,7,6]
theorem pow_data:(Rows.laid_internal_strconv_uint64pow10:DataW Unit)=Lib.tabData .u64 Lib.pow10Tab:=by kernel_rfl
theorem deb_data:(Rows.laid_math_bits_deBruijn64tab:DataW Unit)=Lib.tabData .u8 deb64:=by kernel_rfl
theorem first_data:(Rows.laid_remould_camber_first:DataW Unit)=Lib.tabData .i64 [1,2,5]:=by kernel_rfl
theorem no_handle:(tabs.filter fun x=>x.2.handleName?.isSome) = []:=by kernel_rfl
/-- a table that is listed lies there -/
theorem tabIs_of {W:World} {name:String} {d:DataW Unit} {g:Nat} {t e:TypeId} {n:Nat} {k:IntKind} {zs:List Int} (h:laidMet Tryz.prog tabs W) (hm:(name,d)∈tabs) (hd:d=Lib.tabData k zs)
  (hg:Tryz.prog.globalNamed name=some g) (hty:(Tryz.prog.globals[g]?).map (·.type)=some t) (ht:Tryz.prog.underlying t=some (.array n e)) (he:Tryz.prog.underlying e=some (.int k)) (hce:Tryz.prog.cellsOf e=1) (hct:Tryz.prog.cellsOf t=n) :
  Lib.TabIs Tryz.prog W name k zs:=by
 obtain⟨g',t',cs,fuel,p,hg',ht',hvar,hr⟩:=Lib.laidMet.reads h hm;obtain rfl:=Option.some.inj (hg.symm.trans hg');obtain rfl:=Option.some.inj (hty.symm.trans ht');unfold Lib.TabIs;rw[hd]at hr;rw[hvar,<-Lib.cells_of_tab ht he hce hct hr]
theorem top_of {W:World} (h:laidMetH Tryz.prog tabs W) (hs:W.ShapedOpen Tryz.prog):TopW W:=by
 have h':laidMet Tryz.prog tabs W:=by
  unfold laidMetH at h;rw[no_handle]at h;exact h
 clear h;have hgp:Tryz.prog.globalNamed "internal/strconv.uint64pow10" = some (lays171_ren.g 17):=by kernel_rfl
 have hgd:Tryz.prog.globalNamed "math/bits.deBruijn64tab" = some 2:=by kernel_rfl
 have hgf:Tryz.prog.globalNamed "remould/camber.first" = some 0:=by kernel_rfl
 have tp:Lib.TabIs Tryz.prog W "internal/strconv.uint64pow10" .u64 Lib.pow10Tab:=tabIs_of h' (.tail _ (.tail _ (.head _))) pow_data hgp (by kernel_rfl) Tryz.underlying263 Tryz.underlying119 (by kernel_rfl) (by kernel_rfl)
 have td:Lib.TabIs Tryz.prog W "math/bits.deBruijn64tab" .u8 deb64:=tabIs_of h' (.tail _ (.head _)) deb_data hgd (by kernel_rfl) Tryz.underlying143 Tryz.underlying5 (by kernel_rfl) (by kernel_rfl)
 have tf:Lib.TabIs Tryz.prog W "remould/camber.first" .i64 [1,2,5]:=tabIs_of h' (.tail _ (.tail _ (.tail _ (.tail _ (.tail _ (.tail _ (.head _))))))) first_data hgf (by kernel_rfl) Tryz.underlying79 Tryz.underlying3 (by kernel_rfl) (by kernel_rfl)
 refine⟨?_,⟨td.cell hgd 0 (by decide),td.cell hgd 1 (by decide)⟩,⟨tp,block_lt_of_cell (tp.cell hgp 0 (by decide))⟩,?_⟩
 ·
  unfold Lib.TabIs World.var? at tf;rw[hgf]at tf;simp only[Option.bind_some]at tf
  split at tf
  · rename_i cs t q hh;exact⟨t,q,by rw[hh,Option.some.inj tf]; rfl⟩
  · cases tf
 · exact cell_of_shapedOpen_int (t:=3) (zero:=#[.int .i64 0]) hs (of_decide_eq_true (by kernel_rfl)) (by kernel_rfl) rfl (by kernel_rfl) (by kernel_rfl) Tryz.underlying3
namespace topFibonacci
open Go.ChangeShapes Go.WideShapes Go.ChangeAt Go.RowKit
open Go.Lib Go.Joins
theorem contract (H:Type) (enc:TypeId × Value->H) (W:World) (base:Nat) (args:Array Value) (ds gs:List (DataW H)) (before:List MemPlace)
  (hval:∀(j:Nat) t v,Tryz.f4.params[j]?=some t->args[j]?=some v->Value.okWide Tryz.prog W .any base t v)
  (hW:DataW.Whole enc Tryz.prog Tryz.f4.params.toList Rows.topFibonacciSpec.vars false W args.toList ds gs before) (hL:laidMetH Tryz.prog tabs W) (hS:W.ShapedOpen Tryz.prog) :
  Calls Tryz.prog 4 args W fun e W'=>∃v,e=.returned v/\Rows.topFibonacciSpec.post enc Tryz.prog Tryz.f4 false true false false W args v W':=by
 have hW':=hW;obtain⟨p,q,hA0,hV,rfl,hfz,hnd⟩:=hW;have hA:DataW.TrodAll enc Tryz.prog W 0 (fun _=>true) true Tryz.f4.params.toList args.toList ds p:=hA0;rw[Tryz.params4]at hA hval;obtain⟨v0,vs0,d0,ds0,p0,q0,hargs,rfl,rfl,h0,r0⟩:=trodAll_cons hA;obtain⟨rfl,rfl,rfl⟩:=trodAll_nil r0;obtain rfl:args=#[v0]:=by cases args; simp_all
 obtain⟨rfl,rfl⟩:=trodVars_none hV;obtain⟨x0,rfl,rfl,rfl,wx0⟩:=open_int Tryz.underlying3 (hval 0 3 v0 rfl rfl) h0;clear hA0;try simp only[List.append_nil]at hW'
 refine(show Calls Tryz.prog 4 _ W _ from(TopFibonacci_walk x0 W (top_of hL hS) (inI wx0))).mono fun e W' ⟨he,hb⟩=>?_;subst he;exact⟨_,rfl,_,_,_,_,_,_,hW',trodAll_mk1 (shut_bool Tryz.underlying4 _),trodAll_cons_mk (shut_int Tryz.underlying3 wx0) (trodAll_mk0),rfl,hb.frame _,fun h=>by cases h⟩
theorem reads (os:Os) {H:Type} (enc:TypeId × Value->H):∃places,DataW.whole enc Tryz.prog ((laidWorld os).forCall (fun _ _=>0) ⟨#[],#[.int .i64 0],[]⟩).memory Tryz.f4.params.toList Rows.topFibonacciSpec.vars false (#[.int .i64 0]:Array Value).toList 8=some ([.lit (.int .i64 0)],[],places) :=
 ⟨[],by kernel_rfl⟩
theorem lifted (os:Os) (started:os.Started) (H:Type) (enc:TypeId × Value->H) (F:Stop.Interp) :
  ReturnsInHanded {} Tryz.checked os 4 .any ((OpenSpec.ofChange Rows.topFibonacciSpec).preRow enc Tryz.prog Tryz.f4 Rows.topFibonacciRow.domain false Rows.topFibonacciRow.laid) (((OpenSpec.ofChange Rows.topFibonacciSpec).at F).post enc Tryz.prog Tryz.f4 false true false false):=by
 obtain⟨places,hx⟩:=reads os enc;refine returnsInHanded_of_row (C:=Tryz.checked) (s:=OpenSpec.ofChange Rows.topFibonacciSpec) own started (by kernel_rfl) Tryz.func4
  (witness_row_at (enc:=enc) (C:=Tryz.checked) false (laidWorld os) #[.int .i64 0] rfl (by kernel_rfl) (by kernel_rfl) (by kernel_rfl)
   (OpenSpec.preRow_of_cond 8 hx (by kernel_rfl) (fun k hk=>by cases hk) (by kernel_rfl) (laid_met os _))) ?_
 intro W base args ds gs before hval hW _ _ _ hL hS _;exact contract H enc W base args ds gs before hval hW hL hS
theorem said:Rows.TopFibonacciSaid :=
 OpenClaim.holds_of_cond 4 Tryz.f4 rfl rfl rfl rfl rfl rfl rfl ⟨rfl,rfl,rfl,rfl,rfl⟩ rfl rfl rfl rfl rfl (by kernel_rfl) Tryz.func4 (by kernel_rfl)
  (of_decide_eq_true (by kernel_rfl)) (by unfold Func.isWrapper; first | (rw[if_pos (by decide +kernel)]; kernel_rfl) | (rw[if_neg (by decide +kernel)]; exact⟨rfl,rfl⟩))
  (fun os started H enc _ F=>by rw[OpenClaim.pre_eq_preRow]; exact lifted os started H enc F)
theorem plain (f:FuncId) (fn:Func) (hf:Tryz.pinned.checked.prog.funcNamed "remould/remouldtop.TopFibonacci" = some f) (hfn:Tryz.pinned.checked.prog.funcs[f]?=some fn) :
  true=Tryz.pinned.checked.prog.looks []/\∀(j:Nat) t,fn.params[j]?=some t->Tryz.pinned.checked.prog.wantsStandIn t=false:=by
 obtain rfl:f=4:=Option.some.inj ((show Tryz.prog.funcNamed "remould/remouldtop.TopFibonacci" = some 4 by kernel_rfl).symm.trans hf) |>.symm
 obtain rfl:fn=Tryz.f4:=(Option.some.inj (Tryz.func4.symm.trans hfn)).symm;refine⟨by kernel_rfl,fun j t ht=>?_⟩;rw[Tryz.params4]at ht;have hm:t∈[3]:=by simpa using Array.mem_of_getElem? ht
 have hall:([3].all fun u=>!Tryz.prog.wantsStandIn u)=true:=by kernel_rfl
 exact(show Tryz.prog.wantsStandIn t=false by simpa using List.all_eq_true.1 hall t (by simpa using hm))
theorem card:Rows.TopFibonacciCardSaid :=
 Claim7.holds_tied_plain_at .later [] _ _ _ _ said (fun _ h=>by cases h) (by kernel_rfl) (fun _ h=>by cases h) topFibonacci_row_tie rfl ⟨rfl,rfl⟩ (by kernel_rfl) rfl plain (by kernel_rfl)
end topFibonacci
theorem TopFibonacci_holds:Rows.TopFibonacciCardSaid:=topFibonacci.card
end Go.Proofs.YtaffkceklkdokaaGreatDoor
