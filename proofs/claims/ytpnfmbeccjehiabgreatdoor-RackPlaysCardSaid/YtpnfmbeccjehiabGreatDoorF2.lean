/- A world for the cards' witness: the listed variables laid; what the rack's laws ask of the start. -/
import Derived.Test.YtpnfmbeccjehiabGreatDoorCards
import Derived.Test.YtpnfmbeccjehiabGreatDoorTie
import Derived.WalkKit
import Derived.ProofKit
import Derived.OpenShut
import Derived.Deep.DeepHandedRow
import Derived.Lib.LaidTab
import Derived.Lib.LaidU8
import Derived.Lib.SmallJoins
import Derived.PinnedBridge
import Derived.Lay
import Derived.LaidOnce
import Derived.SevenTiedAt
import Derived.ChangeSlices
import Derived.Carry
import Derived.Test.YtpnfmbeccjehiabGreatDoorZ7
set_option maxRecDepth 100000
namespace Go.Proofs.YtpnfmbeccjehiabGreatDoor
open Go.ChangeShapes Go.WideShapes Go.ChangeAt Go.RowKit Go.Proofs.YtpnfmbeccjehiabGreatDoorW.PrintWords Go.Proofs.YtpnfmbeccjehiabGreatDoorW.PrintLast Go.Proofs.YtpnfmbeccjehiabGreatDoorW.PrintMore
theorem own:ownKnob Tryz.prog.godebug=none:=by kernel_rfl
theorem inI {x:Int} (h:(Lit.int .i64 x).wf=true) : -9223372036854775808<=x/\x<=9223372036854775807:=by
 simpa[Lit.wf,IntKind.min,IntKind.max,IntKind.signed,IntKind.bits]using h
/-- the listed variables -/
noncomputable def tabs:List (String × DataW Unit):=[("math/bits.deBruijn32tab",Rows.laid_math_bits_deBruijn32tab),("math/bits.deBruijn64tab",Rows.laid_math_bits_deBruijn64tab),("internal/strconv.uint64pow10",Rows.laid_internal_strconv_uint64pow10),("unicode/utf8.acceptRanges",Rows.laid_unicode_utf8_acceptRanges),("strconv.ErrRange",Rows.laid_strconv_ErrRange),("strconv.ErrSyntax",Rows.laid_strconv_ErrSyntax),("unicode/utf8.first",Rows.laid_unicode_utf8_first)]
noncomputable def laidWorld (os:Os):World:=World.laidAll Tryz.prog os tabs
theorem laid_met (os:Os) (args:Array Value):laidMet Tryz.prog tabs ((laidWorld os).forCall (fun _ _=>0) ⟨#[],args,[]⟩).memory :=
 laidMet_laidAll args (by kernel_rfl) (by kernel_rfl)
theorem laidOut:laidOutB Tryz.prog=true:=by kernel_rfl
theorem pow_data:(Rows.laid_internal_strconv_uint64pow10:DataW Unit)=Lib.tabData .u64 Lib.pow10Tab:=by kernel_rfl
theorem no_handle:(tabs.filter fun x=>x.2.handleName?.isSome) = []:=by kernel_rfl
theorem tab_of {W:World} (h:laidMetH Tryz.prog tabs W):Tab W:=by
 have h':laidMet Tryz.prog tabs W:=by
  unfold laidMetH at h;rw[no_handle]at h;exact h
 clear h;have hr:Lib.VarReads Tryz.prog W "internal/strconv.uint64pow10" Rows.laid_internal_strconv_uint64pow10:=Lib.laidMet.reads h' (.tail _ (.tail _ (.head _)))
 obtain⟨g',t',cs,fuel,p,hg',ht',hvar,hd⟩:=hr;have hg:Tryz.prog.globalNamed "internal/strconv.uint64pow10" = some (lays171_ren.g 17):=by kernel_rfl
 obtain rfl:=Option.some.inj (hg.symm.trans hg');have hty:(Tryz.prog.globals[lays171_ren.g 17]?).map (·.type)=some 149:=by kernel_rfl
 obtain rfl:=Option.some.inj (hty.symm.trans ht');have ht:Lib.TabIs Tryz.prog W "internal/strconv.uint64pow10" .u64 Lib.pow10Tab:=by
  unfold Lib.TabIs;rw[pow_data]at hd;rw[hvar,<-Lib.cells_of_tab (n:=20) (e:=123) Tryz.underlying149 Tryz.underlying123 (by kernel_rfl) (by kernel_rfl) hd]
 exact⟨ht,block_lt_of_cell (ht.cell hg 0 (by decide))⟩
end Go.Proofs.YtpnfmbeccjehiabGreatDoor
