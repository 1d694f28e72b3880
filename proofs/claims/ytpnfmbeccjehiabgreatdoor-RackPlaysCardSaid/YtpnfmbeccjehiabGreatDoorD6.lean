/- D2's rule with operations that are not wanted: their slots are cleared. -/
import Derived.Test.YtpnfmbeccjehiabGreatDoorZ1
namespace Go.Proofs.YtpnfmbeccjehiabGreatDoor
open Go
open Go.RowKit
section
variable {P : Program} {Q : Exit -> Act -> World -> Prop}
/-- an operation that is not wanted -/
theorem StepG.skip {ops:Array Oper} {o:Oper} {K:Act->World->Prop} {a:Act} {w:World} {d:Nat} (hg:Region.wanted o (yielded ops a.tmps)=false) (hd:o.dst=some d) (hK:K (a.put (some d) undef) w):StepG P ops Q o K a w:=by
 unfold StepG;rw[if_neg (by rw[hg]; exact Bool.false_ne_true),hd];exact hK
theorem unwanted_some {ops:Array Oper} {o:Oper} {a:Act} {j d:Nat} {b:Bool} (h:o.guard=some (j,b)) (hj:((ops[j]?).bind (·.dst))=some d) (hb:a.eval (.tmp d)=.bool (!b)):Region.wanted o (yielded ops a.tmps)=false:=by
 have:a.tmps[d]?=some (.bool (!b)):=by
  simp only[Act.eval]at hb;rw[Array.getD_eq_getD_getElem?]at hb;cases ht:a.tmps[d]? with
  | none=>rw[ht]at hb; simp[undef]at hb
  | some u=>rw[ht]at hb; exact congrArg some hb
 have hy:yielded ops a.tmps j=some (!b):=by
  unfold yielded;rw[hj,Option.bind_some,this]
 unfold Region.wanted;rw[h];simp[hy]
end
end Go.Proofs.YtpnfmbeccjehiabGreatDoor
