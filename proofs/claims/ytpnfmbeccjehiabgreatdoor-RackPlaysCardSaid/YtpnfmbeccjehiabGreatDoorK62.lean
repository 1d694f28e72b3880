/- The reference's Order. -/
import Derived.Test.YtpnfmbeccjehiabGreatDoorZ7
set_option maxHeartbeats 2000000
namespace Go.Proofs.YtpnfmbeccjehiabGreatDoor
open Go.RowKit Go.Proofs.YtpnfmbeccjehiabGreatDoorW.PrintWords Go.Proofs.YtpnfmbeccjehiabGreatDoorW.PrintLast Go.Proofs.YtpnfmbeccjehiabGreatDoorW.PrintMore
attribute [local go_sem ↓] Go.wp_at_zero Go.wp_at_succ
theorem refOrder (o:Int) (w:World) :
  Calls Tryz.prog 5 #[.int .i64 o] w fun e w'=>e=.returned (.bool (decide (0<=o/\o<=3)))/\Below w.heap.size w w':=by
 by_cases h1:0<=o
 ·
  by_cases h2:o<=3
  ·
   rw[decide_eq_true (And.intro h1 h2)];go_enter Tryz.func5,Tryz.ntmps5;go_wp2_with fail
   go_ret
   exact⟨by simp[*],(by repeat (first | exact Below.refl _ _ | exact Nat.le_refl _ | refine Below.alloc ?_ ?_ _ | refine Below.setCell ?_ ?_ _ | refine Below.drew ?_ | refine bl_drewN ?_ _ | (assumption) | refine bl_call ?_ (by assumption) ?_ | omega | (simp <;> omega)))⟩
  ·
   rw[decide_eq_false (fun h=>h2 h.2)];go_enter Tryz.func5,Tryz.ntmps5;go_wp2_with fail
   go_ret
   exact⟨by simp[*],(by repeat (first | exact Below.refl _ _ | exact Nat.le_refl _ | refine Below.alloc ?_ ?_ _ | refine Below.setCell ?_ ?_ _ | refine Below.drew ?_ | refine bl_drewN ?_ _ | (assumption) | refine bl_call ?_ (by assumption) ?_ | omega | (simp <;> omega)))⟩
 ·
  rw[decide_eq_false (fun h=>h1 h.1)];go_enter Tryz.func5,Tryz.ntmps5;go_wp2_with fail
  go_ret
  exact⟨by simp[*],(by repeat (first | exact Below.refl _ _ | exact Nat.le_refl _ | refine Below.alloc ?_ ?_ _ | refine Below.setCell ?_ ?_ _ | refine Below.drew ?_ | refine bl_drewN ?_ _ | (assumption) | refine bl_call ?_ (by assumption) ?_ | omega | (simp <;> omega)))⟩
end Go.Proofs.YtpnfmbeccjehiabGreatDoor
