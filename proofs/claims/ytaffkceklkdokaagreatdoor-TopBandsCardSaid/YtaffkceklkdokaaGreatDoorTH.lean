/- The gauge's powers and norms that TopFibonacci asks for, and the word of five gaps. -/
import Derived.Test.YtaffkceklkdokaaGreatDoorYG
import Derived.Test.YtaffkceklkdokaaGreatDoorYE
import Derived.Test.YtaffkceklkdokaaGreatDoorYB
import Derived.Test.YtaffkceklkdokaaGreatDoorTF
namespace Go.Proofs.YtaffkceklkdokaaGreatDoor
open Go.RowKit
theorem gaps5 (w:World):Calls Tryz.prog 100 #[.int .i64 5] w fun e w'=>e=.returned (.tuple #[.string ⟨#[76,83,76,76,83]⟩,.int .i64 0])/\Below w.heap.size w w':=by
 have h:=GG.Gaps_yes 5 w (by decide);rw[show GM.gaps 5 = [76,83,76,76,83] by kernel_rfl]at h;exact h
/-- the first number of a power -/
def pa (j k:Nat):Int:=(GM.pt (j+2 * k)).1
open Go.RowKit
attribute [local go_sem ↓] Go.wp_at_zero Go.wp_at_succ
end Go.Proofs.YtaffkceklkdokaaGreatDoor
