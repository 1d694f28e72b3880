/- The rack's Read of 3:3() is the list of 3. -/
import Derived.Test.YtaffkceklkdokaaGreatDoorZ6
namespace Go.Proofs.YtaffkceklkdokaaGreatDoor
open Go.RowKit
theorem read3:RK.readOf 1 [51,58,51,40,41]=some (RK.setOf [3]):=by kernel_rfl
theorem lst3:RK.lst 1 (RK.setOf [3]) = [3]:=by kernel_rfl
theorem RackRead3 (w:World) (ht:Tab w) :
  Calls Tryz.prog 54 #[.string ⟨#[51,58,51,40,41]⟩,.int .i64 1] w fun e w'=>∃sv,e=.returned (.tuple #[sv,.int .i64 0])/\w'.ownsRow w.heap.size 3 1 sv 1 (ints [3])/\Below w.heap.size w w':=by
 have h:=Read_yes 1 [51,58,51,40,41] (RK.setOf [3]) w (by decide) (by decide) ht read3;rw[lst3]at h;exact h
end Go.Proofs.YtaffkceklkdokaaGreatDoor
