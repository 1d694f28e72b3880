/- The library's TrimLeft at "0" cuts off the leading noughts; its Cut at "." parts a text at the first point. -/
import Derived.Test.YtaffkceklkdokaaGreatDoorSH
import Derived.Test.YtaffkceklkdokaaGreatDoorYB
import Derived.Test.YtaffkceklkdokaaGreatDoorZ1
import Derived.Lib.Strings
import Derived.Lib.TrimByte
import Derived.Laws.Strings3
import Derived.Lib.IndexLaws
namespace Go.Proofs.YtaffkceklkdokaaGreatDoor.GG
open Go.RowKit
attribute [local go_sem ↓] Go.wp_at_zero Go.wp_at_succ
theorem str_size (l:List UInt8):(⟨l.toArray⟩:ByteArray).size=l.length:=by simp[ByteArray.size]
end Go.Proofs.YtaffkceklkdokaaGreatDoor.GG
/- The library's Cut at "." parts a text at its first point. -/
namespace Go.Proofs.YtaffkceklkdokaaGreatDoor.GG
open Go.RowKit
attribute [local go_sem ↓] Go.wp_at_zero Go.wp_at_succ
/-- ahead of the first point, and behind it -/
def before (l:List UInt8):List UInt8:=l.takeWhile (· != 46)
end Go.Proofs.YtaffkceklkdokaaGreatDoor.GG
