/- A triple with one of its numbers exchanged: sorted anew. -/
import Derived.Test.YtaffkceklkdokaaGreatDoorTA
import Derived.Shelf.Sort.Plain
namespace Go.Proofs.YtaffkceklkdokaaGreatDoor
open Go.RowKit Go.Sort
attribute [local go_sem ↓] Go.wp_at_zero Go.wp_at_succ
end Go.Proofs.YtaffkceklkdokaaGreatDoor
