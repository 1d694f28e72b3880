/- Compare, floor, product, mate, norm and their like return what they compute. -/
import Derived.Test.YtaffkceklkdokaaGreatDoorYA
import Derived.Deep.RegionHeld3
import Derived.Deep.DrawnRows
import Derived.Deep.DeepCutAuto
import Derived.Test.YtaffkceklkdokaaGreatDoorZ1
namespace Go.Proofs.YtaffkceklkdokaaGreatDoor.GG
open Go.RowKit
attribute [local go_sem ↓] Go.wp_at_zero Go.wp_at_succ
end Go.Proofs.YtaffkceklkdokaaGreatDoor.GG
/- Product, Mate, Norm, floor and Floor return what they compute, or the error. -/
namespace Go.Proofs.YtaffkceklkdokaaGreatDoor.GG
open Go.RowKit
attribute [local go_sem ↓] Go.wp_at_zero Go.wp_at_succ
end Go.Proofs.YtaffkceklkdokaaGreatDoor.GG
/- nearest and Divide return what they compute, or the error. -/
namespace Go.Proofs.YtaffkceklkdokaaGreatDoor.GG
open Go.RowKit
attribute [local go_sem ↓] Go.wp_at_zero Go.wp_at_succ
end Go.Proofs.YtaffkceklkdokaaGreatDoor.GG
/- Divide returns the quotient and the rest, or the error. -/
namespace Go.Proofs.YtaffkceklkdokaaGreatDoor.GG
open Go.RowKit
attribute [local go_sem ↓] Go.wp_at_zero Go.wp_at_succ
end Go.Proofs.YtaffkceklkdokaaGreatDoor.GG
