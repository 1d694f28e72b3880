/- The library's functions, by the shelf's contracts, at this program's numbers. -/
import Derived.Shelf.Lays
import Derived.Shelf.Strings.Builder1
import Derived.Shelf.Strings.Search1
import Derived.Test.YtaffkceklkdokaaGreatDoorProg
namespace Go.Proofs.YtaffkceklkdokaaGreatDoor.GG
open Go.Shelf
end Go.Proofs.YtaffkceklkdokaaGreatDoor.GG
