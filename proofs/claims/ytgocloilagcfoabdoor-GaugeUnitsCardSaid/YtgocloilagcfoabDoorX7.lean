/- GaugeUnits: the plain facts on the powers with small exponents. -/
import Derived.Test.YtgocloilagcfoabDoorL1
import Derived.Test.YtgocloilagcfoabDoorL2
import Derived.Test.YtgocloilagcfoabDoorC5
import Derived.Test.YtgocloilagcfoabDoorR3
import Derived.Test.YtgocloilagcfoabDoorF1
namespace Go.Proofs.YtgocloilagcfoabDoor
open Go.RowKit
attribute [local go_sem ↓] Go.wp_at_zero Go.wp_at_succ

/-- the powers with small exponents: what the law asks of them -/
def GM.nrm2 (x : Int × Int) : Int := x.1 * x.1 + x.1 * x.2 - x.2 * x.2
theorem units_k : ∀ k : Fin 23, GM.nrm2 (GM.pt (k + 29)) = (if ((k : Nat) : Int) % 2 = 0 then -1 else 1) ∧ GM.sgn ((GM.pt (k + 29)).1 - (GM.pt (k + 30)).1) ((GM.pt (k + 29)).2 - (GM.pt (k + 30)).2) = -1 ∧ (GM.pt (k + 28)).1 + (GM.pt (k + 29)).1 = (GM.pt (k + 30)).1 ∧ (GM.pt (k + 28)).2 + (GM.pt (k + 29)).2 = (GM.pt (k + 30)).2 := by decide +kernel
theorem units_kn : ∀ k : Fin 23, ∀ n : Fin 23, GM.mul (GM.pt (k + 29)) (GM.pt (n + 29)) = GM.pt (k + n + 18) := by decide +kernel
theorem units_bd : ∀ k : Fin 47, -1000000 ≤ (GM.pt (k + 17)).1 ∧ (GM.pt (k + 17)).1 ≤ 1000000 ∧ -1000000 ≤ (GM.pt (k + 17)).2 ∧ (GM.pt (k + 17)).2 ≤ 1000000 := by decide +kernel
end Go.Proofs.YtgocloilagcfoabDoor
