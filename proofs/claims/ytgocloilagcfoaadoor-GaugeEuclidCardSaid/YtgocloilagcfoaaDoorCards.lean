/-
  DERIVED. GIVEN WITH THE SEED: THE CARDS: each row of YtgocloilagcfoaaDoorRows.lean that lists a variable, with what it lists TIED to the program's text (the seventh form; the later family's looks); each row that meets fmt, with fmt's text TOLD by the authors' own Lean function (tested against real Go, not proved from fmt's source: count such statements apart). THE CARD IS WHAT COUNTS. Prove the row's statement (the work); the ties are given (YtgocloilagcfoaaDoorTie.lean); close each card by the builder's one call (the guide's Derived/Test/ToyasCard.lean, 'card_holds'). Laid BY PROGRAM, IN A SANDBOX (cutbox-door.mjs). By AI agents, Wed Nov 11 2026. No macro, syntax, notation, axiom, sorry.
-/
import Derived.Test.YtgocloilagcfoaaDoorRows
import GoSem.ClaimSeven
namespace Go.Proofs.YtgocloilagcfoaaDoor
namespace Rows

/-- THE TIED CARD OF 'remouldlaw04.GaugeTexts'. -/
def gaugeTextsCard : Claim7 := { stood := { row := gaugeTextsRow, standIns := [], harness := (true, "629c9c38afd94fb6057c7add2b0cead01321291cb8db713288cec29b186293d1"), looks := true }, kinds := [], alts := [], laidByText := true, laidKinds := [.data, .pinned], laidTests := true, laidLooks := .later }
def GaugeTextsCardSaid : Prop := Claim7.holds Tryd.pinned (.plain (OpenSpec.ofChange gaugeTextsSpec)) gaugeTextsCard

/-- THE TIED CARD OF 'remouldlaw04.GaugeDivides'. -/
def gaugeDividesCard : Claim7 := { stood := { row := gaugeDividesRow, standIns := [], harness := (true, "629c9c38afd94fb6057c7add2b0cead01321291cb8db713288cec29b186293d1"), looks := true }, kinds := [], alts := [], laidByText := true, laidKinds := [.data, .pinned], laidTests := true, laidLooks := .later }
def GaugeDividesCardSaid : Prop := Claim7.holds Tryd.pinned (.plain (OpenSpec.ofChange gaugeDividesSpec)) gaugeDividesCard

/-- THE TIED CARD OF 'remouldlaw04.GaugeGrown'. -/
def gaugeGrownCard : Claim7 := { stood := { row := gaugeGrownRow, standIns := [], harness := (true, "629c9c38afd94fb6057c7add2b0cead01321291cb8db713288cec29b186293d1"), looks := true }, kinds := [], alts := [], laidByText := true, laidKinds := [.data, .pinned], laidTests := true, laidLooks := .later }
def GaugeGrownCardSaid : Prop := Claim7.holds Tryd.pinned (.plain (OpenSpec.ofChange gaugeGrownSpec)) gaugeGrownCard

/-- THE TIED CARD OF 'remouldlaw04.GaugeEuclid'. -/
def gaugeEuclidCard : Claim7 := { stood := { row := gaugeEuclidRow, standIns := [], harness := (true, "629c9c38afd94fb6057c7add2b0cead01321291cb8db713288cec29b186293d1"), looks := true }, kinds := [], alts := [], laidByText := true, laidKinds := [.data, .pinned], laidTests := true, laidLooks := .later }
def GaugeEuclidCardSaid : Prop := Claim7.holds Tryd.pinned (.plain (OpenSpec.ofChange gaugeEuclidSpec)) gaugeEuclidCard

/-- THE TIED CARD OF 'remouldlaw04.GaugeValues'. -/
def gaugeValuesCard : Claim7 := { stood := { row := gaugeValuesRow, standIns := [], harness := (true, "629c9c38afd94fb6057c7add2b0cead01321291cb8db713288cec29b186293d1"), looks := true }, kinds := [], alts := [], laidByText := true, laidKinds := [.data, .pinned], laidTests := true, laidLooks := .later }
def GaugeValuesCardSaid : Prop := Claim7.holds Tryd.pinned (.plain (OpenSpec.ofChange gaugeValuesSpec)) gaugeValuesCard

/-- THE TIED CARD OF 'remouldlaw04.GaugeBack'. -/
def gaugeBackCard : Claim7 := { stood := { row := gaugeBackRow, standIns := [], harness := (true, "629c9c38afd94fb6057c7add2b0cead01321291cb8db713288cec29b186293d1"), looks := true }, kinds := [], alts := [], laidByText := true, laidKinds := [.data, .pinned], laidTests := true, laidLooks := .later }
def GaugeBackCardSaid : Prop := Claim7.holds Tryd.pinned (.plain (OpenSpec.ofChange gaugeBackSpec)) gaugeBackCard

/-- THE TIED CARD OF 'remouldlaw04.GaugeOnce'. -/
def gaugeOnceCard : Claim7 := { stood := { row := gaugeOnceRow, standIns := [], harness := (true, "629c9c38afd94fb6057c7add2b0cead01321291cb8db713288cec29b186293d1"), looks := true }, kinds := [], alts := [], laidByText := true, laidKinds := [.data, .pinned], laidTests := true, laidLooks := .later }
def GaugeOnceCardSaid : Prop := Claim7.holds Tryd.pinned (.plain (OpenSpec.ofChange gaugeOnceSpec)) gaugeOnceCard

/-- THE TIED CARD OF 'remouldlaw04.GaugeCarried'. -/
def gaugeCarriedCard : Claim7 := { stood := { row := gaugeCarriedRow, standIns := [], harness := (true, "629c9c38afd94fb6057c7add2b0cead01321291cb8db713288cec29b186293d1"), looks := true }, kinds := [], alts := [], laidByText := true, laidKinds := [.data, .pinned], laidTests := true, laidLooks := .later }
def GaugeCarriedCardSaid : Prop := Claim7.holds Tryd.pinned (.plain (OpenSpec.ofChange gaugeCarriedSpec)) gaugeCarriedCard

/-- THE TIED CARD OF 'remouldlaw04.GaugeCompares'. -/
def gaugeComparesCard : Claim7 := { stood := { row := gaugeComparesRow, standIns := [], harness := (true, "629c9c38afd94fb6057c7add2b0cead01321291cb8db713288cec29b186293d1"), looks := true }, kinds := [], alts := [], laidByText := true, laidKinds := [.data, .pinned], laidTests := true, laidLooks := .later }
def GaugeComparesCardSaid : Prop := Claim7.holds Tryd.pinned (.plain (OpenSpec.ofChange gaugeComparesSpec)) gaugeComparesCard

/-- THE TIED CARD OF 'remouldlaw04.GaugeRungs'. -/
def gaugeRungsCard : Claim7 := { stood := { row := gaugeRungsRow, standIns := [], harness := (true, "629c9c38afd94fb6057c7add2b0cead01321291cb8db713288cec29b186293d1"), looks := true }, kinds := [], alts := [], laidByText := true, laidKinds := [.data, .pinned], laidTests := true, laidLooks := .later }
def GaugeRungsCardSaid : Prop := Claim7.holds Tryd.pinned (.plain (OpenSpec.ofChange gaugeRungsSpec)) gaugeRungsCard

/-- THE TIED CARD OF 'remouldlaw04.GaugeOrdered'. -/
def gaugeOrderedCard : Claim7 := { stood := { row := gaugeOrderedRow, standIns := [], harness := (true, "629c9c38afd94fb6057c7add2b0cead01321291cb8db713288cec29b186293d1"), looks := true }, kinds := [], alts := [], laidByText := true, laidKinds := [.data, .pinned], laidTests := true, laidLooks := .later }
def GaugeOrderedCardSaid : Prop := Claim7.holds Tryd.pinned (.plain (OpenSpec.ofChange gaugeOrderedSpec)) gaugeOrderedCard

/-- THE TIED CARD OF 'remouldlaw04.GaugeLeft'. -/
def gaugeLeftCard : Claim7 := { stood := { row := gaugeLeftRow, standIns := [], harness := (true, "629c9c38afd94fb6057c7add2b0cead01321291cb8db713288cec29b186293d1"), looks := true }, kinds := [], alts := [], laidByText := true, laidKinds := [.data, .pinned], laidTests := true, laidLooks := .later }
def GaugeLeftCardSaid : Prop := Claim7.holds Tryd.pinned (.plain (OpenSpec.ofChange gaugeLeftSpec)) gaugeLeftCard

/-- THE SECOND FORM's CARD OF 'remouldlaw04.GaugeTexts'. -/
def gaugeTextsUptoCard : Claim7 := { stood := { row := gaugeTextsUptoRow, standIns := [], harness := (true, "629c9c38afd94fb6057c7add2b0cead01321291cb8db713288cec29b186293d1"), looks := true }, kinds := [], alts := [], laidByText := true, laidKinds := [.data, .pinned], laidTests := true, laidLooks := .later }
def GaugeTextsUptoCardSaid : Prop := Claim7.holds Tryd.pinned (.plain (OpenSpec.upto gaugeTextsSpec)) gaugeTextsUptoCard

/-- THE SECOND FORM's CARD OF 'remouldlaw04.GaugeDivides'. -/
def gaugeDividesUptoCard : Claim7 := { stood := { row := gaugeDividesUptoRow, standIns := [], harness := (true, "629c9c38afd94fb6057c7add2b0cead01321291cb8db713288cec29b186293d1"), looks := true }, kinds := [], alts := [], laidByText := true, laidKinds := [.data, .pinned], laidTests := true, laidLooks := .later }
def GaugeDividesUptoCardSaid : Prop := Claim7.holds Tryd.pinned (.plain (OpenSpec.upto gaugeDividesSpec)) gaugeDividesUptoCard

/-- THE SECOND FORM's CARD OF 'remouldlaw04.GaugeGrown'. -/
def gaugeGrownUptoCard : Claim7 := { stood := { row := gaugeGrownUptoRow, standIns := [], harness := (true, "629c9c38afd94fb6057c7add2b0cead01321291cb8db713288cec29b186293d1"), looks := true }, kinds := [], alts := [], laidByText := true, laidKinds := [.data, .pinned], laidTests := true, laidLooks := .later }
def GaugeGrownUptoCardSaid : Prop := Claim7.holds Tryd.pinned (.plain (OpenSpec.upto gaugeGrownSpec)) gaugeGrownUptoCard

/-- THE SECOND FORM's CARD OF 'remouldlaw04.GaugeEuclid'. -/
def gaugeEuclidUptoCard : Claim7 := { stood := { row := gaugeEuclidUptoRow, standIns := [], harness := (true, "629c9c38afd94fb6057c7add2b0cead01321291cb8db713288cec29b186293d1"), looks := true }, kinds := [], alts := [], laidByText := true, laidKinds := [.data, .pinned], laidTests := true, laidLooks := .later }
def GaugeEuclidUptoCardSaid : Prop := Claim7.holds Tryd.pinned (.plain (OpenSpec.upto gaugeEuclidSpec)) gaugeEuclidUptoCard

/-- THE SECOND FORM's CARD OF 'remouldlaw04.GaugeValues'. -/
def gaugeValuesUptoCard : Claim7 := { stood := { row := gaugeValuesUptoRow, standIns := [], harness := (true, "629c9c38afd94fb6057c7add2b0cead01321291cb8db713288cec29b186293d1"), looks := true }, kinds := [], alts := [], laidByText := true, laidKinds := [.data, .pinned], laidTests := true, laidLooks := .later }
def GaugeValuesUptoCardSaid : Prop := Claim7.holds Tryd.pinned (.plain (OpenSpec.upto gaugeValuesSpec)) gaugeValuesUptoCard

/-- THE SECOND FORM's CARD OF 'remouldlaw04.GaugeBack'. -/
def gaugeBackUptoCard : Claim7 := { stood := { row := gaugeBackUptoRow, standIns := [], harness := (true, "629c9c38afd94fb6057c7add2b0cead01321291cb8db713288cec29b186293d1"), looks := true }, kinds := [], alts := [], laidByText := true, laidKinds := [.data, .pinned], laidTests := true, laidLooks := .later }
def GaugeBackUptoCardSaid : Prop := Claim7.holds Tryd.pinned (.plain (OpenSpec.upto gaugeBackSpec)) gaugeBackUptoCard

/-- THE SECOND FORM's CARD OF 'remouldlaw04.GaugeOnce'. -/
def gaugeOnceUptoCard : Claim7 := { stood := { row := gaugeOnceUptoRow, standIns := [], harness := (true, "629c9c38afd94fb6057c7add2b0cead01321291cb8db713288cec29b186293d1"), looks := true }, kinds := [], alts := [], laidByText := true, laidKinds := [.data, .pinned], laidTests := true, laidLooks := .later }
def GaugeOnceUptoCardSaid : Prop := Claim7.holds Tryd.pinned (.plain (OpenSpec.upto gaugeOnceSpec)) gaugeOnceUptoCard

/-- THE SECOND FORM's CARD OF 'remouldlaw04.GaugeCarried'. -/
def gaugeCarriedUptoCard : Claim7 := { stood := { row := gaugeCarriedUptoRow, standIns := [], harness := (true, "629c9c38afd94fb6057c7add2b0cead01321291cb8db713288cec29b186293d1"), looks := true }, kinds := [], alts := [], laidByText := true, laidKinds := [.data, .pinned], laidTests := true, laidLooks := .later }
def GaugeCarriedUptoCardSaid : Prop := Claim7.holds Tryd.pinned (.plain (OpenSpec.upto gaugeCarriedSpec)) gaugeCarriedUptoCard

/-- THE SECOND FORM's CARD OF 'remouldlaw04.GaugeCompares'. -/
def gaugeComparesUptoCard : Claim7 := { stood := { row := gaugeComparesUptoRow, standIns := [], harness := (true, "629c9c38afd94fb6057c7add2b0cead01321291cb8db713288cec29b186293d1"), looks := true }, kinds := [], alts := [], laidByText := true, laidKinds := [.data, .pinned], laidTests := true, laidLooks := .later }
def GaugeComparesUptoCardSaid : Prop := Claim7.holds Tryd.pinned (.plain (OpenSpec.upto gaugeComparesSpec)) gaugeComparesUptoCard

/-- THE SECOND FORM's CARD OF 'remouldlaw04.GaugeRungs'. -/
def gaugeRungsUptoCard : Claim7 := { stood := { row := gaugeRungsUptoRow, standIns := [], harness := (true, "629c9c38afd94fb6057c7add2b0cead01321291cb8db713288cec29b186293d1"), looks := true }, kinds := [], alts := [], laidByText := true, laidKinds := [.data, .pinned], laidTests := true, laidLooks := .later }
def GaugeRungsUptoCardSaid : Prop := Claim7.holds Tryd.pinned (.plain (OpenSpec.upto gaugeRungsSpec)) gaugeRungsUptoCard

/-- THE SECOND FORM's CARD OF 'remouldlaw04.GaugeOrdered'. -/
def gaugeOrderedUptoCard : Claim7 := { stood := { row := gaugeOrderedUptoRow, standIns := [], harness := (true, "629c9c38afd94fb6057c7add2b0cead01321291cb8db713288cec29b186293d1"), looks := true }, kinds := [], alts := [], laidByText := true, laidKinds := [.data, .pinned], laidTests := true, laidLooks := .later }
def GaugeOrderedUptoCardSaid : Prop := Claim7.holds Tryd.pinned (.plain (OpenSpec.upto gaugeOrderedSpec)) gaugeOrderedUptoCard

/-- THE SECOND FORM's CARD OF 'remouldlaw04.GaugeLeft'. -/
def gaugeLeftUptoCard : Claim7 := { stood := { row := gaugeLeftUptoRow, standIns := [], harness := (true, "629c9c38afd94fb6057c7add2b0cead01321291cb8db713288cec29b186293d1"), looks := true }, kinds := [], alts := [], laidByText := true, laidKinds := [.data, .pinned], laidTests := true, laidLooks := .later }
def GaugeLeftUptoCardSaid : Prop := Claim7.holds Tryd.pinned (.plain (OpenSpec.upto gaugeLeftSpec)) gaugeLeftUptoCard
end Rows
end Go.Proofs.YtgocloilagcfoaaDoor
