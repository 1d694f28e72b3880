/-
  DERIVED. GIVEN WITH THE SEED: THE CARDS: each row of YtgocloilagcfoabDoorRows.lean that lists a variable, with what it lists TIED to the program's text (the seventh form; the later family's looks); each row that meets fmt, with fmt's text TOLD by the authors' own Lean function (tested against real Go, not proved from fmt's source: count such statements apart). THE CARD IS WHAT COUNTS. Prove the row's statement (the work); the ties are given (YtgocloilagcfoabDoorTie.lean); close each card by the builder's one call (the guide's Derived/Test/ToyasCard.lean, 'card_holds'). Laid BY PROGRAM, IN A SANDBOX (cutbox-door.mjs). By AI agents, Wed Nov 11 2026. No macro, syntax, notation, axiom, sorry.
-/
import Derived.Test.YtgocloilagcfoabDoorRows
import GoSem.ClaimSeven
namespace Go.Proofs.YtgocloilagcfoabDoor
namespace Rows

/-- THE TIED CARD OF 'remouldlaw04.GaugePowers'. -/
def gaugePowersCard : Claim7 := { stood := { row := gaugePowersRow, standIns := [], harness := (true, "4e3e45b1ce31a3cc55bac25d58279852cb1a56883100272a5df2ceb9d598b2b4"), looks := true }, kinds := [], alts := [], laidByText := true, laidKinds := [.data, .pinned], laidTests := true, laidLooks := .later }
def GaugePowersCardSaid : Prop := Claim7.holds Tryd.pinned (.plain (OpenSpec.ofChange gaugePowersSpec)) gaugePowersCard

/-- THE TIED CARD OF 'remouldlaw04.GaugeAdds'. -/
def gaugeAddsCard : Claim7 := { stood := { row := gaugeAddsRow, standIns := [], harness := (true, "4e3e45b1ce31a3cc55bac25d58279852cb1a56883100272a5df2ceb9d598b2b4"), looks := true }, kinds := [], alts := [], laidByText := true, laidKinds := [.data, .pinned], laidTests := true, laidLooks := .later }
def GaugeAddsCardSaid : Prop := Claim7.holds Tryd.pinned (.plain (OpenSpec.ofChange gaugeAddsSpec)) gaugeAddsCard

/-- THE TIED CARD OF 'remouldlaw04.GaugeProducts'. -/
def gaugeProductsCard : Claim7 := { stood := { row := gaugeProductsRow, standIns := [], harness := (true, "4e3e45b1ce31a3cc55bac25d58279852cb1a56883100272a5df2ceb9d598b2b4"), looks := true }, kinds := [], alts := [], laidByText := true, laidKinds := [.data, .pinned], laidTests := true, laidLooks := .later }
def GaugeProductsCardSaid : Prop := Claim7.holds Tryd.pinned (.plain (OpenSpec.ofChange gaugeProductsSpec)) gaugeProductsCard

/-- THE TIED CARD OF 'remouldlaw04.GaugeSums'. -/
def gaugeSumsCard : Claim7 := { stood := { row := gaugeSumsRow, standIns := [], harness := (true, "4e3e45b1ce31a3cc55bac25d58279852cb1a56883100272a5df2ceb9d598b2b4"), looks := true }, kinds := [], alts := [], laidByText := true, laidKinds := [.data, .pinned], laidTests := true, laidLooks := .later }
def GaugeSumsCardSaid : Prop := Claim7.holds Tryd.pinned (.plain (OpenSpec.ofChange gaugeSumsSpec)) gaugeSumsCard

/-- THE TIED CARD OF 'remouldlaw04.GaugeBelows'. -/
def gaugeBelowsCard : Claim7 := { stood := { row := gaugeBelowsRow, standIns := [], harness := (true, "4e3e45b1ce31a3cc55bac25d58279852cb1a56883100272a5df2ceb9d598b2b4"), looks := true }, kinds := [], alts := [], laidByText := true, laidKinds := [.data, .pinned], laidTests := true, laidLooks := .later }
def GaugeBelowsCardSaid : Prop := Claim7.holds Tryd.pinned (.plain (OpenSpec.ofChange gaugeBelowsSpec)) gaugeBelowsCard

/-- THE TIED CARD OF 'remouldlaw04.GaugeClimbed'. -/
def gaugeClimbedCard : Claim7 := { stood := { row := gaugeClimbedRow, standIns := [], harness := (true, "4e3e45b1ce31a3cc55bac25d58279852cb1a56883100272a5df2ceb9d598b2b4"), looks := true }, kinds := [], alts := [], laidByText := true, laidKinds := [.data, .pinned], laidTests := true, laidLooks := .later }
def GaugeClimbedCardSaid : Prop := Claim7.holds Tryd.pinned (.plain (OpenSpec.ofChange gaugeClimbedSpec)) gaugeClimbedCard

/-- THE TIED CARD OF 'remouldlaw04.GaugeWhole'. -/
def gaugeWholeCard : Claim7 := { stood := { row := gaugeWholeRow, standIns := [], harness := (true, "4e3e45b1ce31a3cc55bac25d58279852cb1a56883100272a5df2ceb9d598b2b4"), looks := true }, kinds := [], alts := [], laidByText := true, laidKinds := [.data, .pinned], laidTests := true, laidLooks := .later }
def GaugeWholeCardSaid : Prop := Claim7.holds Tryd.pinned (.plain (OpenSpec.ofChange gaugeWholeSpec)) gaugeWholeCard

/-- THE TIED CARD OF 'remouldlaw04.GaugeNorms'. -/
def gaugeNormsCard : Claim7 := { stood := { row := gaugeNormsRow, standIns := [], harness := (true, "4e3e45b1ce31a3cc55bac25d58279852cb1a56883100272a5df2ceb9d598b2b4"), looks := true }, kinds := [], alts := [], laidByText := true, laidKinds := [.data, .pinned], laidTests := true, laidLooks := .later }
def GaugeNormsCardSaid : Prop := Claim7.holds Tryd.pinned (.plain (OpenSpec.ofChange gaugeNormsSpec)) gaugeNormsCard

/-- THE TIED CARD OF 'remouldlaw04.GaugeCounted'. -/
def gaugeCountedCard : Claim7 := { stood := { row := gaugeCountedRow, standIns := [], harness := (true, "4e3e45b1ce31a3cc55bac25d58279852cb1a56883100272a5df2ceb9d598b2b4"), looks := true }, kinds := [], alts := [], laidByText := true, laidKinds := [.data, .pinned], laidTests := true, laidLooks := .later }
def GaugeCountedCardSaid : Prop := Claim7.holds Tryd.pinned (.plain (OpenSpec.ofChange gaugeCountedSpec)) gaugeCountedCard

/-- THE TIED CARD OF 'remouldlaw04.GaugeUnits'. -/
def gaugeUnitsCard : Claim7 := { stood := { row := gaugeUnitsRow, standIns := [], harness := (true, "4e3e45b1ce31a3cc55bac25d58279852cb1a56883100272a5df2ceb9d598b2b4"), looks := true }, kinds := [], alts := [], laidByText := true, laidKinds := [.data, .pinned], laidTests := true, laidLooks := .later }
def GaugeUnitsCardSaid : Prop := Claim7.holds Tryd.pinned (.plain (OpenSpec.ofChange gaugeUnitsSpec)) gaugeUnitsCard

/-- THE TIED CARD OF 'remouldlaw04.GaugeFloors'. -/
def gaugeFloorsCard : Claim7 := { stood := { row := gaugeFloorsRow, standIns := [], harness := (true, "4e3e45b1ce31a3cc55bac25d58279852cb1a56883100272a5df2ceb9d598b2b4"), looks := true }, kinds := [], alts := [], laidByText := true, laidKinds := [.data, .pinned], laidTests := true, laidLooks := .later }
def GaugeFloorsCardSaid : Prop := Claim7.holds Tryd.pinned (.plain (OpenSpec.ofChange gaugeFloorsSpec)) gaugeFloorsCard

/-- THE SECOND FORM's CARD OF 'remouldlaw04.GaugePowers'. -/
def gaugePowersUptoCard : Claim7 := { stood := { row := gaugePowersUptoRow, standIns := [], harness := (true, "4e3e45b1ce31a3cc55bac25d58279852cb1a56883100272a5df2ceb9d598b2b4"), looks := true }, kinds := [], alts := [], laidByText := true, laidKinds := [.data, .pinned], laidTests := true, laidLooks := .later }
def GaugePowersUptoCardSaid : Prop := Claim7.holds Tryd.pinned (.plain (OpenSpec.upto gaugePowersSpec)) gaugePowersUptoCard

/-- THE SECOND FORM's CARD OF 'remouldlaw04.GaugeAdds'. -/
def gaugeAddsUptoCard : Claim7 := { stood := { row := gaugeAddsUptoRow, standIns := [], harness := (true, "4e3e45b1ce31a3cc55bac25d58279852cb1a56883100272a5df2ceb9d598b2b4"), looks := true }, kinds := [], alts := [], laidByText := true, laidKinds := [.data, .pinned], laidTests := true, laidLooks := .later }
def GaugeAddsUptoCardSaid : Prop := Claim7.holds Tryd.pinned (.plain (OpenSpec.upto gaugeAddsSpec)) gaugeAddsUptoCard

/-- THE SECOND FORM's CARD OF 'remouldlaw04.GaugeProducts'. -/
def gaugeProductsUptoCard : Claim7 := { stood := { row := gaugeProductsUptoRow, standIns := [], harness := (true, "4e3e45b1ce31a3cc55bac25d58279852cb1a56883100272a5df2ceb9d598b2b4"), looks := true }, kinds := [], alts := [], laidByText := true, laidKinds := [.data, .pinned], laidTests := true, laidLooks := .later }
def GaugeProductsUptoCardSaid : Prop := Claim7.holds Tryd.pinned (.plain (OpenSpec.upto gaugeProductsSpec)) gaugeProductsUptoCard

/-- THE SECOND FORM's CARD OF 'remouldlaw04.GaugeSums'. -/
def gaugeSumsUptoCard : Claim7 := { stood := { row := gaugeSumsUptoRow, standIns := [], harness := (true, "4e3e45b1ce31a3cc55bac25d58279852cb1a56883100272a5df2ceb9d598b2b4"), looks := true }, kinds := [], alts := [], laidByText := true, laidKinds := [.data, .pinned], laidTests := true, laidLooks := .later }
def GaugeSumsUptoCardSaid : Prop := Claim7.holds Tryd.pinned (.plain (OpenSpec.upto gaugeSumsSpec)) gaugeSumsUptoCard

/-- THE SECOND FORM's CARD OF 'remouldlaw04.GaugeBelows'. -/
def gaugeBelowsUptoCard : Claim7 := { stood := { row := gaugeBelowsUptoRow, standIns := [], harness := (true, "4e3e45b1ce31a3cc55bac25d58279852cb1a56883100272a5df2ceb9d598b2b4"), looks := true }, kinds := [], alts := [], laidByText := true, laidKinds := [.data, .pinned], laidTests := true, laidLooks := .later }
def GaugeBelowsUptoCardSaid : Prop := Claim7.holds Tryd.pinned (.plain (OpenSpec.upto gaugeBelowsSpec)) gaugeBelowsUptoCard

/-- THE SECOND FORM's CARD OF 'remouldlaw04.GaugeClimbed'. -/
def gaugeClimbedUptoCard : Claim7 := { stood := { row := gaugeClimbedUptoRow, standIns := [], harness := (true, "4e3e45b1ce31a3cc55bac25d58279852cb1a56883100272a5df2ceb9d598b2b4"), looks := true }, kinds := [], alts := [], laidByText := true, laidKinds := [.data, .pinned], laidTests := true, laidLooks := .later }
def GaugeClimbedUptoCardSaid : Prop := Claim7.holds Tryd.pinned (.plain (OpenSpec.upto gaugeClimbedSpec)) gaugeClimbedUptoCard

/-- THE SECOND FORM's CARD OF 'remouldlaw04.GaugeWhole'. -/
def gaugeWholeUptoCard : Claim7 := { stood := { row := gaugeWholeUptoRow, standIns := [], harness := (true, "4e3e45b1ce31a3cc55bac25d58279852cb1a56883100272a5df2ceb9d598b2b4"), looks := true }, kinds := [], alts := [], laidByText := true, laidKinds := [.data, .pinned], laidTests := true, laidLooks := .later }
def GaugeWholeUptoCardSaid : Prop := Claim7.holds Tryd.pinned (.plain (OpenSpec.upto gaugeWholeSpec)) gaugeWholeUptoCard

/-- THE SECOND FORM's CARD OF 'remouldlaw04.GaugeNorms'. -/
def gaugeNormsUptoCard : Claim7 := { stood := { row := gaugeNormsUptoRow, standIns := [], harness := (true, "4e3e45b1ce31a3cc55bac25d58279852cb1a56883100272a5df2ceb9d598b2b4"), looks := true }, kinds := [], alts := [], laidByText := true, laidKinds := [.data, .pinned], laidTests := true, laidLooks := .later }
def GaugeNormsUptoCardSaid : Prop := Claim7.holds Tryd.pinned (.plain (OpenSpec.upto gaugeNormsSpec)) gaugeNormsUptoCard

/-- THE SECOND FORM's CARD OF 'remouldlaw04.GaugeCounted'. -/
def gaugeCountedUptoCard : Claim7 := { stood := { row := gaugeCountedUptoRow, standIns := [], harness := (true, "4e3e45b1ce31a3cc55bac25d58279852cb1a56883100272a5df2ceb9d598b2b4"), looks := true }, kinds := [], alts := [], laidByText := true, laidKinds := [.data, .pinned], laidTests := true, laidLooks := .later }
def GaugeCountedUptoCardSaid : Prop := Claim7.holds Tryd.pinned (.plain (OpenSpec.upto gaugeCountedSpec)) gaugeCountedUptoCard

/-- THE SECOND FORM's CARD OF 'remouldlaw04.GaugeUnits'. -/
def gaugeUnitsUptoCard : Claim7 := { stood := { row := gaugeUnitsUptoRow, standIns := [], harness := (true, "4e3e45b1ce31a3cc55bac25d58279852cb1a56883100272a5df2ceb9d598b2b4"), looks := true }, kinds := [], alts := [], laidByText := true, laidKinds := [.data, .pinned], laidTests := true, laidLooks := .later }
def GaugeUnitsUptoCardSaid : Prop := Claim7.holds Tryd.pinned (.plain (OpenSpec.upto gaugeUnitsSpec)) gaugeUnitsUptoCard

/-- THE SECOND FORM's CARD OF 'remouldlaw04.GaugeFloors'. -/
def gaugeFloorsUptoCard : Claim7 := { stood := { row := gaugeFloorsUptoRow, standIns := [], harness := (true, "4e3e45b1ce31a3cc55bac25d58279852cb1a56883100272a5df2ceb9d598b2b4"), looks := true }, kinds := [], alts := [], laidByText := true, laidKinds := [.data, .pinned], laidTests := true, laidLooks := .later }
def GaugeFloorsUptoCardSaid : Prop := Claim7.holds Tryd.pinned (.plain (OpenSpec.upto gaugeFloorsSpec)) gaugeFloorsUptoCard
end Rows
end Go.Proofs.YtgocloilagcfoabDoor
