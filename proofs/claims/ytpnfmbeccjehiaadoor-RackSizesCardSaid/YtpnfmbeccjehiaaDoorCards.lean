/-
  DERIVED. GIVEN WITH THE SEED: THE CARDS: each row of YtpnfmbeccjehiaaDoorRows.lean that lists a variable, with what it lists TIED to the program's text (the seventh form; the later family's looks); each row that meets fmt, with fmt's text TOLD by the authors' own Lean function (tested against real Go, not proved from fmt's source: count such statements apart). THE CARD IS WHAT COUNTS. Prove the row's statement (the work); the ties are given (YtpnfmbeccjehiaaDoorTie.lean); close each card by the builder's one call (the guide's Derived/Test/ToyasCard.lean, 'card_holds'). Laid BY PROGRAM, IN A SANDBOX (cutbox-door.mjs). By AI agents, Wed Nov 11 2026. No macro, syntax, notation, axiom, sorry.
-/
import Derived.Test.YtpnfmbeccjehiaaDoorRows
import GoSem.ClaimSeven
namespace Go.Proofs.YtpnfmbeccjehiaaDoor
namespace Rows

/-- THE TIED CARD OF 'remouldlaw07.RackReads'. -/
def rackReadsCard : Claim7 := { stood := { row := rackReadsRow, standIns := [], harness := (true, "7d21da7dcef089a60571d917c2a124ad612ade0bb950018b61eca10449845667"), looks := true }, kinds := [], alts := [], laidByText := true, laidKinds := [.data, .data, .data, .data, .sentinel, .sentinel, .pinned], laidTests := true, laidLooks := .later }
def RackReadsCardSaid : Prop := Claim7.holds Tryd.pinned (.plain (OpenSpec.ofChange rackReadsSpec)) rackReadsCard

/-- THE TIED CARD OF 'remouldlaw07.RackBack'. -/
def rackBackCard : Claim7 := { stood := { row := rackBackRow, standIns := [], harness := (true, "7d21da7dcef089a60571d917c2a124ad612ade0bb950018b61eca10449845667"), looks := true }, kinds := [], alts := [], laidByText := true, laidKinds := [.data, .data, .data, .data, .sentinel, .sentinel, .pinned], laidTests := true, laidLooks := .later }
def RackBackCardSaid : Prop := Claim7.holds Tryd.pinned (.plain (OpenSpec.ofChange rackBackSpec)) rackBackCard

/-- THE TIED CARD OF 'remouldlaw07.RackQuick'. -/
def rackQuickCard : Claim7 := { stood := { row := rackQuickRow, standIns := [], harness := (true, "7d21da7dcef089a60571d917c2a124ad612ade0bb950018b61eca10449845667"), looks := true }, kinds := [], alts := [], laidByText := true, laidKinds := [.data, .data, .data, .data, .sentinel, .sentinel, .pinned], laidTests := true, laidLooks := .later }
def RackQuickCardSaid : Prop := Claim7.holds Tryd.pinned (.plain (OpenSpec.ofChange rackQuickSpec)) rackQuickCard

/-- THE TIED CARD OF 'remouldlaw07.RackFound'. -/
def rackFoundCard : Claim7 := { stood := { row := rackFoundRow, standIns := [], harness := (true, "7d21da7dcef089a60571d917c2a124ad612ade0bb950018b61eca10449845667"), looks := true }, kinds := [], alts := [], laidByText := true, laidKinds := [.data, .data, .data, .data, .sentinel, .sentinel, .pinned], laidTests := true, laidLooks := .later }
def RackFoundCardSaid : Prop := Claim7.holds Tryd.pinned (.plain (OpenSpec.ofChange rackFoundSpec)) rackFoundCard

/-- THE TIED CARD OF 'remouldlaw07.RackCounted'. -/
def rackCountedCard : Claim7 := { stood := { row := rackCountedRow, standIns := [], harness := (true, "7d21da7dcef089a60571d917c2a124ad612ade0bb950018b61eca10449845667"), looks := true }, kinds := [], alts := [], laidByText := true, laidKinds := [.data, .data, .data, .data, .sentinel, .sentinel, .pinned], laidTests := true, laidLooks := .later }
def RackCountedCardSaid : Prop := Claim7.holds Tryd.pinned (.plain (OpenSpec.ofChange rackCountedSpec)) rackCountedCard

/-- THE TIED CARD OF 'remouldlaw07.RackSizes'. -/
def rackSizesCard : Claim7 := { stood := { row := rackSizesRow, standIns := [], harness := (true, "7d21da7dcef089a60571d917c2a124ad612ade0bb950018b61eca10449845667"), looks := true }, kinds := [], alts := [], laidByText := true, laidKinds := [.data, .data, .data, .data, .sentinel, .sentinel, .pinned], laidTests := true, laidLooks := .later }
def RackSizesCardSaid : Prop := Claim7.holds Tryd.pinned (.plain (OpenSpec.ofChange rackSizesSpec)) rackSizesCard

/-- THE TIED CARD OF 'remouldlaw07.RackLarger'. -/
def rackLargerCard : Claim7 := { stood := { row := rackLargerRow, standIns := [], harness := (true, "7d21da7dcef089a60571d917c2a124ad612ade0bb950018b61eca10449845667"), looks := true }, kinds := [], alts := [], laidByText := true, laidKinds := [.data, .data, .data, .data, .sentinel, .sentinel, .pinned], laidTests := true, laidLooks := .later }
def RackLargerCardSaid : Prop := Claim7.holds Tryd.pinned (.plain (OpenSpec.ofChange rackLargerSpec)) rackLargerCard

/-- THE TIED CARD OF 'remouldlaw07.RackShapes'. -/
def rackShapesCard : Claim7 := { stood := { row := rackShapesRow, standIns := [], harness := (true, "7d21da7dcef089a60571d917c2a124ad612ade0bb950018b61eca10449845667"), looks := true }, kinds := [], alts := [], laidByText := true, laidKinds := [.data, .data, .data, .data, .sentinel, .sentinel, .pinned], laidTests := true, laidLooks := .later }
def RackShapesCardSaid : Prop := Claim7.holds Tryd.pinned (.plain (OpenSpec.ofChange rackShapesSpec)) rackShapesCard

/-- THE SECOND FORM's CARD OF 'remouldlaw07.RackReads'. -/
def rackReadsUptoCard : Claim7 := { stood := { row := rackReadsUptoRow, standIns := [], harness := (true, "7d21da7dcef089a60571d917c2a124ad612ade0bb950018b61eca10449845667"), looks := true }, kinds := [], alts := [], laidByText := true, laidKinds := [.data, .data, .data, .data, .sentinel, .sentinel, .pinned], laidTests := true, laidLooks := .later }
def RackReadsUptoCardSaid : Prop := Claim7.holds Tryd.pinned (.plain (OpenSpec.upto rackReadsSpec)) rackReadsUptoCard

/-- THE SECOND FORM's CARD OF 'remouldlaw07.RackBack'. -/
def rackBackUptoCard : Claim7 := { stood := { row := rackBackUptoRow, standIns := [], harness := (true, "7d21da7dcef089a60571d917c2a124ad612ade0bb950018b61eca10449845667"), looks := true }, kinds := [], alts := [], laidByText := true, laidKinds := [.data, .data, .data, .data, .sentinel, .sentinel, .pinned], laidTests := true, laidLooks := .later }
def RackBackUptoCardSaid : Prop := Claim7.holds Tryd.pinned (.plain (OpenSpec.upto rackBackSpec)) rackBackUptoCard

/-- THE SECOND FORM's CARD OF 'remouldlaw07.RackQuick'. -/
def rackQuickUptoCard : Claim7 := { stood := { row := rackQuickUptoRow, standIns := [], harness := (true, "7d21da7dcef089a60571d917c2a124ad612ade0bb950018b61eca10449845667"), looks := true }, kinds := [], alts := [], laidByText := true, laidKinds := [.data, .data, .data, .data, .sentinel, .sentinel, .pinned], laidTests := true, laidLooks := .later }
def RackQuickUptoCardSaid : Prop := Claim7.holds Tryd.pinned (.plain (OpenSpec.upto rackQuickSpec)) rackQuickUptoCard

/-- THE SECOND FORM's CARD OF 'remouldlaw07.RackFound'. -/
def rackFoundUptoCard : Claim7 := { stood := { row := rackFoundUptoRow, standIns := [], harness := (true, "7d21da7dcef089a60571d917c2a124ad612ade0bb950018b61eca10449845667"), looks := true }, kinds := [], alts := [], laidByText := true, laidKinds := [.data, .data, .data, .data, .sentinel, .sentinel, .pinned], laidTests := true, laidLooks := .later }
def RackFoundUptoCardSaid : Prop := Claim7.holds Tryd.pinned (.plain (OpenSpec.upto rackFoundSpec)) rackFoundUptoCard

/-- THE SECOND FORM's CARD OF 'remouldlaw07.RackCounted'. -/
def rackCountedUptoCard : Claim7 := { stood := { row := rackCountedUptoRow, standIns := [], harness := (true, "7d21da7dcef089a60571d917c2a124ad612ade0bb950018b61eca10449845667"), looks := true }, kinds := [], alts := [], laidByText := true, laidKinds := [.data, .data, .data, .data, .sentinel, .sentinel, .pinned], laidTests := true, laidLooks := .later }
def RackCountedUptoCardSaid : Prop := Claim7.holds Tryd.pinned (.plain (OpenSpec.upto rackCountedSpec)) rackCountedUptoCard

/-- THE SECOND FORM's CARD OF 'remouldlaw07.RackSizes'. -/
def rackSizesUptoCard : Claim7 := { stood := { row := rackSizesUptoRow, standIns := [], harness := (true, "7d21da7dcef089a60571d917c2a124ad612ade0bb950018b61eca10449845667"), looks := true }, kinds := [], alts := [], laidByText := true, laidKinds := [.data, .data, .data, .data, .sentinel, .sentinel, .pinned], laidTests := true, laidLooks := .later }
def RackSizesUptoCardSaid : Prop := Claim7.holds Tryd.pinned (.plain (OpenSpec.upto rackSizesSpec)) rackSizesUptoCard

/-- THE SECOND FORM's CARD OF 'remouldlaw07.RackLarger'. -/
def rackLargerUptoCard : Claim7 := { stood := { row := rackLargerUptoRow, standIns := [], harness := (true, "7d21da7dcef089a60571d917c2a124ad612ade0bb950018b61eca10449845667"), looks := true }, kinds := [], alts := [], laidByText := true, laidKinds := [.data, .data, .data, .data, .sentinel, .sentinel, .pinned], laidTests := true, laidLooks := .later }
def RackLargerUptoCardSaid : Prop := Claim7.holds Tryd.pinned (.plain (OpenSpec.upto rackLargerSpec)) rackLargerUptoCard

/-- THE SECOND FORM's CARD OF 'remouldlaw07.RackShapes'. -/
def rackShapesUptoCard : Claim7 := { stood := { row := rackShapesUptoRow, standIns := [], harness := (true, "7d21da7dcef089a60571d917c2a124ad612ade0bb950018b61eca10449845667"), looks := true }, kinds := [], alts := [], laidByText := true, laidKinds := [.data, .data, .data, .data, .sentinel, .sentinel, .pinned], laidTests := true, laidLooks := .later }
def RackShapesUptoCardSaid : Prop := Claim7.holds Tryd.pinned (.plain (OpenSpec.upto rackShapesSpec)) rackShapesUptoCard
end Rows
end Go.Proofs.YtpnfmbeccjehiaaDoor
