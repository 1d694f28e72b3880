/-
  DERIVED. GIVEN WITH THE SEED: THE CARDS: each row of YtpnfmbeccjehiabDoorRows.lean that lists a variable, with what it lists TIED to the program's text (the seventh form; the later family's looks); each row that meets fmt, with fmt's text TOLD by the authors' own Lean function (tested against real Go, not proved from fmt's source: count such statements apart). THE CARD IS WHAT COUNTS. Prove the row's statement (the work); the ties are given (YtpnfmbeccjehiabDoorTie.lean); close each card by the builder's one call (the guide's Derived/Test/ToyasCard.lean, 'card_holds'). Laid BY PROGRAM, IN A SANDBOX (cutbox-door.mjs). By AI agents, Wed Nov 11 2026. No macro, syntax, notation, axiom, sorry.
-/
import Derived.Test.YtpnfmbeccjehiabDoorRows
import GoSem.ClaimSeven
namespace Go.Proofs.YtpnfmbeccjehiabDoor
namespace Rows

/-- THE TIED CARD OF 'remouldlaw07.RackInverse'. -/
def rackInverseCard : Claim7 := { stood := { row := rackInverseRow, standIns := [], harness := (true, "ab8427a0dac7a5f82f8df83e2b2b8eefe6bf201975fecadf73ff6c3bf6afb4df"), looks := true }, kinds := [], alts := [], laidByText := true, laidKinds := [.data, .data, .data, .data, .sentinel, .sentinel, .pinned], laidTests := true, laidLooks := .later }
def RackInverseCardSaid : Prop := Claim7.holds Tryd.pinned (.plain (OpenSpec.ofChange rackInverseSpec)) rackInverseCard

/-- THE TIED CARD OF 'remouldlaw07.RackUndone'. -/
def rackUndoneCard : Claim7 := { stood := { row := rackUndoneRow, standIns := [], harness := (true, "ab8427a0dac7a5f82f8df83e2b2b8eefe6bf201975fecadf73ff6c3bf6afb4df"), looks := true }, kinds := [], alts := [], laidByText := true, laidKinds := [.data, .data, .data, .data, .sentinel, .sentinel, .pinned], laidTests := true, laidLooks := .later }
def RackUndoneCardSaid : Prop := Claim7.holds Tryd.pinned (.plain (OpenSpec.ofChange rackUndoneSpec)) rackUndoneCard

/-- THE TIED CARD OF 'remouldlaw07.RackSame'. -/
def rackSameCard : Claim7 := { stood := { row := rackSameRow, standIns := [], harness := (true, "ab8427a0dac7a5f82f8df83e2b2b8eefe6bf201975fecadf73ff6c3bf6afb4df"), looks := true }, kinds := [], alts := [], laidByText := true, laidKinds := [.data, .data, .data, .data, .sentinel, .sentinel, .pinned], laidTests := true, laidLooks := .later }
def RackSameCardSaid : Prop := Claim7.holds Tryd.pinned (.plain (OpenSpec.ofChange rackSameSpec)) rackSameCard

/-- THE TIED CARD OF 'remouldlaw07.RackTwins'. -/
def rackTwinsCard : Claim7 := { stood := { row := rackTwinsRow, standIns := [], harness := (true, "ab8427a0dac7a5f82f8df83e2b2b8eefe6bf201975fecadf73ff6c3bf6afb4df"), looks := true }, kinds := [], alts := [], laidByText := true, laidKinds := [.data, .data, .data, .data, .sentinel, .sentinel, .pinned], laidTests := true, laidLooks := .later }
def RackTwinsCardSaid : Prop := Claim7.holds Tryd.pinned (.plain (OpenSpec.ofChange rackTwinsSpec)) rackTwinsCard

/-- THE TIED CARD OF 'remouldlaw07.RackOwn'. -/
def rackOwnCard : Claim7 := { stood := { row := rackOwnRow, standIns := [], harness := (true, "ab8427a0dac7a5f82f8df83e2b2b8eefe6bf201975fecadf73ff6c3bf6afb4df"), looks := true }, kinds := [], alts := [], laidByText := true, laidKinds := [.data, .data, .data, .data, .sentinel, .sentinel, .pinned], laidTests := true, laidLooks := .later }
def RackOwnCardSaid : Prop := Claim7.holds Tryd.pinned (.plain (OpenSpec.ofChange rackOwnSpec)) rackOwnCard

/-- THE TIED CARD OF 'remouldlaw07.RackVoid'. -/
def rackVoidCard : Claim7 := { stood := { row := rackVoidRow, standIns := [], harness := (true, "ab8427a0dac7a5f82f8df83e2b2b8eefe6bf201975fecadf73ff6c3bf6afb4df"), looks := true }, kinds := [], alts := [], laidByText := true, laidKinds := [.data, .data, .data, .data, .sentinel, .sentinel, .pinned], laidTests := true, laidLooks := .later }
def RackVoidCardSaid : Prop := Claim7.holds Tryd.pinned (.plain (OpenSpec.ofChange rackVoidSpec)) rackVoidCard

/-- THE SECOND FORM's CARD OF 'remouldlaw07.RackInverse'. -/
def rackInverseUptoCard : Claim7 := { stood := { row := rackInverseUptoRow, standIns := [], harness := (true, "ab8427a0dac7a5f82f8df83e2b2b8eefe6bf201975fecadf73ff6c3bf6afb4df"), looks := true }, kinds := [], alts := [], laidByText := true, laidKinds := [.data, .data, .data, .data, .sentinel, .sentinel, .pinned], laidTests := true, laidLooks := .later }
def RackInverseUptoCardSaid : Prop := Claim7.holds Tryd.pinned (.plain (OpenSpec.upto rackInverseSpec)) rackInverseUptoCard

/-- THE SECOND FORM's CARD OF 'remouldlaw07.RackUndone'. -/
def rackUndoneUptoCard : Claim7 := { stood := { row := rackUndoneUptoRow, standIns := [], harness := (true, "ab8427a0dac7a5f82f8df83e2b2b8eefe6bf201975fecadf73ff6c3bf6afb4df"), looks := true }, kinds := [], alts := [], laidByText := true, laidKinds := [.data, .data, .data, .data, .sentinel, .sentinel, .pinned], laidTests := true, laidLooks := .later }
def RackUndoneUptoCardSaid : Prop := Claim7.holds Tryd.pinned (.plain (OpenSpec.upto rackUndoneSpec)) rackUndoneUptoCard

/-- THE SECOND FORM's CARD OF 'remouldlaw07.RackSame'. -/
def rackSameUptoCard : Claim7 := { stood := { row := rackSameUptoRow, standIns := [], harness := (true, "ab8427a0dac7a5f82f8df83e2b2b8eefe6bf201975fecadf73ff6c3bf6afb4df"), looks := true }, kinds := [], alts := [], laidByText := true, laidKinds := [.data, .data, .data, .data, .sentinel, .sentinel, .pinned], laidTests := true, laidLooks := .later }
def RackSameUptoCardSaid : Prop := Claim7.holds Tryd.pinned (.plain (OpenSpec.upto rackSameSpec)) rackSameUptoCard

/-- THE SECOND FORM's CARD OF 'remouldlaw07.RackTwins'. -/
def rackTwinsUptoCard : Claim7 := { stood := { row := rackTwinsUptoRow, standIns := [], harness := (true, "ab8427a0dac7a5f82f8df83e2b2b8eefe6bf201975fecadf73ff6c3bf6afb4df"), looks := true }, kinds := [], alts := [], laidByText := true, laidKinds := [.data, .data, .data, .data, .sentinel, .sentinel, .pinned], laidTests := true, laidLooks := .later }
def RackTwinsUptoCardSaid : Prop := Claim7.holds Tryd.pinned (.plain (OpenSpec.upto rackTwinsSpec)) rackTwinsUptoCard

/-- THE SECOND FORM's CARD OF 'remouldlaw07.RackOwn'. -/
def rackOwnUptoCard : Claim7 := { stood := { row := rackOwnUptoRow, standIns := [], harness := (true, "ab8427a0dac7a5f82f8df83e2b2b8eefe6bf201975fecadf73ff6c3bf6afb4df"), looks := true }, kinds := [], alts := [], laidByText := true, laidKinds := [.data, .data, .data, .data, .sentinel, .sentinel, .pinned], laidTests := true, laidLooks := .later }
def RackOwnUptoCardSaid : Prop := Claim7.holds Tryd.pinned (.plain (OpenSpec.upto rackOwnSpec)) rackOwnUptoCard

/-- THE SECOND FORM's CARD OF 'remouldlaw07.RackVoid'. -/
def rackVoidUptoCard : Claim7 := { stood := { row := rackVoidUptoRow, standIns := [], harness := (true, "ab8427a0dac7a5f82f8df83e2b2b8eefe6bf201975fecadf73ff6c3bf6afb4df"), looks := true }, kinds := [], alts := [], laidByText := true, laidKinds := [.data, .data, .data, .data, .sentinel, .sentinel, .pinned], laidTests := true, laidLooks := .later }
def RackVoidUptoCardSaid : Prop := Claim7.holds Tryd.pinned (.plain (OpenSpec.upto rackVoidSpec)) rackVoidUptoCard
end Rows
end Go.Proofs.YtpnfmbeccjehiabDoor
