/-
  DERIVED. GIVEN WITH THE SEED: THE CARDS: each row of YtaffkceklkdokaaGreatDoorRows.lean that lists a variable, with what it lists TIED to the program's text (the seventh form; the later family's looks); each row that meets fmt, with fmt's text TOLD by the authors' own Lean function (tested against real Go, not proved from fmt's source: count such statements apart). THE CARD IS WHAT COUNTS. Prove the row's statement (the work); the ties are given (YtaffkceklkdokaaGreatDoorTie.lean); close each card by the builder's one call (the guide's Derived/Test/ToyasCard.lean, 'card_holds'). Laid BY PROGRAM, IN A SANDBOX (cutbox-door.mjs). By AI agents, Wed Nov 11 2026. No macro, syntax, notation, axiom, sorry.
-/
import Derived.Test.YtaffkceklkdokaaGreatDoorRows
import GoSem.ClaimSeven
namespace Go.Proofs.YtaffkceklkdokaaGreatDoor
namespace Rows

/-- THE TIED CARD OF 'remouldtop.TopBands'. -/
def topBandsCard : Claim7 := { stood := { row := topBandsRow, standIns := [], harness := (true, "726f3290c4c87ac508903744a09bd420ce296185bac359a28bf4430703398bb5"), looks := true }, kinds := [], alts := [], laidByText := true, laidKinds := [.data, .data, .data, .data, .sentinel, .sentinel, .pinned], laidTests := true, laidLooks := .later }
def TopBandsCardSaid : Prop := Claim7.holds Tryz.pinned (.plain (OpenSpec.ofChange topBandsSpec)) topBandsCard

/-- THE TIED CARD OF 'remouldtop.TopFibonacci'. -/
def topFibonacciCard : Claim7 := { stood := { row := topFibonacciRow, standIns := [], harness := (true, "726f3290c4c87ac508903744a09bd420ce296185bac359a28bf4430703398bb5"), looks := true }, kinds := [], alts := [], laidByText := true, laidKinds := [.data, .data, .data, .data, .sentinel, .sentinel, .data, .pinned], laidTests := true, laidLooks := .later }
def TopFibonacciCardSaid : Prop := Claim7.holds Tryz.pinned (.plain (OpenSpec.ofChange topFibonacciSpec)) topFibonacciCard

/-- THE SECOND FORM's CARD OF 'remouldtop.TopBands'. -/
def topBandsUptoCard : Claim7 := { stood := { row := topBandsUptoRow, standIns := [], harness := (true, "726f3290c4c87ac508903744a09bd420ce296185bac359a28bf4430703398bb5"), looks := true }, kinds := [], alts := [], laidByText := true, laidKinds := [.data, .data, .data, .data, .sentinel, .sentinel, .pinned], laidTests := true, laidLooks := .later }
def TopBandsUptoCardSaid : Prop := Claim7.holds Tryz.pinned (.plain (OpenSpec.upto topBandsSpec)) topBandsUptoCard

/-- THE SECOND FORM's CARD OF 'remouldtop.TopFibonacci'. -/
def topFibonacciUptoCard : Claim7 := { stood := { row := topFibonacciUptoRow, standIns := [], harness := (true, "726f3290c4c87ac508903744a09bd420ce296185bac359a28bf4430703398bb5"), looks := true }, kinds := [], alts := [], laidByText := true, laidKinds := [.data, .data, .data, .data, .sentinel, .sentinel, .data, .pinned], laidTests := true, laidLooks := .later }
def TopFibonacciUptoCardSaid : Prop := Claim7.holds Tryz.pinned (.plain (OpenSpec.upto topFibonacciSpec)) topFibonacciUptoCard
end Rows
end Go.Proofs.YtaffkceklkdokaaGreatDoor
