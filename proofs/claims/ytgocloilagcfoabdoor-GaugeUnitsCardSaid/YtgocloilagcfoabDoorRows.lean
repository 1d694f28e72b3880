/-
  NARROWER THAN 'FOR EVERY INPUT', by the rows' own cells (each row's printed sentence says how): GaugePowers: laid · GaugeAdds: laid · GaugeProducts: laid · GaugeSums: laid · GaugeBelows: laid · GaugeClimbed: laid · GaugeWhole: laid · GaugeNorms: laid · GaugeCounted: laid · GaugeUnits: laid · GaugeFloors: laid.
  DERIVED. THE GIVEN ROWS OF THIS SEAT. 11 by the template 'for every input the law returns true; each argument reads behind the call as it read before'; 0 by the template 'total and deterministic' (their statements: YtgocloilagcfoabDoorTotals.lean).
  GIVEN WITH THE SEED: the statements are not yours to turn. If you find one false, say at which input.
  Laid BY PROGRAM, IN A SANDBOX (cutbox-rows.mjs): the forced cells as the released guide's own fill.sh prints them over the translation ca3c856273906ed6… (all of the seat's roots in one cut). By AI agents, Wed Nov 11 2026. No macro, syntax, notation, axiom, sorry.
-/
import Derived.Test.YtgocloilagcfoabDoorChecked
import GoSem.PinnedTables
import GoSem.Claim
import GoSem.ClaimJoined
import GoSem.ClaimMapViews
import Derived.JoinedTies
import Derived.KernelRfl
namespace Go.Proofs.YtgocloilagcfoabDoor
/- THE CELL 'sum', in the pinned program and in every row, IS THE sha256 OF THE DUMP (.gsa) THAT YtgocloilagcfoabDoorProg.lean LOADS. Nothing in Lean hashes anything: it is a label: what it is worth is what the hold of that sum in a sandbox is worth. -/
noncomputable def Tryd.pinned : Pinned := { name := "ytgocloilagcfoabdoor", sum := "ca3c856273906ed6ef0d78312787f540d0d1d3706a582a99e0057ecdc99207eb", checked := Tryd.checked }
namespace Rows
def none {H : Type} : Left H := { results := [], args := [] }

/- WHAT THE LISTED PACKAGE-LEVEL VARIABLES READ AS WHEN THE CALL BEGINS. Each datum BY PROGRAM (the guide's laid-datum.mjs) off the statement by which the dump's own 'gosem.cut.vars' lays the variable. In a bare row this is a premise. The card (YtgocloilagcfoabDoorCards.lean) ties it to the program's text. -/
def laid_unicode_utf8_acceptRanges {H : Type} : DataW H := .agg [.agg [.lit (.int .u8 128), .lit (.int .u8 191)], .agg [.lit (.int .u8 160), .lit (.int .u8 191)], .agg [.lit (.int .u8 128), .lit (.int .u8 159)], .agg [.lit (.int .u8 144), .lit (.int .u8 191)], .agg [.lit (.int .u8 128), .lit (.int .u8 143)], .agg [.lit (.int .u8 0), .lit (.int .u8 0)], .agg [.lit (.int .u8 0), .lit (.int .u8 0)], .agg [.lit (.int .u8 0), .lit (.int .u8 0)], .agg [.lit (.int .u8 0), .lit (.int .u8 0)], .agg [.lit (.int .u8 0), .lit (.int .u8 0)], .agg [.lit (.int .u8 0), .lit (.int .u8 0)], .agg [.lit (.int .u8 0), .lit (.int .u8 0)], .agg [.lit (.int .u8 0), .lit (.int .u8 0)], .agg [.lit (.int .u8 0), .lit (.int .u8 0)], .agg [.lit (.int .u8 0), .lit (.int .u8 0)], .agg [.lit (.int .u8 0), .lit (.int .u8 0)]]
/-- One of Go's own tables, pinned by name: the form's constant. -/
def laid_unicode_utf8_first : DataW Unit := Go.Pinned.utf8First

/-- 'remouldlaw04.GaugePowers': WHATEVER THE INPUT: true; the input reads as it did. -/
def gaugePowersSpec : ChangeSpec := { name := "gaugePowers", fn := fun _ => fun
  | [d] => { results := [.lit (.bool true)], args := [d] }
  | _ => none }
def gaugePowersRow : OpenClaim := { program := "ytgocloilagcfoabdoor", sum := "ca3c856273906ed6ef0d78312787f540d0d1d3706a582a99e0057ecdc99207eb", func := "remould/remouldlaw04.GaugePowers", spec := "gaugePowers", inPlace := ["internal/abi.NoEscape", "internal/bytealg.IndexByteString", "internal/bytealg.IndexString"], unfollowed := true, recurses := true, named := ["unicode/utf8.first", "unicode/utf8.acceptRanges", "internal/bytealg.MaxLen"], apart := false, laid := [("unicode/utf8.acceptRanges", laid_unicode_utf8_acceptRanges), ("unicode/utf8.first", laid_unicode_utf8_first)] }
def GaugePowersSaid : Prop := gaugePowersRow.holds Tryd.pinned (OpenSpec.ofChange gaugePowersSpec)

/-- ITS FALSE NEIGHBOUR: 'it returns false'. Refute it at one input. -/
def gaugePowersWrong : ChangeSpec := { name := "gaugePowers", fn := fun _ => fun
  | [d] => { results := [.lit (.bool false)], args := [d] }
  | _ => none }
def GaugePowersWrongFalsely : Prop := gaugePowersRow.holds Tryd.pinned (OpenSpec.ofChange gaugePowersWrong)

/-- 'remouldlaw04.GaugeAdds': WHATEVER THE INPUT: true; the input reads as it did. -/
def gaugeAddsSpec : ChangeSpec := { name := "gaugeAdds", fn := fun _ => fun
  | [d1, d2] => { results := [.lit (.bool true)], args := [d1, d2] }
  | _ => none }
def gaugeAddsRow : OpenClaim := { program := "ytgocloilagcfoabdoor", sum := "ca3c856273906ed6ef0d78312787f540d0d1d3706a582a99e0057ecdc99207eb", func := "remould/remouldlaw04.GaugeAdds", spec := "gaugeAdds", inPlace := ["internal/bytealg.IndexByteString", "internal/bytealg.IndexString", "internal/abi.NoEscape"], unfollowed := true, recurses := true, named := ["internal/bytealg.MaxLen", "unicode/utf8.first", "unicode/utf8.acceptRanges"], apart := false, laid := [("unicode/utf8.acceptRanges", laid_unicode_utf8_acceptRanges), ("unicode/utf8.first", laid_unicode_utf8_first)] }
def GaugeAddsSaid : Prop := gaugeAddsRow.holds Tryd.pinned (OpenSpec.ofChange gaugeAddsSpec)

/-- ITS FALSE NEIGHBOUR: 'it returns false'. Refute it at one input. -/
def gaugeAddsWrong : ChangeSpec := { name := "gaugeAdds", fn := fun _ => fun
  | [d1, d2] => { results := [.lit (.bool false)], args := [d1, d2] }
  | _ => none }
def GaugeAddsWrongFalsely : Prop := gaugeAddsRow.holds Tryd.pinned (OpenSpec.ofChange gaugeAddsWrong)

/-- 'remouldlaw04.GaugeProducts': WHATEVER THE INPUT: true; the input reads as it did. -/
def gaugeProductsSpec : ChangeSpec := { name := "gaugeProducts", fn := fun _ => fun
  | [d1, d2] => { results := [.lit (.bool true)], args := [d1, d2] }
  | _ => none }
def gaugeProductsRow : OpenClaim := { program := "ytgocloilagcfoabdoor", sum := "ca3c856273906ed6ef0d78312787f540d0d1d3706a582a99e0057ecdc99207eb", func := "remould/remouldlaw04.GaugeProducts", spec := "gaugeProducts", inPlace := ["internal/abi.NoEscape", "internal/bytealg.IndexByteString", "internal/bytealg.IndexString"], unfollowed := true, recurses := true, named := ["unicode/utf8.first", "unicode/utf8.acceptRanges", "internal/bytealg.MaxLen"], apart := false, laid := [("unicode/utf8.acceptRanges", laid_unicode_utf8_acceptRanges), ("unicode/utf8.first", laid_unicode_utf8_first)] }
def GaugeProductsSaid : Prop := gaugeProductsRow.holds Tryd.pinned (OpenSpec.ofChange gaugeProductsSpec)

/-- ITS FALSE NEIGHBOUR: 'it returns false'. Refute it at one input. -/
def gaugeProductsWrong : ChangeSpec := { name := "gaugeProducts", fn := fun _ => fun
  | [d1, d2] => { results := [.lit (.bool false)], args := [d1, d2] }
  | _ => none }
def GaugeProductsWrongFalsely : Prop := gaugeProductsRow.holds Tryd.pinned (OpenSpec.ofChange gaugeProductsWrong)

/-- 'remouldlaw04.GaugeSums': WHATEVER THE INPUT: true; the input reads as it did. -/
def gaugeSumsSpec : ChangeSpec := { name := "gaugeSums", fn := fun _ => fun
  | [d1, d2, d3, d4] => { results := [.lit (.bool true)], args := [d1, d2, d3, d4] }
  | _ => none }
def gaugeSumsRow : OpenClaim := { program := "ytgocloilagcfoabdoor", sum := "ca3c856273906ed6ef0d78312787f540d0d1d3706a582a99e0057ecdc99207eb", func := "remould/remouldlaw04.GaugeSums", spec := "gaugeSums", inPlace := ["internal/bytealg.IndexByteString", "internal/bytealg.IndexString", "internal/abi.NoEscape"], unfollowed := true, recurses := true, named := ["internal/bytealg.MaxLen", "unicode/utf8.first", "unicode/utf8.acceptRanges"], apart := false, laid := [("unicode/utf8.acceptRanges", laid_unicode_utf8_acceptRanges), ("unicode/utf8.first", laid_unicode_utf8_first)] }
def GaugeSumsSaid : Prop := gaugeSumsRow.holds Tryd.pinned (OpenSpec.ofChange gaugeSumsSpec)

/-- ITS FALSE NEIGHBOUR: 'it returns false'. Refute it at one input. -/
def gaugeSumsWrong : ChangeSpec := { name := "gaugeSums", fn := fun _ => fun
  | [d1, d2, d3, d4] => { results := [.lit (.bool false)], args := [d1, d2, d3, d4] }
  | _ => none }
def GaugeSumsWrongFalsely : Prop := gaugeSumsRow.holds Tryd.pinned (OpenSpec.ofChange gaugeSumsWrong)

/-- 'remouldlaw04.GaugeBelows': WHATEVER THE INPUT: true; the input reads as it did. -/
def gaugeBelowsSpec : ChangeSpec := { name := "gaugeBelows", fn := fun _ => fun
  | [d] => { results := [.lit (.bool true)], args := [d] }
  | _ => none }
def gaugeBelowsRow : OpenClaim := { program := "ytgocloilagcfoabdoor", sum := "ca3c856273906ed6ef0d78312787f540d0d1d3706a582a99e0057ecdc99207eb", func := "remould/remouldlaw04.GaugeBelows", spec := "gaugeBelows", inPlace := ["internal/abi.NoEscape", "internal/bytealg.IndexByteString", "internal/bytealg.IndexString"], unfollowed := true, recurses := true, named := ["unicode/utf8.first", "unicode/utf8.acceptRanges", "internal/bytealg.MaxLen"], apart := false, laid := [("unicode/utf8.acceptRanges", laid_unicode_utf8_acceptRanges), ("unicode/utf8.first", laid_unicode_utf8_first)] }
def GaugeBelowsSaid : Prop := gaugeBelowsRow.holds Tryd.pinned (OpenSpec.ofChange gaugeBelowsSpec)

/-- ITS FALSE NEIGHBOUR: 'it returns false'. Refute it at one input. -/
def gaugeBelowsWrong : ChangeSpec := { name := "gaugeBelows", fn := fun _ => fun
  | [d] => { results := [.lit (.bool false)], args := [d] }
  | _ => none }
def GaugeBelowsWrongFalsely : Prop := gaugeBelowsRow.holds Tryd.pinned (OpenSpec.ofChange gaugeBelowsWrong)

/-- 'remouldlaw04.GaugeClimbed': WHATEVER THE INPUT: true; the input reads as it did. -/
def gaugeClimbedSpec : ChangeSpec := { name := "gaugeClimbed", fn := fun _ => fun
  | [d] => { results := [.lit (.bool true)], args := [d] }
  | _ => none }
def gaugeClimbedRow : OpenClaim := { program := "ytgocloilagcfoabdoor", sum := "ca3c856273906ed6ef0d78312787f540d0d1d3706a582a99e0057ecdc99207eb", func := "remould/remouldlaw04.GaugeClimbed", spec := "gaugeClimbed", inPlace := ["internal/abi.NoEscape", "internal/bytealg.IndexByteString", "internal/bytealg.IndexString"], unfollowed := true, recurses := true, named := ["unicode/utf8.first", "unicode/utf8.acceptRanges", "internal/bytealg.MaxLen"], apart := false, laid := [("unicode/utf8.acceptRanges", laid_unicode_utf8_acceptRanges), ("unicode/utf8.first", laid_unicode_utf8_first)] }
def GaugeClimbedSaid : Prop := gaugeClimbedRow.holds Tryd.pinned (OpenSpec.ofChange gaugeClimbedSpec)

/-- ITS FALSE NEIGHBOUR: 'it returns false'. Refute it at one input. -/
def gaugeClimbedWrong : ChangeSpec := { name := "gaugeClimbed", fn := fun _ => fun
  | [d] => { results := [.lit (.bool false)], args := [d] }
  | _ => none }
def GaugeClimbedWrongFalsely : Prop := gaugeClimbedRow.holds Tryd.pinned (OpenSpec.ofChange gaugeClimbedWrong)

/-- 'remouldlaw04.GaugeWhole': WHATEVER THE INPUT: true; the input reads as it did. -/
def gaugeWholeSpec : ChangeSpec := { name := "gaugeWhole", fn := fun _ => fun
  | [d1, d2] => { results := [.lit (.bool true)], args := [d1, d2] }
  | _ => none }
def gaugeWholeRow : OpenClaim := { program := "ytgocloilagcfoabdoor", sum := "ca3c856273906ed6ef0d78312787f540d0d1d3706a582a99e0057ecdc99207eb", func := "remould/remouldlaw04.GaugeWhole", spec := "gaugeWhole", inPlace := ["internal/abi.NoEscape", "internal/bytealg.IndexByteString", "internal/bytealg.IndexString"], unfollowed := true, recurses := true, named := ["unicode/utf8.first", "unicode/utf8.acceptRanges", "internal/bytealg.MaxLen"], apart := false, laid := [("unicode/utf8.acceptRanges", laid_unicode_utf8_acceptRanges), ("unicode/utf8.first", laid_unicode_utf8_first)] }
def GaugeWholeSaid : Prop := gaugeWholeRow.holds Tryd.pinned (OpenSpec.ofChange gaugeWholeSpec)

/-- ITS FALSE NEIGHBOUR: 'it returns false'. Refute it at one input. -/
def gaugeWholeWrong : ChangeSpec := { name := "gaugeWhole", fn := fun _ => fun
  | [d1, d2] => { results := [.lit (.bool false)], args := [d1, d2] }
  | _ => none }
def GaugeWholeWrongFalsely : Prop := gaugeWholeRow.holds Tryd.pinned (OpenSpec.ofChange gaugeWholeWrong)

/-- 'remouldlaw04.GaugeNorms': WHATEVER THE INPUT: true; the input reads as it did. -/
def gaugeNormsSpec : ChangeSpec := { name := "gaugeNorms", fn := fun _ => fun
  | [d1, d2] => { results := [.lit (.bool true)], args := [d1, d2] }
  | _ => none }
def gaugeNormsRow : OpenClaim := { program := "ytgocloilagcfoabdoor", sum := "ca3c856273906ed6ef0d78312787f540d0d1d3706a582a99e0057ecdc99207eb", func := "remould/remouldlaw04.GaugeNorms", spec := "gaugeNorms", inPlace := ["internal/abi.NoEscape", "internal/bytealg.IndexByteString", "internal/bytealg.IndexString"], unfollowed := true, recurses := true, named := ["unicode/utf8.first", "unicode/utf8.acceptRanges", "internal/bytealg.MaxLen"], apart := false, laid := [("unicode/utf8.acceptRanges", laid_unicode_utf8_acceptRanges), ("unicode/utf8.first", laid_unicode_utf8_first)] }
def GaugeNormsSaid : Prop := gaugeNormsRow.holds Tryd.pinned (OpenSpec.ofChange gaugeNormsSpec)

/-- ITS FALSE NEIGHBOUR: 'it returns false'. Refute it at one input. -/
def gaugeNormsWrong : ChangeSpec := { name := "gaugeNorms", fn := fun _ => fun
  | [d1, d2] => { results := [.lit (.bool false)], args := [d1, d2] }
  | _ => none }
def GaugeNormsWrongFalsely : Prop := gaugeNormsRow.holds Tryd.pinned (OpenSpec.ofChange gaugeNormsWrong)

/-- 'remouldlaw04.GaugeCounted': WHATEVER THE INPUT: true; the input reads as it did. -/
def gaugeCountedSpec : ChangeSpec := { name := "gaugeCounted", fn := fun _ => fun
  | [d1, d2] => { results := [.lit (.bool true)], args := [d1, d2] }
  | _ => none }
def gaugeCountedRow : OpenClaim := { program := "ytgocloilagcfoabdoor", sum := "ca3c856273906ed6ef0d78312787f540d0d1d3706a582a99e0057ecdc99207eb", func := "remould/remouldlaw04.GaugeCounted", spec := "gaugeCounted", inPlace := ["internal/abi.NoEscape", "internal/bytealg.IndexByteString", "internal/bytealg.IndexString"], unfollowed := true, recurses := true, named := ["unicode/utf8.first", "unicode/utf8.acceptRanges", "internal/bytealg.MaxLen"], apart := false, laid := [("unicode/utf8.acceptRanges", laid_unicode_utf8_acceptRanges), ("unicode/utf8.first", laid_unicode_utf8_first)] }
def GaugeCountedSaid : Prop := gaugeCountedRow.holds Tryd.pinned (OpenSpec.ofChange gaugeCountedSpec)

/-- ITS FALSE NEIGHBOUR: 'it returns false'. Refute it at one input. -/
def gaugeCountedWrong : ChangeSpec := { name := "gaugeCounted", fn := fun _ => fun
  | [d1, d2] => { results := [.lit (.bool false)], args := [d1, d2] }
  | _ => none }
def GaugeCountedWrongFalsely : Prop := gaugeCountedRow.holds Tryd.pinned (OpenSpec.ofChange gaugeCountedWrong)

/-- 'remouldlaw04.GaugeUnits': WHATEVER THE INPUT: true; the input reads as it did. -/
def gaugeUnitsSpec : ChangeSpec := { name := "gaugeUnits", fn := fun _ => fun
  | [d1, d2] => { results := [.lit (.bool true)], args := [d1, d2] }
  | _ => none }
def gaugeUnitsRow : OpenClaim := { program := "ytgocloilagcfoabdoor", sum := "ca3c856273906ed6ef0d78312787f540d0d1d3706a582a99e0057ecdc99207eb", func := "remould/remouldlaw04.GaugeUnits", spec := "gaugeUnits", inPlace := ["internal/abi.NoEscape", "internal/bytealg.IndexByteString", "internal/bytealg.IndexString"], unfollowed := true, recurses := true, named := ["unicode/utf8.first", "unicode/utf8.acceptRanges", "internal/bytealg.MaxLen"], apart := false, laid := [("unicode/utf8.acceptRanges", laid_unicode_utf8_acceptRanges), ("unicode/utf8.first", laid_unicode_utf8_first)] }
def GaugeUnitsSaid : Prop := gaugeUnitsRow.holds Tryd.pinned (OpenSpec.ofChange gaugeUnitsSpec)

/-- ITS FALSE NEIGHBOUR: 'it returns false'. Refute it at one input. -/
def gaugeUnitsWrong : ChangeSpec := { name := "gaugeUnits", fn := fun _ => fun
  | [d1, d2] => { results := [.lit (.bool false)], args := [d1, d2] }
  | _ => none }
def GaugeUnitsWrongFalsely : Prop := gaugeUnitsRow.holds Tryd.pinned (OpenSpec.ofChange gaugeUnitsWrong)

/-- 'remouldlaw04.GaugeFloors': WHATEVER THE INPUT: true; the input reads as it did. -/
def gaugeFloorsSpec : ChangeSpec := { name := "gaugeFloors", fn := fun _ => fun
  | [d] => { results := [.lit (.bool true)], args := [d] }
  | _ => none }
def gaugeFloorsRow : OpenClaim := { program := "ytgocloilagcfoabdoor", sum := "ca3c856273906ed6ef0d78312787f540d0d1d3706a582a99e0057ecdc99207eb", func := "remould/remouldlaw04.GaugeFloors", spec := "gaugeFloors", inPlace := ["internal/abi.NoEscape", "internal/bytealg.IndexByteString", "internal/bytealg.IndexString"], unfollowed := true, recurses := true, named := ["unicode/utf8.first", "unicode/utf8.acceptRanges", "internal/bytealg.MaxLen"], apart := false, laid := [("unicode/utf8.acceptRanges", laid_unicode_utf8_acceptRanges), ("unicode/utf8.first", laid_unicode_utf8_first)] }
def GaugeFloorsSaid : Prop := gaugeFloorsRow.holds Tryd.pinned (OpenSpec.ofChange gaugeFloorsSpec)

/-- ITS FALSE NEIGHBOUR: 'it returns false'. Refute it at one input. -/
def gaugeFloorsWrong : ChangeSpec := { name := "gaugeFloors", fn := fun _ => fun
  | [d] => { results := [.lit (.bool false)], args := [d] }
  | _ => none }
def GaugeFloorsWrongFalsely : Prop := gaugeFloorsRow.holds Tryd.pinned (OpenSpec.ofChange gaugeFloorsWrong)

/- THE SECOND FORM. 'bulk': how many values and letters a reading holds, each counted each time it is reached (what is shared counts as often as it is met; a slice's spare places count too). A statement '..UptoSaid' is the law's where the arguments, and the package variables that the reading takes, are together of bulk at most 1048576: NARROWER than '..Said'. Prove '..Said' where nothing that the law and all that it calls make is longer than what came in: it says more and counts as full. Else prove '..UptoSaid'. A law counts once. -/
mutual
def uptoBulk {H : Type} : DataW H → Nat
  | .lit (.string bytes) => bytes.length + 1
  | .lit _ => 1
  | .nil => 1
  | .ptr d => uptoBulk d + 1
  | .slice elems spare => uptoBulkAll elems + uptoBulkAll spare + 1
  | .agg parts => uptoBulkAll parts + 1
  | .iface _ d => uptoBulk d + 1
  | .map entries => uptoBulkEntries entries + 1
  | .held _ => 1
def uptoBulkAll {H : Type} : List (DataW H) → Nat
  | [] => 0
  | d :: r => uptoBulk d + uptoBulkAll r
def uptoBulkEntries {H : Type} : List (Lit × DataW H) → Nat
  | [] => 0
  | x :: r => uptoBulkEntry x + uptoBulkEntries r
def uptoBulkEntry {H : Type} : Lit × DataW H → Nat
  | (.string bytes, d) => bytes.length + uptoBulk d + 1
  | (_, d) => uptoBulk d + 1
 end
def uptoSmall : (H : Type) → List (DataW H) → Bool := fun _ ds => decide (uptoBulkAll ds ≤ 1048576)
def OpenSpec.upto (s : _root_.Go.ChangeSpec) : _root_.Go.OpenSpec := { _root_.Go.OpenSpec.ofChange s with cond := some uptoSmall }

/-- 'remouldlaw04.GaugePowers', WHERE WHAT IT READS IS OF BULK AT MOST 1048576: true; the input reads as it did. -/
def gaugePowersUptoRow : OpenClaim := { program := "ytgocloilagcfoabdoor", sum := "ca3c856273906ed6ef0d78312787f540d0d1d3706a582a99e0057ecdc99207eb", func := "remould/remouldlaw04.GaugePowers", spec := "gaugePowers", inPlace := ["internal/abi.NoEscape", "internal/bytealg.IndexByteString", "internal/bytealg.IndexString"], unfollowed := true, recurses := true, named := ["unicode/utf8.first", "unicode/utf8.acceptRanges", "internal/bytealg.MaxLen"], apart := false, laid := [("unicode/utf8.acceptRanges", laid_unicode_utf8_acceptRanges), ("unicode/utf8.first", laid_unicode_utf8_first)], narrowed := true }
def GaugePowersUptoSaid : Prop := gaugePowersUptoRow.holds Tryd.pinned (OpenSpec.upto gaugePowersSpec)

/-- 'remouldlaw04.GaugeAdds', WHERE WHAT IT READS IS OF BULK AT MOST 1048576: true; the input reads as it did. -/
def gaugeAddsUptoRow : OpenClaim := { program := "ytgocloilagcfoabdoor", sum := "ca3c856273906ed6ef0d78312787f540d0d1d3706a582a99e0057ecdc99207eb", func := "remould/remouldlaw04.GaugeAdds", spec := "gaugeAdds", inPlace := ["internal/bytealg.IndexByteString", "internal/bytealg.IndexString", "internal/abi.NoEscape"], unfollowed := true, recurses := true, named := ["internal/bytealg.MaxLen", "unicode/utf8.first", "unicode/utf8.acceptRanges"], apart := false, laid := [("unicode/utf8.acceptRanges", laid_unicode_utf8_acceptRanges), ("unicode/utf8.first", laid_unicode_utf8_first)], narrowed := true }
def GaugeAddsUptoSaid : Prop := gaugeAddsUptoRow.holds Tryd.pinned (OpenSpec.upto gaugeAddsSpec)

/-- 'remouldlaw04.GaugeProducts', WHERE WHAT IT READS IS OF BULK AT MOST 1048576: true; the input reads as it did. -/
def gaugeProductsUptoRow : OpenClaim := { program := "ytgocloilagcfoabdoor", sum := "ca3c856273906ed6ef0d78312787f540d0d1d3706a582a99e0057ecdc99207eb", func := "remould/remouldlaw04.GaugeProducts", spec := "gaugeProducts", inPlace := ["internal/abi.NoEscape", "internal/bytealg.IndexByteString", "internal/bytealg.IndexString"], unfollowed := true, recurses := true, named := ["unicode/utf8.first", "unicode/utf8.acceptRanges", "internal/bytealg.MaxLen"], apart := false, laid := [("unicode/utf8.acceptRanges", laid_unicode_utf8_acceptRanges), ("unicode/utf8.first", laid_unicode_utf8_first)], narrowed := true }
def GaugeProductsUptoSaid : Prop := gaugeProductsUptoRow.holds Tryd.pinned (OpenSpec.upto gaugeProductsSpec)

/-- 'remouldlaw04.GaugeSums', WHERE WHAT IT READS IS OF BULK AT MOST 1048576: true; the input reads as it did. -/
def gaugeSumsUptoRow : OpenClaim := { program := "ytgocloilagcfoabdoor", sum := "ca3c856273906ed6ef0d78312787f540d0d1d3706a582a99e0057ecdc99207eb", func := "remould/remouldlaw04.GaugeSums", spec := "gaugeSums", inPlace := ["internal/bytealg.IndexByteString", "internal/bytealg.IndexString", "internal/abi.NoEscape"], unfollowed := true, recurses := true, named := ["internal/bytealg.MaxLen", "unicode/utf8.first", "unicode/utf8.acceptRanges"], apart := false, laid := [("unicode/utf8.acceptRanges", laid_unicode_utf8_acceptRanges), ("unicode/utf8.first", laid_unicode_utf8_first)], narrowed := true }
def GaugeSumsUptoSaid : Prop := gaugeSumsUptoRow.holds Tryd.pinned (OpenSpec.upto gaugeSumsSpec)

/-- 'remouldlaw04.GaugeBelows', WHERE WHAT IT READS IS OF BULK AT MOST 1048576: true; the input reads as it did. -/
def gaugeBelowsUptoRow : OpenClaim := { program := "ytgocloilagcfoabdoor", sum := "ca3c856273906ed6ef0d78312787f540d0d1d3706a582a99e0057ecdc99207eb", func := "remould/remouldlaw04.GaugeBelows", spec := "gaugeBelows", inPlace := ["internal/abi.NoEscape", "internal/bytealg.IndexByteString", "internal/bytealg.IndexString"], unfollowed := true, recurses := true, named := ["unicode/utf8.first", "unicode/utf8.acceptRanges", "internal/bytealg.MaxLen"], apart := false, laid := [("unicode/utf8.acceptRanges", laid_unicode_utf8_acceptRanges), ("unicode/utf8.first", laid_unicode_utf8_first)], narrowed := true }
def GaugeBelowsUptoSaid : Prop := gaugeBelowsUptoRow.holds Tryd.pinned (OpenSpec.upto gaugeBelowsSpec)

/-- 'remouldlaw04.GaugeClimbed', WHERE WHAT IT READS IS OF BULK AT MOST 1048576: true; the input reads as it did. -/
def gaugeClimbedUptoRow : OpenClaim := { program := "ytgocloilagcfoabdoor", sum := "ca3c856273906ed6ef0d78312787f540d0d1d3706a582a99e0057ecdc99207eb", func := "remould/remouldlaw04.GaugeClimbed", spec := "gaugeClimbed", inPlace := ["internal/abi.NoEscape", "internal/bytealg.IndexByteString", "internal/bytealg.IndexString"], unfollowed := true, recurses := true, named := ["unicode/utf8.first", "unicode/utf8.acceptRanges", "internal/bytealg.MaxLen"], apart := false, laid := [("unicode/utf8.acceptRanges", laid_unicode_utf8_acceptRanges), ("unicode/utf8.first", laid_unicode_utf8_first)], narrowed := true }
def GaugeClimbedUptoSaid : Prop := gaugeClimbedUptoRow.holds Tryd.pinned (OpenSpec.upto gaugeClimbedSpec)

/-- 'remouldlaw04.GaugeWhole', WHERE WHAT IT READS IS OF BULK AT MOST 1048576: true; the input reads as it did. -/
def gaugeWholeUptoRow : OpenClaim := { program := "ytgocloilagcfoabdoor", sum := "ca3c856273906ed6ef0d78312787f540d0d1d3706a582a99e0057ecdc99207eb", func := "remould/remouldlaw04.GaugeWhole", spec := "gaugeWhole", inPlace := ["internal/abi.NoEscape", "internal/bytealg.IndexByteString", "internal/bytealg.IndexString"], unfollowed := true, recurses := true, named := ["unicode/utf8.first", "unicode/utf8.acceptRanges", "internal/bytealg.MaxLen"], apart := false, laid := [("unicode/utf8.acceptRanges", laid_unicode_utf8_acceptRanges), ("unicode/utf8.first", laid_unicode_utf8_first)], narrowed := true }
def GaugeWholeUptoSaid : Prop := gaugeWholeUptoRow.holds Tryd.pinned (OpenSpec.upto gaugeWholeSpec)

/-- 'remouldlaw04.GaugeNorms', WHERE WHAT IT READS IS OF BULK AT MOST 1048576: true; the input reads as it did. -/
def gaugeNormsUptoRow : OpenClaim := { program := "ytgocloilagcfoabdoor", sum := "ca3c856273906ed6ef0d78312787f540d0d1d3706a582a99e0057ecdc99207eb", func := "remould/remouldlaw04.GaugeNorms", spec := "gaugeNorms", inPlace := ["internal/abi.NoEscape", "internal/bytealg.IndexByteString", "internal/bytealg.IndexString"], unfollowed := true, recurses := true, named := ["unicode/utf8.first", "unicode/utf8.acceptRanges", "internal/bytealg.MaxLen"], apart := false, laid := [("unicode/utf8.acceptRanges", laid_unicode_utf8_acceptRanges), ("unicode/utf8.first", laid_unicode_utf8_first)], narrowed := true }
def GaugeNormsUptoSaid : Prop := gaugeNormsUptoRow.holds Tryd.pinned (OpenSpec.upto gaugeNormsSpec)

/-- 'remouldlaw04.GaugeCounted', WHERE WHAT IT READS IS OF BULK AT MOST 1048576: true; the input reads as it did. -/
def gaugeCountedUptoRow : OpenClaim := { program := "ytgocloilagcfoabdoor", sum := "ca3c856273906ed6ef0d78312787f540d0d1d3706a582a99e0057ecdc99207eb", func := "remould/remouldlaw04.GaugeCounted", spec := "gaugeCounted", inPlace := ["internal/abi.NoEscape", "internal/bytealg.IndexByteString", "internal/bytealg.IndexString"], unfollowed := true, recurses := true, named := ["unicode/utf8.first", "unicode/utf8.acceptRanges", "internal/bytealg.MaxLen"], apart := false, laid := [("unicode/utf8.acceptRanges", laid_unicode_utf8_acceptRanges), ("unicode/utf8.first", laid_unicode_utf8_first)], narrowed := true }
def GaugeCountedUptoSaid : Prop := gaugeCountedUptoRow.holds Tryd.pinned (OpenSpec.upto gaugeCountedSpec)

/-- 'remouldlaw04.GaugeUnits', WHERE WHAT IT READS IS OF BULK AT MOST 1048576: true; the input reads as it did. -/
def gaugeUnitsUptoRow : OpenClaim := { program := "ytgocloilagcfoabdoor", sum := "ca3c856273906ed6ef0d78312787f540d0d1d3706a582a99e0057ecdc99207eb", func := "remould/remouldlaw04.GaugeUnits", spec := "gaugeUnits", inPlace := ["internal/abi.NoEscape", "internal/bytealg.IndexByteString", "internal/bytealg.IndexString"], unfollowed := true, recurses := true, named := ["unicode/utf8.first", "unicode/utf8.acceptRanges", "internal/bytealg.MaxLen"], apart := false, laid := [("unicode/utf8.acceptRanges", laid_unicode_utf8_acceptRanges), ("unicode/utf8.first", laid_unicode_utf8_first)], narrowed := true }
def GaugeUnitsUptoSaid : Prop := gaugeUnitsUptoRow.holds Tryd.pinned (OpenSpec.upto gaugeUnitsSpec)

/-- 'remouldlaw04.GaugeFloors', WHERE WHAT IT READS IS OF BULK AT MOST 1048576: true; the input reads as it did. -/
def gaugeFloorsUptoRow : OpenClaim := { program := "ytgocloilagcfoabdoor", sum := "ca3c856273906ed6ef0d78312787f540d0d1d3706a582a99e0057ecdc99207eb", func := "remould/remouldlaw04.GaugeFloors", spec := "gaugeFloors", inPlace := ["internal/abi.NoEscape", "internal/bytealg.IndexByteString", "internal/bytealg.IndexString"], unfollowed := true, recurses := true, named := ["unicode/utf8.first", "unicode/utf8.acceptRanges", "internal/bytealg.MaxLen"], apart := false, laid := [("unicode/utf8.acceptRanges", laid_unicode_utf8_acceptRanges), ("unicode/utf8.first", laid_unicode_utf8_first)], narrowed := true }
def GaugeFloorsUptoSaid : Prop := gaugeFloorsUptoRow.holds Tryd.pinned (OpenSpec.upto gaugeFloorsSpec)

end Rows
end Go.Proofs.YtgocloilagcfoabDoor
