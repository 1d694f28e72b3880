/-
  NARROWER THAN 'FOR EVERY INPUT', by the rows' own cells (each row's printed sentence says how): GaugeTexts: laid · GaugeDivides: laid · GaugeGrown: laid · GaugeEuclid: laid · GaugeValues: laid · GaugeBack: laid · GaugeOnce: laid · GaugeCarried: laid · GaugeCompares: laid · GaugeRungs: laid · GaugeOrdered: laid · GaugeLeft: laid.
  DERIVED. THE GIVEN ROWS OF THIS SEAT. 12 by the template 'for every input the law returns true; each argument reads behind the call as it read before'; 0 by the template 'total and deterministic' (their statements: YtgocloilagcfoaaDoorTotals.lean).
  GIVEN WITH THE SEED: the statements are not yours to turn. If you find one false, say at which input.
  Laid BY PROGRAM, IN A SANDBOX (cutbox-rows.mjs): the forced cells as the released guide's own fill.sh prints them over the translation 081b87c7308169d5… (all of the seat's roots in one cut). By AI agents, Wed Nov 11 2026. No macro, syntax, notation, axiom, sorry.
-/
import Derived.Test.YtgocloilagcfoaaDoorChecked
import GoSem.PinnedTables
import GoSem.Claim
import GoSem.ClaimJoined
import GoSem.ClaimMapViews
import Derived.JoinedTies
import Derived.KernelRfl
namespace Go.Proofs.YtgocloilagcfoaaDoor
/- THE CELL 'sum', in the pinned program and in every row, IS THE sha256 OF THE DUMP (.gsa) THAT YtgocloilagcfoaaDoorProg.lean LOADS. Nothing in Lean hashes anything: it is a label: what it is worth is what the hold of that sum in a sandbox is worth. -/
noncomputable def Tryd.pinned : Pinned := { name := "ytgocloilagcfoaadoor", sum := "081b87c7308169d50ea6e4ac590b9e45605630faf01a0402b584d8fe91f56f91", checked := Tryd.checked }
namespace Rows
def none {H : Type} : Left H := { results := [], args := [] }

/- WHAT THE LISTED PACKAGE-LEVEL VARIABLES READ AS WHEN THE CALL BEGINS. Each datum BY PROGRAM (the guide's laid-datum.mjs) off the statement by which the dump's own 'gosem.cut.vars' lays the variable. In a bare row this is a premise. The card (YtgocloilagcfoaaDoorCards.lean) ties it to the program's text. -/
def laid_unicode_utf8_acceptRanges {H : Type} : DataW H := .agg [.agg [.lit (.int .u8 128), .lit (.int .u8 191)], .agg [.lit (.int .u8 160), .lit (.int .u8 191)], .agg [.lit (.int .u8 128), .lit (.int .u8 159)], .agg [.lit (.int .u8 144), .lit (.int .u8 191)], .agg [.lit (.int .u8 128), .lit (.int .u8 143)], .agg [.lit (.int .u8 0), .lit (.int .u8 0)], .agg [.lit (.int .u8 0), .lit (.int .u8 0)], .agg [.lit (.int .u8 0), .lit (.int .u8 0)], .agg [.lit (.int .u8 0), .lit (.int .u8 0)], .agg [.lit (.int .u8 0), .lit (.int .u8 0)], .agg [.lit (.int .u8 0), .lit (.int .u8 0)], .agg [.lit (.int .u8 0), .lit (.int .u8 0)], .agg [.lit (.int .u8 0), .lit (.int .u8 0)], .agg [.lit (.int .u8 0), .lit (.int .u8 0)], .agg [.lit (.int .u8 0), .lit (.int .u8 0)], .agg [.lit (.int .u8 0), .lit (.int .u8 0)]]
/-- One of Go's own tables, pinned by name: the form's constant. -/
def laid_unicode_utf8_first : DataW Unit := Go.Pinned.utf8First

/-- 'remouldlaw04.GaugeTexts': WHATEVER THE INPUT: true; the input reads as it did. -/
def gaugeTextsSpec : ChangeSpec := { name := "gaugeTexts", fn := fun _ => fun
  | [d] => { results := [.lit (.bool true)], args := [d] }
  | _ => none }
def gaugeTextsRow : OpenClaim := { program := "ytgocloilagcfoaadoor", sum := "081b87c7308169d50ea6e4ac590b9e45605630faf01a0402b584d8fe91f56f91", func := "remould/remouldlaw04.GaugeTexts", spec := "gaugeTexts", inPlace := ["internal/abi.NoEscape", "internal/bytealg.IndexByteString", "internal/bytealg.IndexString"], unfollowed := true, recurses := true, named := ["unicode/utf8.first", "unicode/utf8.acceptRanges", "internal/bytealg.MaxLen"], apart := false, laid := [("unicode/utf8.acceptRanges", laid_unicode_utf8_acceptRanges), ("unicode/utf8.first", laid_unicode_utf8_first)] }
def GaugeTextsSaid : Prop := gaugeTextsRow.holds Tryd.pinned (OpenSpec.ofChange gaugeTextsSpec)

/-- ITS FALSE NEIGHBOUR: 'it returns false'. Refute it at one input. -/
def gaugeTextsWrong : ChangeSpec := { name := "gaugeTexts", fn := fun _ => fun
  | [d] => { results := [.lit (.bool false)], args := [d] }
  | _ => none }
def GaugeTextsWrongFalsely : Prop := gaugeTextsRow.holds Tryd.pinned (OpenSpec.ofChange gaugeTextsWrong)

/-- 'remouldlaw04.GaugeDivides': WHATEVER THE INPUT: true; the input reads as it did. -/
def gaugeDividesSpec : ChangeSpec := { name := "gaugeDivides", fn := fun _ => fun
  | [d1, d2] => { results := [.lit (.bool true)], args := [d1, d2] }
  | _ => none }
def gaugeDividesRow : OpenClaim := { program := "ytgocloilagcfoaadoor", sum := "081b87c7308169d50ea6e4ac590b9e45605630faf01a0402b584d8fe91f56f91", func := "remould/remouldlaw04.GaugeDivides", spec := "gaugeDivides", inPlace := ["internal/abi.NoEscape", "internal/bytealg.IndexByteString", "internal/bytealg.IndexString"], unfollowed := true, recurses := true, named := ["unicode/utf8.first", "unicode/utf8.acceptRanges", "internal/bytealg.MaxLen"], apart := false, laid := [("unicode/utf8.acceptRanges", laid_unicode_utf8_acceptRanges), ("unicode/utf8.first", laid_unicode_utf8_first)] }
def GaugeDividesSaid : Prop := gaugeDividesRow.holds Tryd.pinned (OpenSpec.ofChange gaugeDividesSpec)

/-- ITS FALSE NEIGHBOUR: 'it returns false'. Refute it at one input. -/
def gaugeDividesWrong : ChangeSpec := { name := "gaugeDivides", fn := fun _ => fun
  | [d1, d2] => { results := [.lit (.bool false)], args := [d1, d2] }
  | _ => none }
def GaugeDividesWrongFalsely : Prop := gaugeDividesRow.holds Tryd.pinned (OpenSpec.ofChange gaugeDividesWrong)

/-- 'remouldlaw04.GaugeGrown': WHATEVER THE INPUT: true; the input reads as it did. -/
def gaugeGrownSpec : ChangeSpec := { name := "gaugeGrown", fn := fun _ => fun
  | [d] => { results := [.lit (.bool true)], args := [d] }
  | _ => none }
def gaugeGrownRow : OpenClaim := { program := "ytgocloilagcfoaadoor", sum := "081b87c7308169d50ea6e4ac590b9e45605630faf01a0402b584d8fe91f56f91", func := "remould/remouldlaw04.GaugeGrown", spec := "gaugeGrown", inPlace := ["internal/abi.NoEscape", "internal/bytealg.IndexByteString", "internal/bytealg.IndexString"], unfollowed := true, recurses := true, named := ["unicode/utf8.first", "unicode/utf8.acceptRanges", "internal/bytealg.MaxLen"], apart := false, laid := [("unicode/utf8.acceptRanges", laid_unicode_utf8_acceptRanges), ("unicode/utf8.first", laid_unicode_utf8_first)] }
def GaugeGrownSaid : Prop := gaugeGrownRow.holds Tryd.pinned (OpenSpec.ofChange gaugeGrownSpec)

/-- ITS FALSE NEIGHBOUR: 'it returns false'. Refute it at one input. -/
def gaugeGrownWrong : ChangeSpec := { name := "gaugeGrown", fn := fun _ => fun
  | [d] => { results := [.lit (.bool false)], args := [d] }
  | _ => none }
def GaugeGrownWrongFalsely : Prop := gaugeGrownRow.holds Tryd.pinned (OpenSpec.ofChange gaugeGrownWrong)

/-- 'remouldlaw04.GaugeEuclid': WHATEVER THE INPUT: true; the input reads as it did. -/
def gaugeEuclidSpec : ChangeSpec := { name := "gaugeEuclid", fn := fun _ => fun
  | [d1, d2] => { results := [.lit (.bool true)], args := [d1, d2] }
  | _ => none }
def gaugeEuclidRow : OpenClaim := { program := "ytgocloilagcfoaadoor", sum := "081b87c7308169d50ea6e4ac590b9e45605630faf01a0402b584d8fe91f56f91", func := "remould/remouldlaw04.GaugeEuclid", spec := "gaugeEuclid", inPlace := ["internal/abi.NoEscape", "internal/bytealg.IndexByteString", "internal/bytealg.IndexString"], unfollowed := true, recurses := true, named := ["unicode/utf8.first", "unicode/utf8.acceptRanges", "internal/bytealg.MaxLen"], apart := false, laid := [("unicode/utf8.acceptRanges", laid_unicode_utf8_acceptRanges), ("unicode/utf8.first", laid_unicode_utf8_first)] }
def GaugeEuclidSaid : Prop := gaugeEuclidRow.holds Tryd.pinned (OpenSpec.ofChange gaugeEuclidSpec)

/-- ITS FALSE NEIGHBOUR: 'it returns false'. Refute it at one input. -/
def gaugeEuclidWrong : ChangeSpec := { name := "gaugeEuclid", fn := fun _ => fun
  | [d1, d2] => { results := [.lit (.bool false)], args := [d1, d2] }
  | _ => none }
def GaugeEuclidWrongFalsely : Prop := gaugeEuclidRow.holds Tryd.pinned (OpenSpec.ofChange gaugeEuclidWrong)

/-- 'remouldlaw04.GaugeValues': WHATEVER THE INPUT: true; the input reads as it did. -/
def gaugeValuesSpec : ChangeSpec := { name := "gaugeValues", fn := fun _ => fun
  | [d] => { results := [.lit (.bool true)], args := [d] }
  | _ => none }
def gaugeValuesRow : OpenClaim := { program := "ytgocloilagcfoaadoor", sum := "081b87c7308169d50ea6e4ac590b9e45605630faf01a0402b584d8fe91f56f91", func := "remould/remouldlaw04.GaugeValues", spec := "gaugeValues", inPlace := ["internal/bytealg.IndexByteString", "internal/bytealg.IndexString", "internal/abi.NoEscape"], unfollowed := true, recurses := true, named := ["internal/bytealg.MaxLen", "unicode/utf8.first", "unicode/utf8.acceptRanges"], apart := false, laid := [("unicode/utf8.acceptRanges", laid_unicode_utf8_acceptRanges), ("unicode/utf8.first", laid_unicode_utf8_first)] }
def GaugeValuesSaid : Prop := gaugeValuesRow.holds Tryd.pinned (OpenSpec.ofChange gaugeValuesSpec)

/-- ITS FALSE NEIGHBOUR: 'it returns false'. Refute it at one input. -/
def gaugeValuesWrong : ChangeSpec := { name := "gaugeValues", fn := fun _ => fun
  | [d] => { results := [.lit (.bool false)], args := [d] }
  | _ => none }
def GaugeValuesWrongFalsely : Prop := gaugeValuesRow.holds Tryd.pinned (OpenSpec.ofChange gaugeValuesWrong)

/-- 'remouldlaw04.GaugeBack': WHATEVER THE INPUT: true; the input reads as it did. -/
def gaugeBackSpec : ChangeSpec := { name := "gaugeBack", fn := fun _ => fun
  | [d] => { results := [.lit (.bool true)], args := [d] }
  | _ => none }
def gaugeBackRow : OpenClaim := { program := "ytgocloilagcfoaadoor", sum := "081b87c7308169d50ea6e4ac590b9e45605630faf01a0402b584d8fe91f56f91", func := "remould/remouldlaw04.GaugeBack", spec := "gaugeBack", inPlace := ["internal/abi.NoEscape", "internal/bytealg.IndexByteString", "internal/bytealg.IndexString"], unfollowed := true, recurses := true, named := ["unicode/utf8.first", "unicode/utf8.acceptRanges", "internal/bytealg.MaxLen"], apart := false, laid := [("unicode/utf8.acceptRanges", laid_unicode_utf8_acceptRanges), ("unicode/utf8.first", laid_unicode_utf8_first)] }
def GaugeBackSaid : Prop := gaugeBackRow.holds Tryd.pinned (OpenSpec.ofChange gaugeBackSpec)

/-- ITS FALSE NEIGHBOUR: 'it returns false'. Refute it at one input. -/
def gaugeBackWrong : ChangeSpec := { name := "gaugeBack", fn := fun _ => fun
  | [d] => { results := [.lit (.bool false)], args := [d] }
  | _ => none }
def GaugeBackWrongFalsely : Prop := gaugeBackRow.holds Tryd.pinned (OpenSpec.ofChange gaugeBackWrong)

/-- 'remouldlaw04.GaugeOnce': WHATEVER THE INPUT: true; the input reads as it did. -/
def gaugeOnceSpec : ChangeSpec := { name := "gaugeOnce", fn := fun _ => fun
  | [d1, d2] => { results := [.lit (.bool true)], args := [d1, d2] }
  | _ => none }
def gaugeOnceRow : OpenClaim := { program := "ytgocloilagcfoaadoor", sum := "081b87c7308169d50ea6e4ac590b9e45605630faf01a0402b584d8fe91f56f91", func := "remould/remouldlaw04.GaugeOnce", spec := "gaugeOnce", inPlace := ["internal/bytealg.IndexByteString", "internal/bytealg.IndexString", "internal/abi.NoEscape"], unfollowed := true, recurses := true, named := ["internal/bytealg.MaxLen", "unicode/utf8.first", "unicode/utf8.acceptRanges"], apart := false, laid := [("unicode/utf8.acceptRanges", laid_unicode_utf8_acceptRanges), ("unicode/utf8.first", laid_unicode_utf8_first)] }
def GaugeOnceSaid : Prop := gaugeOnceRow.holds Tryd.pinned (OpenSpec.ofChange gaugeOnceSpec)

/-- ITS FALSE NEIGHBOUR: 'it returns false'. Refute it at one input. -/
def gaugeOnceWrong : ChangeSpec := { name := "gaugeOnce", fn := fun _ => fun
  | [d1, d2] => { results := [.lit (.bool false)], args := [d1, d2] }
  | _ => none }
def GaugeOnceWrongFalsely : Prop := gaugeOnceRow.holds Tryd.pinned (OpenSpec.ofChange gaugeOnceWrong)

/-- 'remouldlaw04.GaugeCarried': WHATEVER THE INPUT: true; the input reads as it did. -/
def gaugeCarriedSpec : ChangeSpec := { name := "gaugeCarried", fn := fun _ => fun
  | [d1, d2, d3] => { results := [.lit (.bool true)], args := [d1, d2, d3] }
  | _ => none }
def gaugeCarriedRow : OpenClaim := { program := "ytgocloilagcfoaadoor", sum := "081b87c7308169d50ea6e4ac590b9e45605630faf01a0402b584d8fe91f56f91", func := "remould/remouldlaw04.GaugeCarried", spec := "gaugeCarried", inPlace := ["internal/bytealg.IndexByteString", "internal/bytealg.IndexString", "internal/abi.NoEscape"], unfollowed := true, recurses := true, named := ["internal/bytealg.MaxLen", "unicode/utf8.first", "unicode/utf8.acceptRanges"], apart := false, laid := [("unicode/utf8.acceptRanges", laid_unicode_utf8_acceptRanges), ("unicode/utf8.first", laid_unicode_utf8_first)] }
def GaugeCarriedSaid : Prop := gaugeCarriedRow.holds Tryd.pinned (OpenSpec.ofChange gaugeCarriedSpec)

/-- ITS FALSE NEIGHBOUR: 'it returns false'. Refute it at one input. -/
def gaugeCarriedWrong : ChangeSpec := { name := "gaugeCarried", fn := fun _ => fun
  | [d1, d2, d3] => { results := [.lit (.bool false)], args := [d1, d2, d3] }
  | _ => none }
def GaugeCarriedWrongFalsely : Prop := gaugeCarriedRow.holds Tryd.pinned (OpenSpec.ofChange gaugeCarriedWrong)

/-- 'remouldlaw04.GaugeCompares': WHATEVER THE INPUT: true; the input reads as it did. -/
def gaugeComparesSpec : ChangeSpec := { name := "gaugeCompares", fn := fun _ => fun
  | [d1, d2] => { results := [.lit (.bool true)], args := [d1, d2] }
  | _ => none }
def gaugeComparesRow : OpenClaim := { program := "ytgocloilagcfoaadoor", sum := "081b87c7308169d50ea6e4ac590b9e45605630faf01a0402b584d8fe91f56f91", func := "remould/remouldlaw04.GaugeCompares", spec := "gaugeCompares", inPlace := ["internal/abi.NoEscape", "internal/bytealg.IndexByteString", "internal/bytealg.IndexString"], unfollowed := true, recurses := true, named := ["unicode/utf8.first", "unicode/utf8.acceptRanges", "internal/bytealg.MaxLen"], apart := false, laid := [("unicode/utf8.acceptRanges", laid_unicode_utf8_acceptRanges), ("unicode/utf8.first", laid_unicode_utf8_first)] }
def GaugeComparesSaid : Prop := gaugeComparesRow.holds Tryd.pinned (OpenSpec.ofChange gaugeComparesSpec)

/-- ITS FALSE NEIGHBOUR: 'it returns false'. Refute it at one input. -/
def gaugeComparesWrong : ChangeSpec := { name := "gaugeCompares", fn := fun _ => fun
  | [d1, d2] => { results := [.lit (.bool false)], args := [d1, d2] }
  | _ => none }
def GaugeComparesWrongFalsely : Prop := gaugeComparesRow.holds Tryd.pinned (OpenSpec.ofChange gaugeComparesWrong)

/-- 'remouldlaw04.GaugeRungs': WHATEVER THE INPUT: true; the input reads as it did. -/
def gaugeRungsSpec : ChangeSpec := { name := "gaugeRungs", fn := fun _ => fun
  | [d1, d2] => { results := [.lit (.bool true)], args := [d1, d2] }
  | _ => none }
def gaugeRungsRow : OpenClaim := { program := "ytgocloilagcfoaadoor", sum := "081b87c7308169d50ea6e4ac590b9e45605630faf01a0402b584d8fe91f56f91", func := "remould/remouldlaw04.GaugeRungs", spec := "gaugeRungs", inPlace := ["internal/abi.NoEscape", "internal/bytealg.IndexByteString", "internal/bytealg.IndexString"], unfollowed := true, recurses := true, named := ["unicode/utf8.first", "unicode/utf8.acceptRanges", "internal/bytealg.MaxLen"], apart := false, laid := [("unicode/utf8.acceptRanges", laid_unicode_utf8_acceptRanges), ("unicode/utf8.first", laid_unicode_utf8_first)] }
def GaugeRungsSaid : Prop := gaugeRungsRow.holds Tryd.pinned (OpenSpec.ofChange gaugeRungsSpec)

/-- ITS FALSE NEIGHBOUR: 'it returns false'. Refute it at one input. -/
def gaugeRungsWrong : ChangeSpec := { name := "gaugeRungs", fn := fun _ => fun
  | [d1, d2] => { results := [.lit (.bool false)], args := [d1, d2] }
  | _ => none }
def GaugeRungsWrongFalsely : Prop := gaugeRungsRow.holds Tryd.pinned (OpenSpec.ofChange gaugeRungsWrong)

/-- 'remouldlaw04.GaugeOrdered': WHATEVER THE INPUT: true; the input reads as it did. -/
def gaugeOrderedSpec : ChangeSpec := { name := "gaugeOrdered", fn := fun _ => fun
  | [d1, d2, d3] => { results := [.lit (.bool true)], args := [d1, d2, d3] }
  | _ => none }
def gaugeOrderedRow : OpenClaim := { program := "ytgocloilagcfoaadoor", sum := "081b87c7308169d50ea6e4ac590b9e45605630faf01a0402b584d8fe91f56f91", func := "remould/remouldlaw04.GaugeOrdered", spec := "gaugeOrdered", inPlace := ["internal/abi.NoEscape", "internal/bytealg.IndexByteString", "internal/bytealg.IndexString"], unfollowed := true, recurses := true, named := ["unicode/utf8.first", "unicode/utf8.acceptRanges", "internal/bytealg.MaxLen"], apart := false, laid := [("unicode/utf8.acceptRanges", laid_unicode_utf8_acceptRanges), ("unicode/utf8.first", laid_unicode_utf8_first)] }
def GaugeOrderedSaid : Prop := gaugeOrderedRow.holds Tryd.pinned (OpenSpec.ofChange gaugeOrderedSpec)

/-- ITS FALSE NEIGHBOUR: 'it returns false'. Refute it at one input. -/
def gaugeOrderedWrong : ChangeSpec := { name := "gaugeOrdered", fn := fun _ => fun
  | [d1, d2, d3] => { results := [.lit (.bool false)], args := [d1, d2, d3] }
  | _ => none }
def GaugeOrderedWrongFalsely : Prop := gaugeOrderedRow.holds Tryd.pinned (OpenSpec.ofChange gaugeOrderedWrong)

/-- 'remouldlaw04.GaugeLeft': WHATEVER THE INPUT: true; the input reads as it did. -/
def gaugeLeftSpec : ChangeSpec := { name := "gaugeLeft", fn := fun _ => fun
  | [d1, d2] => { results := [.lit (.bool true)], args := [d1, d2] }
  | _ => none }
def gaugeLeftRow : OpenClaim := { program := "ytgocloilagcfoaadoor", sum := "081b87c7308169d50ea6e4ac590b9e45605630faf01a0402b584d8fe91f56f91", func := "remould/remouldlaw04.GaugeLeft", spec := "gaugeLeft", inPlace := ["internal/abi.NoEscape", "internal/bytealg.IndexByteString", "internal/bytealg.IndexString"], unfollowed := true, recurses := true, named := ["unicode/utf8.first", "unicode/utf8.acceptRanges", "internal/bytealg.MaxLen"], apart := false, laid := [("unicode/utf8.acceptRanges", laid_unicode_utf8_acceptRanges), ("unicode/utf8.first", laid_unicode_utf8_first)] }
def GaugeLeftSaid : Prop := gaugeLeftRow.holds Tryd.pinned (OpenSpec.ofChange gaugeLeftSpec)

/-- ITS FALSE NEIGHBOUR: 'it returns false'. Refute it at one input. -/
def gaugeLeftWrong : ChangeSpec := { name := "gaugeLeft", fn := fun _ => fun
  | [d1, d2] => { results := [.lit (.bool false)], args := [d1, d2] }
  | _ => none }
def GaugeLeftWrongFalsely : Prop := gaugeLeftRow.holds Tryd.pinned (OpenSpec.ofChange gaugeLeftWrong)

/- THE SECOND FORM. 'bulk': how many values and letters a reading holds, each counted each time it is reached (what is shared counts as often as it is met; a slice's spare places count too). A statement '..UptoSaid' is the law's where the arguments, and the package variables that the reading takes, are together of bulk at most 1048576: NARROWER than '..Said'. Prove '..Said' where nothing that the law and all that it calls make is longer than what came in: it says more and counts as full. Else prove '..UptoSaid'. A law counts once. -/
mutual
def uptoBulk {H : Type} : DataW H → Nat
  | .lit (.string bytes) => bytes.length + 1
  | .lit _ => 1
  | .nil => 1
  | .ptr d => uptoBulk d + 1
  | .slice elems spare => uptoBulkAll elems + uptoBulkAll spare + 1
  | .agg parts => uptoBulkAll parts + 1
  | .iface _ d => uptoBulk d + 1
  | .map entries => uptoBulkEntries entries + 1
  | .held _ => 1
def uptoBulkAll {H : Type} : List (DataW H) → Nat
  | [] => 0
  | d :: r => uptoBulk d + uptoBulkAll r
def uptoBulkEntries {H : Type} : List (Lit × DataW H) → Nat
  | [] => 0
  | x :: r => uptoBulkEntry x + uptoBulkEntries r
def uptoBulkEntry {H : Type} : Lit × DataW H → Nat
  | (.string bytes, d) => bytes.length + uptoBulk d + 1
  | (_, d) => uptoBulk d + 1
 end
def uptoSmall : (H : Type) → List (DataW H) → Bool := fun _ ds => decide (uptoBulkAll ds ≤ 1048576)
def OpenSpec.upto (s : _root_.Go.ChangeSpec) : _root_.Go.OpenSpec := { _root_.Go.OpenSpec.ofChange s with cond := some uptoSmall }

/-- 'remouldlaw04.GaugeTexts', WHERE WHAT IT READS IS OF BULK AT MOST 1048576: true; the input reads as it did. -/
def gaugeTextsUptoRow : OpenClaim := { program := "ytgocloilagcfoaadoor", sum := "081b87c7308169d50ea6e4ac590b9e45605630faf01a0402b584d8fe91f56f91", func := "remould/remouldlaw04.GaugeTexts", spec := "gaugeTexts", inPlace := ["internal/abi.NoEscape", "internal/bytealg.IndexByteString", "internal/bytealg.IndexString"], unfollowed := true, recurses := true, named := ["unicode/utf8.first", "unicode/utf8.acceptRanges", "internal/bytealg.MaxLen"], apart := false, laid := [("unicode/utf8.acceptRanges", laid_unicode_utf8_acceptRanges), ("unicode/utf8.first", laid_unicode_utf8_first)], narrowed := true }
def GaugeTextsUptoSaid : Prop := gaugeTextsUptoRow.holds Tryd.pinned (OpenSpec.upto gaugeTextsSpec)

/-- 'remouldlaw04.GaugeDivides', WHERE WHAT IT READS IS OF BULK AT MOST 1048576: true; the input reads as it did. -/
def gaugeDividesUptoRow : OpenClaim := { program := "ytgocloilagcfoaadoor", sum := "081b87c7308169d50ea6e4ac590b9e45605630faf01a0402b584d8fe91f56f91", func := "remould/remouldlaw04.GaugeDivides", spec := "gaugeDivides", inPlace := ["internal/abi.NoEscape", "internal/bytealg.IndexByteString", "internal/bytealg.IndexString"], unfollowed := true, recurses := true, named := ["unicode/utf8.first", "unicode/utf8.acceptRanges", "internal/bytealg.MaxLen"], apart := false, laid := [("unicode/utf8.acceptRanges", laid_unicode_utf8_acceptRanges), ("unicode/utf8.first", laid_unicode_utf8_first)], narrowed := true }
def GaugeDividesUptoSaid : Prop := gaugeDividesUptoRow.holds Tryd.pinned (OpenSpec.upto gaugeDividesSpec)

/-- 'remouldlaw04.GaugeGrown', WHERE WHAT IT READS IS OF BULK AT MOST 1048576: true; the input reads as it did. -/
def gaugeGrownUptoRow : OpenClaim := { program := "ytgocloilagcfoaadoor", sum := "081b87c7308169d50ea6e4ac590b9e45605630faf01a0402b584d8fe91f56f91", func := "remould/remouldlaw04.GaugeGrown", spec := "gaugeGrown", inPlace := ["internal/abi.NoEscape", "internal/bytealg.IndexByteString", "internal/bytealg.IndexString"], unfollowed := true, recurses := true, named := ["unicode/utf8.first", "unicode/utf8.acceptRanges", "internal/bytealg.MaxLen"], apart := false, laid := [("unicode/utf8.acceptRanges", laid_unicode_utf8_acceptRanges), ("unicode/utf8.first", laid_unicode_utf8_first)], narrowed := true }
def GaugeGrownUptoSaid : Prop := gaugeGrownUptoRow.holds Tryd.pinned (OpenSpec.upto gaugeGrownSpec)

/-- 'remouldlaw04.GaugeEuclid', WHERE WHAT IT READS IS OF BULK AT MOST 1048576: true; the input reads as it did. -/
def gaugeEuclidUptoRow : OpenClaim := { program := "ytgocloilagcfoaadoor", sum := "081b87c7308169d50ea6e4ac590b9e45605630faf01a0402b584d8fe91f56f91", func := "remould/remouldlaw04.GaugeEuclid", spec := "gaugeEuclid", inPlace := ["internal/abi.NoEscape", "internal/bytealg.IndexByteString", "internal/bytealg.IndexString"], unfollowed := true, recurses := true, named := ["unicode/utf8.first", "unicode/utf8.acceptRanges", "internal/bytealg.MaxLen"], apart := false, laid := [("unicode/utf8.acceptRanges", laid_unicode_utf8_acceptRanges), ("unicode/utf8.first", laid_unicode_utf8_first)], narrowed := true }
def GaugeEuclidUptoSaid : Prop := gaugeEuclidUptoRow.holds Tryd.pinned (OpenSpec.upto gaugeEuclidSpec)

/-- 'remouldlaw04.GaugeValues', WHERE WHAT IT READS IS OF BULK AT MOST 1048576: true; the input reads as it did. -/
def gaugeValuesUptoRow : OpenClaim := { program := "ytgocloilagcfoaadoor", sum := "081b87c7308169d50ea6e4ac590b9e45605630faf01a0402b584d8fe91f56f91", func := "remould/remouldlaw04.GaugeValues", spec := "gaugeValues", inPlace := ["internal/bytealg.IndexByteString", "internal/bytealg.IndexString", "internal/abi.NoEscape"], unfollowed := true, recurses := true, named := ["internal/bytealg.MaxLen", "unicode/utf8.first", "unicode/utf8.acceptRanges"], apart := false, laid := [("unicode/utf8.acceptRanges", laid_unicode_utf8_acceptRanges), ("unicode/utf8.first", laid_unicode_utf8_first)], narrowed := true }
def GaugeValuesUptoSaid : Prop := gaugeValuesUptoRow.holds Tryd.pinned (OpenSpec.upto gaugeValuesSpec)

/-- 'remouldlaw04.GaugeBack', WHERE WHAT IT READS IS OF BULK AT MOST 1048576: true; the input reads as it did. -/
def gaugeBackUptoRow : OpenClaim := { program := "ytgocloilagcfoaadoor", sum := "081b87c7308169d50ea6e4ac590b9e45605630faf01a0402b584d8fe91f56f91", func := "remould/remouldlaw04.GaugeBack", spec := "gaugeBack", inPlace := ["internal/abi.NoEscape", "internal/bytealg.IndexByteString", "internal/bytealg.IndexString"], unfollowed := true, recurses := true, named := ["unicode/utf8.first", "unicode/utf8.acceptRanges", "internal/bytealg.MaxLen"], apart := false, laid := [("unicode/utf8.acceptRanges", laid_unicode_utf8_acceptRanges), ("unicode/utf8.first", laid_unicode_utf8_first)], narrowed := true }
def GaugeBackUptoSaid : Prop := gaugeBackUptoRow.holds Tryd.pinned (OpenSpec.upto gaugeBackSpec)

/-- 'remouldlaw04.GaugeOnce', WHERE WHAT IT READS IS OF BULK AT MOST 1048576: true; the input reads as it did. -/
def gaugeOnceUptoRow : OpenClaim := { program := "ytgocloilagcfoaadoor", sum := "081b87c7308169d50ea6e4ac590b9e45605630faf01a0402b584d8fe91f56f91", func := "remould/remouldlaw04.GaugeOnce", spec := "gaugeOnce", inPlace := ["internal/bytealg.IndexByteString", "internal/bytealg.IndexString", "internal/abi.NoEscape"], unfollowed := true, recurses := true, named := ["internal/bytealg.MaxLen", "unicode/utf8.first", "unicode/utf8.acceptRanges"], apart := false, laid := [("unicode/utf8.acceptRanges", laid_unicode_utf8_acceptRanges), ("unicode/utf8.first", laid_unicode_utf8_first)], narrowed := true }
def GaugeOnceUptoSaid : Prop := gaugeOnceUptoRow.holds Tryd.pinned (OpenSpec.upto gaugeOnceSpec)

/-- 'remouldlaw04.GaugeCarried', WHERE WHAT IT READS IS OF BULK AT MOST 1048576: true; the input reads as it did. -/
def gaugeCarriedUptoRow : OpenClaim := { program := "ytgocloilagcfoaadoor", sum := "081b87c7308169d50ea6e4ac590b9e45605630faf01a0402b584d8fe91f56f91", func := "remould/remouldlaw04.GaugeCarried", spec := "gaugeCarried", inPlace := ["internal/bytealg.IndexByteString", "internal/bytealg.IndexString", "internal/abi.NoEscape"], unfollowed := true, recurses := true, named := ["internal/bytealg.MaxLen", "unicode/utf8.first", "unicode/utf8.acceptRanges"], apart := false, laid := [("unicode/utf8.acceptRanges", laid_unicode_utf8_acceptRanges), ("unicode/utf8.first", laid_unicode_utf8_first)], narrowed := true }
def GaugeCarriedUptoSaid : Prop := gaugeCarriedUptoRow.holds Tryd.pinned (OpenSpec.upto gaugeCarriedSpec)

/-- 'remouldlaw04.GaugeCompares', WHERE WHAT IT READS IS OF BULK AT MOST 1048576: true; the input reads as it did. -/
def gaugeComparesUptoRow : OpenClaim := { program := "ytgocloilagcfoaadoor", sum := "081b87c7308169d50ea6e4ac590b9e45605630faf01a0402b584d8fe91f56f91", func := "remould/remouldlaw04.GaugeCompares", spec := "gaugeCompares", inPlace := ["internal/abi.NoEscape", "internal/bytealg.IndexByteString", "internal/bytealg.IndexString"], unfollowed := true, recurses := true, named := ["unicode/utf8.first", "unicode/utf8.acceptRanges", "internal/bytealg.MaxLen"], apart := false, laid := [("unicode/utf8.acceptRanges", laid_unicode_utf8_acceptRanges), ("unicode/utf8.first", laid_unicode_utf8_first)], narrowed := true }
def GaugeComparesUptoSaid : Prop := gaugeComparesUptoRow.holds Tryd.pinned (OpenSpec.upto gaugeComparesSpec)

/-- 'remouldlaw04.GaugeRungs', WHERE WHAT IT READS IS OF BULK AT MOST 1048576: true; the input reads as it did. -/
def gaugeRungsUptoRow : OpenClaim := { program := "ytgocloilagcfoaadoor", sum := "081b87c7308169d50ea6e4ac590b9e45605630faf01a0402b584d8fe91f56f91", func := "remould/remouldlaw04.GaugeRungs", spec := "gaugeRungs", inPlace := ["internal/abi.NoEscape", "internal/bytealg.IndexByteString", "internal/bytealg.IndexString"], unfollowed := true, recurses := true, named := ["unicode/utf8.first", "unicode/utf8.acceptRanges", "internal/bytealg.MaxLen"], apart := false, laid := [("unicode/utf8.acceptRanges", laid_unicode_utf8_acceptRanges), ("unicode/utf8.first", laid_unicode_utf8_first)], narrowed := true }
def GaugeRungsUptoSaid : Prop := gaugeRungsUptoRow.holds Tryd.pinned (OpenSpec.upto gaugeRungsSpec)

/-- 'remouldlaw04.GaugeOrdered', WHERE WHAT IT READS IS OF BULK AT MOST 1048576: true; the input reads as it did. -/
def gaugeOrderedUptoRow : OpenClaim := { program := "ytgocloilagcfoaadoor", sum := "081b87c7308169d50ea6e4ac590b9e45605630faf01a0402b584d8fe91f56f91", func := "remould/remouldlaw04.GaugeOrdered", spec := "gaugeOrdered", inPlace := ["internal/abi.NoEscape", "internal/bytealg.IndexByteString", "internal/bytealg.IndexString"], unfollowed := true, recurses := true, named := ["unicode/utf8.first", "unicode/utf8.acceptRanges", "internal/bytealg.MaxLen"], apart := false, laid := [("unicode/utf8.acceptRanges", laid_unicode_utf8_acceptRanges), ("unicode/utf8.first", laid_unicode_utf8_first)], narrowed := true }
def GaugeOrderedUptoSaid : Prop := gaugeOrderedUptoRow.holds Tryd.pinned (OpenSpec.upto gaugeOrderedSpec)

/-- 'remouldlaw04.GaugeLeft', WHERE WHAT IT READS IS OF BULK AT MOST 1048576: true; the input reads as it did. -/
def gaugeLeftUptoRow : OpenClaim := { program := "ytgocloilagcfoaadoor", sum := "081b87c7308169d50ea6e4ac590b9e45605630faf01a0402b584d8fe91f56f91", func := "remould/remouldlaw04.GaugeLeft", spec := "gaugeLeft", inPlace := ["internal/abi.NoEscape", "internal/bytealg.IndexByteString", "internal/bytealg.IndexString"], unfollowed := true, recurses := true, named := ["unicode/utf8.first", "unicode/utf8.acceptRanges", "internal/bytealg.MaxLen"], apart := false, laid := [("unicode/utf8.acceptRanges", laid_unicode_utf8_acceptRanges), ("unicode/utf8.first", laid_unicode_utf8_first)], narrowed := true }
def GaugeLeftUptoSaid : Prop := gaugeLeftUptoRow.holds Tryd.pinned (OpenSpec.upto gaugeLeftSpec)

end Rows
end Go.Proofs.YtgocloilagcfoaaDoor
