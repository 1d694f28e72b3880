/- A world for the cards' witness: the listed variables laid; what the rack's laws ask of the start. -/
import Derived.Test.YtpnfmbeccjehiaaDoorCards
import Derived.Test.YtpnfmbeccjehiaaDoorTie
import Derived.WalkKit
import Derived.ProofKit
import Derived.OpenShut
import Derived.Deep.DeepHandedRow
import Derived.Lib.LaidTab
import Derived.Lib.LaidU8
import Derived.Lib.SmallJoins
import Derived.PinnedBridge
import Derived.Lay
import Derived.LaidOnce
import Derived.SevenTiedAt
import Derived.ChangeSlices
import Derived.Carry
import Derived.Test.YtpnfmbeccjehiaaDoorZ7
namespace Go.Proofs.YtpnfmbeccjehiaaDoor
open Go.ChangeShapes Go.WideShapes Go.ChangeAt Go.RowKit Go.Proofs.YtpnfmbeccjehiaaDoorW.PrintWords Go.Proofs.YtpnfmbeccjehiaaDoorW.PrintLast Go.Proofs.YtpnfmbeccjehiaaDoorW.PrintMore
theorem own : ownKnob Tryd.prog.godebug = none := by kernel_rfl
theorem inI {x : Int} (h : (Lit.int .i64 x).wf = true) : -9223372036854775808 ≤ x ∧ x ≤ 9223372036854775807 := by
 simpa [Lit.wf, IntKind.min, IntKind.max, IntKind.signed, IntKind.bits] using h
/-- the listed variables -/
noncomputable def tabs : List (String × DataW Unit) := [("math/bits.deBruijn32tab", Rows.laid_math_bits_deBruijn32tab), ("math/bits.deBruijn64tab", Rows.laid_math_bits_deBruijn64tab), ("internal/strconv.uint64pow10", Rows.laid_internal_strconv_uint64pow10), ("unicode/utf8.acceptRanges", Rows.laid_unicode_utf8_acceptRanges), ("strconv.ErrRange", Rows.laid_strconv_ErrRange), ("strconv.ErrSyntax", Rows.laid_strconv_ErrSyntax), ("unicode/utf8.first", Rows.laid_unicode_utf8_first)]
noncomputable def laidWorld (os : Os) : World := World.laidAll Tryd.prog os tabs
theorem laid_met (os : Os) (args : Array Value) : laidMet Tryd.prog tabs ((laidWorld os).forCall (fun _ _ => 0) ⟨#[], args, []⟩).memory :=
 laidMet_laidAll args (by kernel_rfl) (by kernel_rfl)
theorem laidOut : laidOutB Tryd.prog = true := by kernel_rfl
theorem pow_data : (Rows.laid_internal_strconv_uint64pow10 : DataW Unit) = Lib.tabData .u64 Lib.pow10Tab := by kernel_rfl
theorem no_handle : (tabs.filter fun x => x.2.handleName?.isSome) = [] := by kernel_rfl
set_option maxRecDepth 100000 in
theorem tab_of {W : World} (h : laidMetH Tryd.prog tabs W) : Tab W := by
 have h' : laidMet Tryd.prog tabs W := by
  unfold laidMetH at h
  rw [no_handle] at h
  exact h
 clear h
 have hr : Lib.VarReads Tryd.prog W "internal/strconv.uint64pow10" Rows.laid_internal_strconv_uint64pow10 := Lib.laidMet.reads h' (.tail _ (.tail _ (.head _)))
 obtain ⟨g', t', cs, fuel, p, hg', ht', hvar, hd⟩ := hr
 have hg : Tryd.prog.globalNamed "internal/strconv.uint64pow10" = some (lays171_ren.g 17) := by kernel_rfl
 obtain rfl := Option.some.inj (hg.symm.trans hg')
 have hty : (Tryd.prog.globals[lays171_ren.g 17]?).map (·.type) = some 155 := by kernel_rfl
 obtain rfl := Option.some.inj (hty.symm.trans ht')
 have ht : Lib.TabIs Tryd.prog W "internal/strconv.uint64pow10" .u64 Lib.pow10Tab := by
  unfold Lib.TabIs
  rw [pow_data] at hd
  rw [hvar, ← Lib.cells_of_tab (n := 20) (e := 130) Tryd.underlying155 Tryd.underlying130 (by kernel_rfl) (by kernel_rfl) hd]
 exact ⟨ht, block_lt_of_cell (ht.cell hg 0 (by decide))⟩
set_option maxRecDepth 100000 in
/-- an argument that is a slice of ints -/
theorem LI_of {H : Type} {enc : TypeId × Value → H} {W : World} {base base' : Nat} {v : Value} {d : DataW H} {ps : List MemPlace} (hv : Value.okWide Tryd.prog W .any base' 23 v) (h : DataW.Trod enc Tryd.prog W base (fun _ => true) true 23 v d ps) :
  ∃ xs, LI W v xs ∧ ∀ x ∈ xs, -9223372036854775808 ≤ x ∧ x ≤ 9223372036854775807 := by
 obtain ⟨a0, len, cap, rfl⟩ := Go.WideShapes.okWide_slice Tryd.underlying23 hv
 obtain ⟨fuel, hf⟩ := h
 rcases open_ints Tryd.underlying23 Tryd.underlying3 (by kernel_rfl) hf with ⟨hcs, -⟩ | ⟨a, len', cap', ns, hcs, -, hl, hm, hz, -, hcell, hwz⟩
 ·
  obtain ⟨rfl, rfl, rfl⟩ : a0 = none ∧ len = 0 ∧ cap = 0 := by simpa [Value.cells] using hcs
  exact ⟨[], ⟨none, 0, rfl, Nat.le_refl _, rfl, by simp, fun h => by simp at h⟩, fun x h => by cases h⟩
 ·
  obtain ⟨rfl, rfl, rfl⟩ : a0 = some a ∧ len = len' ∧ cap = cap' := by simpa [Value.cells] using hcs
  have hz' : ns.length = cap := by simpa using hz
  have hlen : (ns.take len).length = len := by rw [List.length_take]; omega
  have hm' : len ≤ 9223372036854775807 := by unfold maxLen at hm; omega
  refine ⟨ns.take len, ⟨some a, cap, by rw [hlen], by rw [hlen]; exact hl, rfl, by rw [hlen]; exact hm', fun _ => ⟨a, rfl, fun j x hj => ⟨[.int .i64 x], rfl, rfl, fun i u hu => ?_⟩⟩⟩, fun x hx => inI (hwz x (List.mem_of_mem_take hx))⟩
  have hjl := (List.getElem?_eq_some_iff.1 hj).1
  rw [hlen] at hjl
  rw [List.getElem?_take, if_pos hjl] at hj
  have hc := hcell j (by omega)
  rw [List.getD, hj] at hc
  match i, hu with
  | 0, hu =>
   simp at hu
   subst hu
   simpa [Kd.int, Kd.scalar] using hc
  | i + 1, hu => simp at hu
end Go.Proofs.YtpnfmbeccjehiaaDoor
