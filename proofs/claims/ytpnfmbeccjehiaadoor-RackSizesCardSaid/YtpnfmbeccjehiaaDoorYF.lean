/- RackSizes: for every string the law returns true. -/
import Derived.Test.YtpnfmbeccjehiaaDoorK60
import Derived.Test.YtpnfmbeccjehiaaDoorF2
namespace Go.Proofs.YtpnfmbeccjehiaaDoor
open Go.RowKit Go.Proofs.YtpnfmbeccjehiaaDoorW.PrintWords Go.Proofs.YtpnfmbeccjehiaaDoorW.PrintLast Go.Proofs.YtpnfmbeccjehiaaDoorW.PrintMore
attribute [local go_sem ↓] Go.wp_at_zero Go.wp_at_succ
set_option maxRecDepth 100000 in
set_option maxHeartbeats 8000000 in
theorem RackSizes_walk (l : List UInt8) (w : World) (ht : Tab w) (_ : l.length ≤ maxLen) :
  Calls Tryd.prog 8 #[.string ⟨l.toArray⟩] w fun e w' => e = .returned (.bool true) ∧ Below w.heap.size w w' := by
 have HT := Lib.hid ht
 obtain ⟨l2, hl2, hbr⟩ := brief_any l w
 have HBR := Lib.hid hbr
 have B0 : Below w.heap.size w w := Below.refl _ _
 obtain ⟨S, hS⟩ : ∃ S : ByteArray, ⟨l2.toArray⟩ = S := ⟨_, rfl⟩
 have hSZ := fun wx ht => Size_any l2 wx (by omega) ht
 have hSH := fun wx => refShapes l2 wx (by omega)
 rw [hS] at hSZ hSH HBR
 cases hr : RK.sizeOf l2 with
 | some n =>
  rw [hr] at hSZ hSH
  simp only [sizeT, shapesR] at hSZ hSH
  have HSZ := Lib.hid hSZ
  have HSH := Lib.hid hSH
  clear hSZ hSH hr hbr ht hS
  go_enter Tryd.func8, Tryd.ntmps8
  go_wp2_with fail
  refine (HBR.out).mono ?_
  rintro e w1 ⟨rfl, hb⟩
  have B1 : Below w.heap.size w w1 := bl_call B0 hb B0.size
  clear hb
  go_wp2_with fail
  refine (HSZ.out w1 (HT.out.below B1)).mono ?_
  rintro e w2 ⟨rfl, hb⟩
  have B2 : Below w.heap.size w w2 := bl_call B1 hb B1.size
  clear hb
  go_wp2_with fail
  refine (HSH.out w2).mono ?_
  rintro e w3 ⟨rfl, hb⟩
  have B3 : Below w.heap.size w w3 := bl_call B2 hb B2.size
  clear hb
  go_wp2_with fail
  refine (awake_any _ (HT.out.below B3)).mono ?_
  rintro e w4 ⟨rfl, hb⟩
  have B4 : Below w.heap.size w w4 := bl_call B3 hb B3.size
  clear hb
  go_wp2_with fail
  go_ret
  exact ⟨rfl, B4⟩
 | none =>
  rw [hr] at hSZ hSH
  simp only [sizeT, shapesR] at hSZ hSH
  have HSZ := Lib.hid hSZ
  have HSH := Lib.hid hSH
  clear hSZ hSH hr hbr ht hS
  go_enter Tryd.func8, Tryd.ntmps8
  go_wp2_with fail
  refine (HBR.out).mono ?_
  rintro e w1 ⟨rfl, hb⟩
  have B1 : Below w.heap.size w w1 := bl_call B0 hb B0.size
  clear hb
  go_wp2_with fail
  refine (HSZ.out w1 (HT.out.below B1)).mono ?_
  rintro e w2 ⟨rfl, hb⟩
  have B2 : Below w.heap.size w w2 := bl_call B1 hb B1.size
  clear hb
  go_wp2_with fail
  refine (HSH.out w2).mono ?_
  rintro e w3 ⟨rfl, hb⟩
  have B3 : Below w.heap.size w w3 := bl_call B2 hb B2.size
  clear hb
  go_wp2_with fail
  refine (awake_any _ (HT.out.below B3)).mono ?_
  rintro e w4 ⟨rfl, hb⟩
  have B4 : Below w.heap.size w w4 := bl_call B3 hb B3.size
  clear hb
  go_wp2_with fail
  go_ret
  exact ⟨rfl, B4⟩
namespace rackSizes
open Go.ChangeShapes Go.WideShapes Go.ChangeAt Go.RowKit
open Go.Lib Go.Joins
open Go.ChangeMaps (open_string shut_string)
set_option maxRecDepth 100000 in
theorem contract (H : Type) (enc : TypeId × Value → H) (W : World) (base : Nat) (args : Array Value) (ds gs : List (DataW H)) (before : List MemPlace)
  (hval : ∀ (j : Nat) t v, Tryd.f8.params[j]? = some t → args[j]? = some v → Value.okWide Tryd.prog W .any base t v)
  (hW : DataW.Whole enc Tryd.prog Tryd.f8.params.toList Rows.rackSizesSpec.vars false W args.toList ds gs before) (hL : laidMetH Tryd.prog tabs W) :
  Calls Tryd.prog 8 args W fun e W' => ∃ v, e = .returned v ∧ Rows.rackSizesSpec.post enc Tryd.prog Tryd.f8 false true false false W args v W' := by
 have hW' := hW
 obtain ⟨p, q, hA0, hV, rfl, hfz, hnd⟩ := hW
 have hA : DataW.TrodAll enc Tryd.prog W 0 (fun _ => true) true Tryd.f8.params.toList args.toList ds p := hA0
 rw [Tryd.params8] at hA hval
 obtain ⟨v0, vs0, d0, ds0, p0, q0, hargs, rfl, rfl, h0, r0⟩ := trodAll_cons hA
 obtain ⟨rfl, rfl, rfl⟩ := trodAll_nil r0
 obtain rfl : args = #[v0] := by cases args; simp_all
 obtain ⟨rfl, rfl⟩ := trodVars_none hV
 obtain ⟨x0, rfl, rfl, rfl, wx0⟩ := open_string Tryd.underlying9 (hval 0 9 v0 rfl rfl) h0
 clear hA0
 try simp only [List.append_nil] at hW'
 have es0 : x0 = ⟨x0.data.toList.toArray⟩ := by cases x0; simp
 refine (show Calls Tryd.prog 8 _ W _ from (RackSizes_walk x0.data.toList W (tab_of hL) (by exact wx0))).mono fun e W' ⟨he, hb⟩ => ?_
 subst he
 exact ⟨_, rfl, _, _, _, _, _, _, hW', trodAll_mk1 (shut_bool Tryd.underlying4 _), trodAll_cons_mk (shut_string Tryd.underlying9 wx0) (trodAll_mk0), rfl, hb.frame _, fun h => by cases h⟩
theorem reads (os : Os) {H : Type} (enc : TypeId × Value → H) : ∃ places, DataW.whole enc Tryd.prog ((laidWorld os).forCall (fun _ _ => 0) ⟨#[], #[.string ⟨#[]⟩], []⟩).memory Tryd.f8.params.toList Rows.rackSizesSpec.vars false (#[.string ⟨#[]⟩] : Array Value).toList 8 = some ([.lit (.string [])], [], places) :=
 ⟨[], by kernel_rfl⟩
set_option maxRecDepth 100000 in
theorem lifted (os : Os) (started : os.Started) (H : Type) (enc : TypeId × Value → H) (F : Stop.Interp) :
  ReturnsInHanded {} Tryd.checked os 8 .any ((OpenSpec.ofChange Rows.rackSizesSpec).preRow enc Tryd.prog Tryd.f8 Rows.rackSizesRow.domain false Rows.rackSizesRow.laid) (((OpenSpec.ofChange Rows.rackSizesSpec).at F).post enc Tryd.prog Tryd.f8 false true false false) := by
 obtain ⟨places, hx⟩ := reads os enc
 refine returnsInHanded_of_row (C := Tryd.checked) (s := OpenSpec.ofChange Rows.rackSizesSpec) own started (by kernel_rfl) Tryd.func8
  (witness_row_at (enc := enc) (C := Tryd.checked) false (laidWorld os) #[.string ⟨#[]⟩] rfl (by kernel_rfl) (by kernel_rfl) (by kernel_rfl)
   (OpenSpec.preRow_of_cond 8 hx (by kernel_rfl) (fun k hk => by cases hk) (by kernel_rfl) (laid_met os _))) ?_
 intro W base args ds gs before hval hW _ _ _ hL _ _
 exact contract H enc W base args ds gs before hval hW hL
theorem said : Rows.RackSizesSaid :=
 OpenClaim.holds_of_cond 8 Tryd.f8 rfl rfl rfl rfl rfl rfl rfl ⟨rfl, rfl, rfl, rfl, rfl⟩ rfl rfl rfl rfl rfl (by kernel_rfl) Tryd.func8 (by kernel_rfl)
  (of_decide_eq_true (by kernel_rfl)) (by unfold Func.isWrapper; first | (rw [if_pos (by decide +kernel)]; kernel_rfl) | (rw [if_neg (by decide +kernel)]; exact ⟨rfl, rfl⟩))
  (fun os started H enc _ F => by rw [OpenClaim.pre_eq_preRow]; exact lifted os started H enc F)
theorem plain (f : FuncId) (fn : Func) (hf : Tryd.pinned.checked.prog.funcNamed "remould/remouldlaw07.RackSizes" = some f) (hfn : Tryd.pinned.checked.prog.funcs[f]? = some fn) :
  true = Tryd.pinned.checked.prog.looks [] ∧ ∀ (j : Nat) t, fn.params[j]? = some t → Tryd.pinned.checked.prog.wantsStandIn t = false := by
 obtain rfl : f = 8 := Option.some.inj ((show Tryd.prog.funcNamed "remould/remouldlaw07.RackSizes" = some 8 by kernel_rfl).symm.trans hf) |>.symm
 obtain rfl : fn = Tryd.f8 := (Option.some.inj (Tryd.func8.symm.trans hfn)).symm
 refine ⟨by kernel_rfl, fun j t ht => ?_⟩
 rw [Tryd.params8] at ht
 have hm : t ∈ [9] := by simpa using Array.mem_of_getElem? ht
 have hall : ([9].all fun u => !Tryd.prog.wantsStandIn u) = true := by kernel_rfl
 exact (show Tryd.prog.wantsStandIn t = false by simpa using List.all_eq_true.1 hall t (by simpa using hm))
theorem card : Rows.RackSizesCardSaid :=
 Claim7.holds_tied_plain_at .later [] _ _ _ _ said (fun _ h => by cases h) (by kernel_rfl) (fun _ h => by cases h) rackSizes_row_tie rfl ⟨rfl, rfl⟩ (by kernel_rfl) rfl plain (by kernel_rfl)
end rackSizes
theorem RackSizes_holds : Rows.RackSizesCardSaid := rackSizes.card
end Go.Proofs.YtpnfmbeccjehiaaDoor
