/- RackVoid: for every two ints the law returns true. -/
import Derived.Test.YtpnfmbeccjehiabDoorZB
import Derived.Test.YtpnfmbeccjehiabDoorZ8
namespace Go.Proofs.YtpnfmbeccjehiabDoor
open Go.RowKit Go.Proofs.YtpnfmbeccjehiabDoorW.PrintWords Go.Proofs.YtpnfmbeccjehiabDoorW.PrintLast Go.Proofs.YtpnfmbeccjehiabDoorW.PrintMore
attribute [local go_sem ↓] Go.wp_at_zero Go.wp_at_succ

set_option maxRecDepth 100000 in
set_option maxHeartbeats 16000000 in
theorem RackVoid_walk (x y : Int) (w : World) (ht : Tab w) (_ : -9223372036854775808 ≤ x ∧ x ≤ 9223372036854775807) (_ : -9223372036854775808 ≤ y ∧ y ≤ 9223372036854775807) :
    Calls Tryd.prog 8 #[.int .i64 x, .int .i64 y] w fun e w' => e = .returned (.bool true) ∧ Below w.heap.size w w' := by
  have HT := Lib.hid ht
  clear ht
  go_enter Tryd.func8, Tryd.ntmps8
  go_upto_region 2 with fail
  go_loopw [5] (fun i wr => ∃ j : Nat, i = .int .i64 j ∧ j ≤ 2 ∧ Below w.heap.size w wr) (fun i _ => 2 - (intOf i).toNat)
  case atStart => exact ⟨0, (by simp), by omega, Below.refl _ _⟩
  case round =>
    obtain ⟨j, rfl, hj, B⟩ := hrel
    have zr := B.size
    rcases (by omega : j = 0 ∨ j = 1 ∨ j = 2) with rfl | rfl | rfl
    · have HU0 := Lib.hid (show Un wr (.pointer none) from .inl rfl)
      have B0 := B
      clear B
      go_wp2_with fail
      refine (insert_un _ x _ HU0.out).mono ?_
      rintro e w1 ⟨rfl, hb⟩
      have HU1 := Lib.hid (HU0.out.below hb)
      have B1 : Below w.heap.size w w1 := bl_call B0 hb B0.size
      clear hb HU0
      go_wp2_with fail
      refine (delete_un _ x _ HU1.out).mono ?_
      rintro e w2 ⟨rfl, hb⟩
      have HU2 := Lib.hid (HU1.out.below hb)
      have B2 : Below w.heap.size w w2 := bl_call B1 hb B1.size
      clear hb HU1
      go_wp2_with fail
      refine (has_un _ x _ HU2.out).mono ?_
      rintro e w3 ⟨rfl, hb⟩
      have HU3 := Lib.hid (HU2.out.below hb)
      have B3 : Below w.heap.size w w3 := bl_call B2 hb B2.size
      clear hb HU2
      go_wp2_with fail
      refine (min_un _ _ HU3.out).mono ?_
      rintro e w4 ⟨rfl, hb⟩
      have HU4 := Lib.hid (HU3.out.below hb)
      have B4 : Below w.heap.size w w4 := bl_call B3 hb B3.size
      clear hb HU3
      go_wp2_with fail
      refine (max_un _ _ HU4.out).mono ?_
      rintro e w5 ⟨rfl, hb⟩
      have HU5 := Lib.hid (HU4.out.below hb)
      have B5 : Below w.heap.size w w5 := bl_call B4 hb B4.size
      clear hb HU4
      go_wp2_with fail
      refine (next_un _ x _ HU5.out).mono ?_
      rintro e w6 ⟨rfl, hb⟩
      have HU6 := Lib.hid (HU5.out.below hb)
      have B6 : Below w.heap.size w w6 := bl_call B5 hb B5.size
      clear hb HU5
      go_wp2_with fail
      refine (before_un _ x _ HU6.out).mono ?_
      rintro e w7 ⟨rfl, hb⟩
      have HU7 := Lib.hid (HU6.out.below hb)
      have B7 : Below w.heap.size w w7 := bl_call B6 hb B6.size
      clear hb HU6
      go_wp2_with fail
      refine (work_un _ x _ HU7.out).mono ?_
      rintro e w8 ⟨rfl, hb⟩
      have HU8 := Lib.hid (HU7.out.below hb)
      have B8 : Below w.heap.size w w8 := bl_call B7 hb B7.size
      clear hb HU7
      go_wp2_with fail
      refine (count_un _ x y _ HU8.out).mono ?_
      rintro e w9 ⟨rfl, hb⟩
      have HU9 := Lib.hid (HU8.out.below hb)
      have B9 : Below w.heap.size w w9 := bl_call B8 hb B8.size
      clear hb HU8
      go_wp2_with fail
      refine (list_un _ _ HU9.out).mono ?_
      rintro e w10 ⟨rfl, hb⟩
      have HU10 := Lib.hid (HU9.out.below hb)
      have B10 : Below w.heap.size w w10 := bl_call B9 hb B9.size
      clear hb HU9
      go_wp2_with fail
      refine (shape_un _ _ HU10.out).mono ?_
      rintro e w11 ⟨rfl, hb⟩
      have HU11 := Lib.hid (HU10.out.below hb)
      have B11 : Below w.heap.size w w11 := bl_call B10 hb B10.size
      clear hb HU10
      go_wp2_with fail
      refine (order_un _ _ HU11.out).mono ?_
      rintro e w12 ⟨rfl, hb⟩
      have HU12 := Lib.hid (HU11.out.below hb)
      have B12 : Below w.heap.size w w12 := bl_call B11 hb B11.size
      clear hb HU11
      go_wp2_with fail
      go_roundw
      case rel => exact ⟨1, (by simp), by omega, B12⟩
      case measure => simp [intOf]
    · have HU0 := Lib.hid (un_new wr .nilIface 49)
      have B0 : Below w.heap.size w (wr.alloc (.cells #[.int .i64 0, .nilIface] 49)) := bl_call B (bl_alloc _ _) B.size
      clear B
      go_wp2_with fail
      refine (insert_un _ x _ HU0.out).mono ?_
      rintro e w1 ⟨rfl, hb⟩
      have HU1 := Lib.hid (HU0.out.below hb)
      have B1 : Below w.heap.size w w1 := bl_call B0 hb B0.size
      clear hb HU0
      go_wp2_with fail
      refine (delete_un _ x _ HU1.out).mono ?_
      rintro e w2 ⟨rfl, hb⟩
      have HU2 := Lib.hid (HU1.out.below hb)
      have B2 : Below w.heap.size w w2 := bl_call B1 hb B1.size
      clear hb HU1
      go_wp2_with fail
      refine (has_un _ x _ HU2.out).mono ?_
      rintro e w3 ⟨rfl, hb⟩
      have HU3 := Lib.hid (HU2.out.below hb)
      have B3 : Below w.heap.size w w3 := bl_call B2 hb B2.size
      clear hb HU2
      go_wp2_with fail
      refine (min_un _ _ HU3.out).mono ?_
      rintro e w4 ⟨rfl, hb⟩
      have HU4 := Lib.hid (HU3.out.below hb)
      have B4 : Below w.heap.size w w4 := bl_call B3 hb B3.size
      clear hb HU3
      go_wp2_with fail
      refine (max_un _ _ HU4.out).mono ?_
      rintro e w5 ⟨rfl, hb⟩
      have HU5 := Lib.hid (HU4.out.below hb)
      have B5 : Below w.heap.size w w5 := bl_call B4 hb B4.size
      clear hb HU4
      go_wp2_with fail
      refine (next_un _ x _ HU5.out).mono ?_
      rintro e w6 ⟨rfl, hb⟩
      have HU6 := Lib.hid (HU5.out.below hb)
      have B6 : Below w.heap.size w w6 := bl_call B5 hb B5.size
      clear hb HU5
      go_wp2_with fail
      refine (before_un _ x _ HU6.out).mono ?_
      rintro e w7 ⟨rfl, hb⟩
      have HU7 := Lib.hid (HU6.out.below hb)
      have B7 : Below w.heap.size w w7 := bl_call B6 hb B6.size
      clear hb HU6
      go_wp2_with fail
      refine (work_un _ x _ HU7.out).mono ?_
      rintro e w8 ⟨rfl, hb⟩
      have HU8 := Lib.hid (HU7.out.below hb)
      have B8 : Below w.heap.size w w8 := bl_call B7 hb B7.size
      clear hb HU7
      go_wp2_with fail
      refine (count_un _ x y _ HU8.out).mono ?_
      rintro e w9 ⟨rfl, hb⟩
      have HU9 := Lib.hid (HU8.out.below hb)
      have B9 : Below w.heap.size w w9 := bl_call B8 hb B8.size
      clear hb HU8
      go_wp2_with fail
      refine (list_un _ _ HU9.out).mono ?_
      rintro e w10 ⟨rfl, hb⟩
      have HU10 := Lib.hid (HU9.out.below hb)
      have B10 : Below w.heap.size w w10 := bl_call B9 hb B9.size
      clear hb HU9
      go_wp2_with fail
      refine (shape_un _ _ HU10.out).mono ?_
      rintro e w11 ⟨rfl, hb⟩
      have HU11 := Lib.hid (HU10.out.below hb)
      have B11 : Below w.heap.size w w11 := bl_call B10 hb B10.size
      clear hb HU10
      go_wp2_with fail
      refine (order_un _ _ HU11.out).mono ?_
      rintro e w12 ⟨rfl, hb⟩
      have HU12 := Lib.hid (HU11.out.below hb)
      have B12 : Below w.heap.size w w12 := bl_call B11 hb B11.size
      clear hb HU11
      go_wp2_with fail
      go_roundw
      case rel => exact ⟨2, (by simp), by omega, B12⟩
      case measure => simp [intOf]
    · go_wp2_with fail
      refine (awake_any _ (HT.out.below B)).mono ?_
      rintro e w1 ⟨rfl, hb⟩
      have B1 : Below w.heap.size w w1 := bl_call B hb B.size
      go_wp2_with fail
      go_ret
      exact ⟨rfl, B1⟩
namespace rackVoid
open Go.ChangeShapes Go.WideShapes Go.ChangeAt Go.RowKit
open Go.Lib Go.Joins
set_option maxRecDepth 100000 in
theorem contract (H : Type) (enc : TypeId × Value → H) (W : World) (base : Nat) (args : Array Value) (ds gs : List (DataW H)) (before : List MemPlace)
    (hval : ∀ (j : Nat) t v, Tryd.f8.params[j]? = some t → args[j]? = some v → Value.okWide Tryd.prog W .any base t v)
    (hW : DataW.Whole enc Tryd.prog Tryd.f8.params.toList Rows.rackVoidSpec.vars false W args.toList ds gs before) (hL : laidMetH Tryd.prog tabs W) :
    Calls Tryd.prog 8 args W fun e W' => ∃ v, e = .returned v ∧ Rows.rackVoidSpec.post enc Tryd.prog Tryd.f8 false true false false W args v W' := by
  have hW' := hW
  obtain ⟨p, q, hA0, hV, rfl, hfz, hnd⟩ := hW
  have hA : DataW.TrodAll enc Tryd.prog W 0 (fun _ => true) true Tryd.f8.params.toList args.toList ds p := hA0
  rw [Tryd.params8] at hA hval
  obtain ⟨v0, vs0, d0, ds0, p0, q0, hargs, rfl, rfl, h0, r0⟩ := trodAll_cons hA
  obtain ⟨v1, vs1, d1, ds1, p1, q1, rfl, rfl, rfl, h1, r1⟩ := trodAll_cons r0
  obtain ⟨rfl, rfl, rfl⟩ := trodAll_nil r1
  obtain rfl : args = #[v0, v1] := by cases args; simp_all
  obtain ⟨rfl, rfl⟩ := trodVars_none hV
  obtain ⟨x0, rfl, rfl, rfl, wx0⟩ := open_int Tryd.underlying3 (hval 0 3 v0 rfl rfl) h0
  obtain ⟨x1, rfl, rfl, rfl, wx1⟩ := open_int Tryd.underlying3 (hval 1 3 v1 rfl rfl) h1
  clear hA0
  try simp only [List.append_nil] at hW'
  refine (show Calls Tryd.prog 8 _ W _ from (RackVoid_walk x0 x1 W (tab_of hL) (inI wx0) (inI wx1))).mono fun e W' ⟨he, hb⟩ => ?_
  subst he
  exact ⟨_, rfl, _, _, _, _, _, _, hW', trodAll_mk1 (shut_bool Tryd.underlying4 _), trodAll_cons_mk (shut_int Tryd.underlying3 wx0) (trodAll_cons_mk (shut_int Tryd.underlying3 wx1) (trodAll_mk0)), rfl, hb.frame _, fun h => by cases h⟩
theorem reads (os : Os) {H : Type} (enc : TypeId × Value → H) : ∃ places, DataW.whole enc Tryd.prog ((laidWorld os).forCall (fun _ _ => 0) ⟨#[], #[.int .i64 0, .int .i64 0], []⟩).memory Tryd.f8.params.toList Rows.rackVoidSpec.vars false (#[.int .i64 0, .int .i64 0] : Array Value).toList 8 = some ([.lit (.int .i64 0), .lit (.int .i64 0)], [], places) :=
  ⟨[], by kernel_rfl⟩
set_option maxRecDepth 100000 in
theorem lifted (os : Os) (started : os.Started) (H : Type) (enc : TypeId × Value → H) (F : Stop.Interp) :
    ReturnsInHanded {} Tryd.checked os 8 .any ((OpenSpec.ofChange Rows.rackVoidSpec).preRow enc Tryd.prog Tryd.f8 Rows.rackVoidRow.domain false Rows.rackVoidRow.laid) (((OpenSpec.ofChange Rows.rackVoidSpec).at F).post enc Tryd.prog Tryd.f8 false true false false) := by
  obtain ⟨places, hx⟩ := reads os enc
  refine returnsInHanded_of_row (C := Tryd.checked) (s := OpenSpec.ofChange Rows.rackVoidSpec) own started (by kernel_rfl) Tryd.func8
    (witness_row_at (enc := enc) (C := Tryd.checked) false (laidWorld os) #[.int .i64 0, .int .i64 0] rfl (by kernel_rfl) (by kernel_rfl) (by kernel_rfl)
      (OpenSpec.preRow_of_cond 8 hx (by kernel_rfl) (fun k hk => by cases hk) (by kernel_rfl) (laid_met os _))) ?_
  intro W base args ds gs before hval hW _ _ _ hL _ _
  exact contract H enc W base args ds gs before hval hW hL
theorem said : Rows.RackVoidSaid :=
  OpenClaim.holds_of_cond 8 Tryd.f8 rfl rfl rfl rfl rfl rfl rfl ⟨rfl, rfl, rfl, rfl, rfl⟩ rfl rfl rfl rfl rfl (by kernel_rfl) Tryd.func8 (by kernel_rfl)
    (of_decide_eq_true (by kernel_rfl)) (by unfold Func.isWrapper; first | (rw [if_pos (by decide +kernel)]; kernel_rfl) | (rw [if_neg (by decide +kernel)]; exact ⟨rfl, rfl⟩))
    (fun os started H enc _ F => by rw [OpenClaim.pre_eq_preRow]; exact lifted os started H enc F)
theorem plain (f : FuncId) (fn : Func) (hf : Tryd.pinned.checked.prog.funcNamed "remould/remouldlaw07.RackVoid" = some f) (hfn : Tryd.pinned.checked.prog.funcs[f]? = some fn) :
    true = Tryd.pinned.checked.prog.looks [] ∧ ∀ (j : Nat) t, fn.params[j]? = some t → Tryd.pinned.checked.prog.wantsStandIn t = false := by
  obtain rfl : f = 8 := Option.some.inj ((show Tryd.prog.funcNamed "remould/remouldlaw07.RackVoid" = some 8 by kernel_rfl).symm.trans hf) |>.symm
  obtain rfl : fn = Tryd.f8 := (Option.some.inj (Tryd.func8.symm.trans hfn)).symm
  refine ⟨by kernel_rfl, fun j t ht => ?_⟩
  rw [Tryd.params8] at ht
  have hm : t ∈ [3, 3] := by simpa using Array.mem_of_getElem? ht
  have hall : ([3, 3].all fun u => !Tryd.prog.wantsStandIn u) = true := by kernel_rfl
  exact (show Tryd.prog.wantsStandIn t = false by simpa using List.all_eq_true.1 hall t (by simpa using hm))
theorem card : Rows.RackVoidCardSaid :=
  Claim7.holds_tied_plain_at .later [] _ _ _ _ said (fun _ h => by cases h) (by kernel_rfl) (fun _ h => by cases h) rackVoid_row_tie rfl ⟨rfl, rfl⟩ (by kernel_rfl) rfl plain (by kernel_rfl)
end rackVoid
theorem RackVoid_holds : Rows.RackVoidCardSaid := rackVoid.card
end Go.Proofs.YtpnfmbeccjehiabDoor
