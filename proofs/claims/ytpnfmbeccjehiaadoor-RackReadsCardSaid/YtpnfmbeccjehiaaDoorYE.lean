/- RackReads: for every string and int the law returns true. -/
import Derived.Test.YtpnfmbeccjehiaaDoorK61
import Derived.Test.YtpnfmbeccjehiaaDoorK62
import Derived.Test.YtpnfmbeccjehiaaDoorF2
namespace Go.Proofs.YtpnfmbeccjehiaaDoor
open Go.RowKit Go.Proofs.YtpnfmbeccjehiaaDoorW.PrintWords Go.Proofs.YtpnfmbeccjehiaaDoorW.PrintLast Go.Proofs.YtpnfmbeccjehiaaDoorW.PrintMore
attribute [local go_sem ↓] Go.wp_at_zero Go.wp_at_succ

set_option maxRecDepth 100000 in
set_option maxHeartbeats 8000000 in
theorem RackReads_walk (l : List UInt8) (o : Int) (w : World) (ht : Tab w) (_ : l.length ≤ maxLen) (_ : -9223372036854775808 ≤ o ∧ o ≤ 9223372036854775807) :
    Calls Tryd.prog 3 #[.string ⟨l.toArray⟩, .int .i64 o] w fun e w' => e = .returned (.bool true) ∧ Below w.heap.size w w' := by
  have HT := Lib.hid ht
  obtain ⟨l2, hl2, hbr⟩ := brief_any l w
  have HBR := Lib.hid hbr
  have B0 : Below w.heap.size w w := Below.refl _ _
  have HO := Lib.hid (fun wx => refOrder o wx)
  obtain ⟨S, hS⟩ : ∃ S : ByteArray, ⟨l2.toArray⟩ = S := ⟨_, rfl⟩
  by_cases ho : 0 ≤ o ∧ o ≤ 3
  · rw [decide_eq_true ho] at HO
    obtain ⟨k, rfl⟩ : ∃ k : Nat, o = k := ⟨o.toNat, by omega⟩
    have hk : k ≤ 3 := by omega
    have hRR := fun wx => refRead k l2 wx hk (by omega)
    cases hro : RK.readOf k l2 with
    | some m =>
      have hRD := fun wx ht => Read_yes k l2 m wx hk (by omega) ht hro
      have e1 : readR k l2 = (zs (RK.lst k m), true) := by unfold readR; rw [hro]
      rw [e1] at hRR
      rw [hS] at hRR hRD HBR
      have HRR := Lib.hid hRR
      have HRD := Lib.hid hRD
      have hl6 : (zs (RK.lst k m)).length ≤ 1000000 := by rw [zs_len]; have := RK.lst_len k m; have := RK.R_le hk; omega
      clear hRR hRD e1 hro hbr ho ht hS
      go_enter Tryd.func3, Tryd.ntmps3
      go_wp2_with fail
      refine (HBR.out).mono ?_
      rintro e w1 ⟨rfl, hb⟩
      have B1 : Below w.heap.size w w1 := bl_call B0 hb B0.size
      clear hb
      go_wp2_with fail
      refine (HRD.out w1 (HT.out.below B1)).mono ?_
      rintro e w2 ⟨sv, rfl, hO, hb⟩
      have B2 : Below w.heap.size w w2 := bl_call B1 hb B1.size
      obtain ⟨p1, p2, p3, rfl⟩ := own_form hO
      have HV2 := Lib.hid (LI.own hO)
      clear hb hO
      go_wp2_with fail
      refine (HO.out w2).mono ?_
      rintro e w3 ⟨rfl, hb⟩
      have B3 : Below w.heap.size w w3 := bl_call B2 hb B2.size
      have HV3 := Lib.hid (HV2.out.below hb)
      clear hb HV2
      go_wp2_with fail
      refine (HRR.out w3).mono ?_
      rintro e w4 ⟨v4, rfl, hL4, ⟨q1, q2, q3, rfl⟩, hb⟩
      have B4 : Below w.heap.size w w4 := bl_call B3 hb B3.size
      have HV4 := Lib.hid (HV3.out.below hb)
      have HL4 := Lib.hid hL4
      clear hb HV3 hL4
      go_wp2_with fail
      refine (ints_any _ _ _ _ w4 HV4.out HL4.out hl6).mono ?_
      rintro e w5 ⟨rfl, hb⟩
      have B5 : Below w.heap.size w w5 := bl_call B4 hb B4.size
      clear hb
      rw [decide_eq_true rfl]
      go_wp2_with fail
      refine (awake_any _ (HT.out.below B5)).mono ?_
      rintro e w6 ⟨rfl, hb⟩
      have B6 : Below w.heap.size w w6 := bl_call B5 hb B5.size
      clear hb
      go_wp2_with fail
      go_ret
      exact ⟨rfl, B6⟩
    | none =>
      have hRD := fun wx ht => Read_no k l2 wx hk (by omega) ht hro
      have e1 : readR k l2 = ([], false) := by unfold readR; rw [hro]
      rw [e1] at hRR
      rw [hS] at hRR hRD HBR
      have HRR := Lib.hid hRR
      have HRD := Lib.hid hRD
      clear hRR hRD e1 hro hbr ho ht hS
      go_enter Tryd.func3, Tryd.ntmps3
      go_wp2_with fail
      refine (HBR.out).mono ?_
      rintro e w1 ⟨rfl, hb⟩
      have B1 : Below w.heap.size w w1 := bl_call B0 hb B0.size
      clear hb
      go_wp2_with fail
      refine (HRD.out w1 (HT.out.below B1)).mono ?_
      rintro e w2 ⟨rfl, hb⟩
      have B2 : Below w.heap.size w w2 := bl_call B1 hb B1.size
      clear hb
      go_wp2_with fail
      refine (HO.out _).mono ?_
      rintro e w3 ⟨rfl, hb⟩
      have B3 : Below w.heap.size w w3 := bl_call B2 hb B2.size
      clear hb
      go_wp2_with fail
      refine (HRR.out w3).mono ?_
      rintro e w4 ⟨v4, rfl, -, ⟨q1, q2, q3, rfl⟩, hb⟩
      have B4 : Below w.heap.size w w4 := bl_call B3 hb B3.size
      clear hb
      go_wp2_with fail
      refine (awake_any _ (HT.out.below B4)).mono ?_
      rintro e w5 ⟨rfl, hb⟩
      have B5 : Below w.heap.size w w5 := bl_call B4 hb B4.size
      clear hb
      go_wp2_with fail
      go_ret
      exact ⟨rfl, B5⟩
  · rw [decide_eq_false ho] at HO
    have hRD := fun wx => Read_bad o l2 wx ho
    rw [hS] at hRD HBR
    have HRD := Lib.hid hRD
    clear hRD hbr ho ht hS
    go_enter Tryd.func3, Tryd.ntmps3
    go_wp2_with fail
    refine (HBR.out).mono ?_
    rintro e w1 ⟨rfl, hb⟩
    have B1 : Below w.heap.size w w1 := bl_call B0 hb B0.size
    clear hb
    go_wp2_with fail
    refine (HRD.out w1).mono ?_
    rintro e w2 ⟨rfl, hb⟩
    have B2 : Below w.heap.size w w2 := bl_call B1 hb B1.size
    clear hb
    go_wp2_with fail
    refine (HO.out _).mono ?_
    rintro e w3 ⟨rfl, hb⟩
    have B3 : Below w.heap.size w w3 := bl_call B2 hb B2.size
    clear hb
    go_wp2_with fail
    refine (awake_any _ (HT.out.below B3)).mono ?_
    rintro e w4 ⟨rfl, hb⟩
    have B4 : Below w.heap.size w w4 := bl_call B3 hb B3.size
    clear hb
    go_wp2_with fail
    go_ret
    exact ⟨rfl, B4⟩
namespace rackReads
open Go.ChangeShapes Go.WideShapes Go.ChangeAt Go.RowKit
open Go.Lib Go.Joins
open Go.ChangeMaps (open_string shut_string)
set_option maxRecDepth 100000 in
theorem contract (H : Type) (enc : TypeId × Value → H) (W : World) (base : Nat) (args : Array Value) (ds gs : List (DataW H)) (before : List MemPlace)
    (hval : ∀ (j : Nat) t v, Tryd.f3.params[j]? = some t → args[j]? = some v → Value.okWide Tryd.prog W .any base t v)
    (hW : DataW.Whole enc Tryd.prog Tryd.f3.params.toList Rows.rackReadsSpec.vars false W args.toList ds gs before) (hL : laidMetH Tryd.prog tabs W) :
    Calls Tryd.prog 3 args W fun e W' => ∃ v, e = .returned v ∧ Rows.rackReadsSpec.post enc Tryd.prog Tryd.f3 false true false false W args v W' := by
  have hW' := hW
  obtain ⟨p, q, hA0, hV, rfl, hfz, hnd⟩ := hW
  have hA : DataW.TrodAll enc Tryd.prog W 0 (fun _ => true) true Tryd.f3.params.toList args.toList ds p := hA0
  rw [Tryd.params3] at hA hval
  obtain ⟨v0, vs0, d0, ds0, p0, q0, hargs, rfl, rfl, h0, r0⟩ := trodAll_cons hA
  obtain ⟨v1, vs1, d1, ds1, p1, q1, rfl, rfl, rfl, h1, r1⟩ := trodAll_cons r0
  obtain ⟨rfl, rfl, rfl⟩ := trodAll_nil r1
  obtain rfl : args = #[v0, v1] := by cases args; simp_all
  obtain ⟨rfl, rfl⟩ := trodVars_none hV
  obtain ⟨x0, rfl, rfl, rfl, wx0⟩ := open_string Tryd.underlying9 (hval 0 9 v0 rfl rfl) h0
  obtain ⟨x1, rfl, rfl, rfl, wx1⟩ := open_int Tryd.underlying3 (hval 1 3 v1 rfl rfl) h1
  clear hA0
  try simp only [List.append_nil] at hW'
  have es0 : x0 = ⟨x0.data.toList.toArray⟩ := by cases x0; simp
  refine (show Calls Tryd.prog 3 _ W _ from (RackReads_walk x0.data.toList x1 W (tab_of hL) (by exact wx0) (inI wx1))).mono fun e W' ⟨he, hb⟩ => ?_
  subst he
  exact ⟨_, rfl, _, _, _, _, _, _, hW', trodAll_mk1 (shut_bool Tryd.underlying4 _), trodAll_cons_mk (shut_string Tryd.underlying9 wx0) (trodAll_cons_mk (shut_int Tryd.underlying3 wx1) (trodAll_mk0)), rfl, hb.frame _, fun h => by cases h⟩
theorem reads (os : Os) {H : Type} (enc : TypeId × Value → H) : ∃ places, DataW.whole enc Tryd.prog ((laidWorld os).forCall (fun _ _ => 0) ⟨#[], #[.string ⟨#[]⟩, .int .i64 0], []⟩).memory Tryd.f3.params.toList Rows.rackReadsSpec.vars false (#[.string ⟨#[]⟩, .int .i64 0] : Array Value).toList 8 = some ([.lit (.string []), .lit (.int .i64 0)], [], places) :=
  ⟨[], by kernel_rfl⟩
set_option maxRecDepth 100000 in
theorem lifted (os : Os) (started : os.Started) (H : Type) (enc : TypeId × Value → H) (F : Stop.Interp) :
    ReturnsInHanded {} Tryd.checked os 3 .any ((OpenSpec.ofChange Rows.rackReadsSpec).preRow enc Tryd.prog Tryd.f3 Rows.rackReadsRow.domain false Rows.rackReadsRow.laid) (((OpenSpec.ofChange Rows.rackReadsSpec).at F).post enc Tryd.prog Tryd.f3 false true false false) := by
  obtain ⟨places, hx⟩ := reads os enc
  refine returnsInHanded_of_row (C := Tryd.checked) (s := OpenSpec.ofChange Rows.rackReadsSpec) own started (by kernel_rfl) Tryd.func3
    (witness_row_at (enc := enc) (C := Tryd.checked) false (laidWorld os) #[.string ⟨#[]⟩, .int .i64 0] rfl (by kernel_rfl) (by kernel_rfl) (by kernel_rfl)
      (OpenSpec.preRow_of_cond 8 hx (by kernel_rfl) (fun k hk => by cases hk) (by kernel_rfl) (laid_met os _))) ?_
  intro W base args ds gs before hval hW _ _ _ hL _ _
  exact contract H enc W base args ds gs before hval hW hL
theorem said : Rows.RackReadsSaid :=
  OpenClaim.holds_of_cond 3 Tryd.f3 rfl rfl rfl rfl rfl rfl rfl ⟨rfl, rfl, rfl, rfl, rfl⟩ rfl rfl rfl rfl rfl (by kernel_rfl) Tryd.func3 (by kernel_rfl)
    (of_decide_eq_true (by kernel_rfl)) (by unfold Func.isWrapper; first | (rw [if_pos (by decide +kernel)]; kernel_rfl) | (rw [if_neg (by decide +kernel)]; exact ⟨rfl, rfl⟩))
    (fun os started H enc _ F => by rw [OpenClaim.pre_eq_preRow]; exact lifted os started H enc F)
theorem plain (f : FuncId) (fn : Func) (hf : Tryd.pinned.checked.prog.funcNamed "remould/remouldlaw07.RackReads" = some f) (hfn : Tryd.pinned.checked.prog.funcs[f]? = some fn) :
    true = Tryd.pinned.checked.prog.looks [] ∧ ∀ (j : Nat) t, fn.params[j]? = some t → Tryd.pinned.checked.prog.wantsStandIn t = false := by
  obtain rfl : f = 3 := Option.some.inj ((show Tryd.prog.funcNamed "remould/remouldlaw07.RackReads" = some 3 by kernel_rfl).symm.trans hf) |>.symm
  obtain rfl : fn = Tryd.f3 := (Option.some.inj (Tryd.func3.symm.trans hfn)).symm
  refine ⟨by kernel_rfl, fun j t ht => ?_⟩
  rw [Tryd.params3] at ht
  have hm : t ∈ [9, 3] := by simpa using Array.mem_of_getElem? ht
  have hall : ([9, 3].all fun u => !Tryd.prog.wantsStandIn u) = true := by kernel_rfl
  exact (show Tryd.prog.wantsStandIn t = false by simpa using List.all_eq_true.1 hall t (by simpa using hm))
theorem card : Rows.RackReadsCardSaid :=
  Claim7.holds_tied_plain_at .later [] _ _ _ _ said (fun _ h => by cases h) (by kernel_rfl) (fun _ h => by cases h) rackReads_row_tie rfl ⟨rfl, rfl⟩ (by kernel_rfl) rfl plain (by kernel_rfl)
end rackReads
theorem RackReads_holds : Rows.RackReadsCardSaid := rackReads.card
end Go.Proofs.YtpnfmbeccjehiaaDoor
