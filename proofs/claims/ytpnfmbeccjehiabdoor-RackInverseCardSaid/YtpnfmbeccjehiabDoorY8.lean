/- RackInverse: for every int and every list the law returns true. -/
import Derived.Test.YtpnfmbeccjehiabDoorZB
import Derived.Test.YtpnfmbeccjehiabDoorZ8
namespace Go.Proofs.YtpnfmbeccjehiabDoor
open Go.RowKit Go.Proofs.YtpnfmbeccjehiabDoorW.PrintWords Go.Proofs.YtpnfmbeccjehiabDoorW.PrintLast Go.Proofs.YtpnfmbeccjehiabDoorW.PrintMore
attribute [local go_sem ↓] Go.wp_at_zero Go.wp_at_succ

theorem addr_z (a : Addr) : a.add 0 = a := by unfold Addr.add; simp
set_option maxRecDepth 100000 in
set_option maxHeartbeats 8000000 in
theorem RackInverse_walk (o : Int) (a : Value) (xs : List Int) (w : World) (ht : Tab w) (ho : -9223372036854775808 ≤ o ∧ o ≤ 9223372036854775807) (ha : LI w a xs) (hr : ∀ x ∈ xs, -9223372036854775808 ≤ x ∧ x ≤ 9223372036854775807) :
    Calls Tryd.prog 3 #[.int .i64 o, a] w fun e w' => e = .returned (.bool true) ∧ Below w.heap.size w w' := by
  have HT := Lib.hid ht
  have HFL := Lib.hid (filled_any o a xs w ho ha hr)
  clear ht ha hr ho
  go_enter Tryd.func3, Tryd.ntmps3
  go_wp2_with fail
  refine (HFL.out).mono ?_
  rintro e w1 ⟨k, rb, v, F, sv, rfl, -, hk, hB, B1⟩
  obtain ⟨m, hm⟩ : ∃ m, RK.fil k (xs.take 256) = m := ⟨_, rfl⟩
  rw [hm] at hB
  have hR := RK.R_le hk
  have hlm : (RK.lst k m).length ≤ 256 := by have := RK.lst_len k m; omega
  have HQ1 := Lib.hid hB.mine
  have HS0 := Lib.hid hB.set
  have hsup := hB.rack.2.1.supp
  have HSUP := Lib.hid hsup
  obtain ⟨p1, p2, p3, rfl⟩ := own_form hB.set
  obtain ⟨A2, c2, e2⟩ := (LI.own HS0.out).len
  obtain ⟨rfl, rfl, rfl⟩ : p1 = A2 ∧ p2 = (zs (RK.lst k m)).length ∧ p3 = c2 := by simpa using e2
  clear e2
  rw [zs_len] at HS0
  simp only [zs_len]
  have HB1 := Lib.hid B1
  have b1 : Below w1.heap.size w1 w1 := Below.refl _ _
  rcases RK.ends_or hsup with ⟨he, -⟩ | ⟨mi, mx, hmi, hmx, -⟩
  · have hl0 : (RK.lst k m).length = 0 := by rw [(RK.lst_emp hsup).2 he]; rfl
    rw [hl0]
    clear hm hB HFL HS0 hsup hlm hl0 HSUP
    have HE := Lib.hid he
    clear he
    go_wp2_with fail
    refine (mine_min0 hk HQ1.out HE.out).mono ?_
    rintro e w2 ⟨rfl, hb⟩
    have b2 : Below w1.heap.size w1 w2 := bl_call b1 hb b1.size
    clear hb
    go_wp2_with fail
    refine (mine_max0 hk (HQ1.out.below b2) HE.out).mono ?_
    rintro e w3 ⟨rfl, hb⟩
    have b3 : Below w1.heap.size w1 w3 := bl_call b2 hb b2.size
    clear hb
    go_wp2_with fail
    refine (awake_any _ (HT.out.below (bl_call HB1.out b3 HB1.out.size))).mono ?_
    rintro e w4 ⟨rfl, hb⟩
    have b4 : Below w1.heap.size w1 w4 := bl_call b3 hb b3.size
    clear hb
    go_wp2_with fail
    go_ret
    exact ⟨rfl, bl_call HB1.out b4 HB1.out.size⟩
  · have hf := RK.lst_first hsup hmi
    have hl := RK.lst_last hsup hmx
    have hl0 := (List.getElem?_eq_some_iff.1 hf).1
    obtain ⟨q, hq⟩ : ∃ q, (RK.lst k m).length = q + 1 := ⟨(RK.lst k m).length - 1, by omega⟩
    rw [hq] at hlm hl
    rw [Nat.add_sub_cancel] at hl
    have HZ0 := Lib.hid (show (zs (RK.lst k m))[0]? = some (mi : Int) by simp [zs, hf])
    have HZL := Lib.hid (show (zs (RK.lst k m))[q]? = some (mx : Int) by simp [zs, hl])
    have HMI := Lib.hid hmi
    have HMX := Lib.hid hmx
    have HLA := Lib.hid hl
    have HFI := Lib.hid hf
    have HLI := Lib.hid (show LI w1 (.slice p1 (RK.lst k m).length p3) (zs (RK.lst k m)) by have := LI.own HS0.out; exact this)
    rw [hq] at HLI
    rw [hq]
    have HLN := Lib.hid hq
    obtain ⟨ad, rfl, -⟩ := HLI.out.cell HZ0.out
    have HC := Lib.hid (show ∀ wx, Below w1.heap.size w1 wx → ∀ (j : Nat) (x : Int), (zs (RK.lst k m))[j]? = some x → wx.cell? (ad.add j) = some (.int .i64 x) from fun wx hb j x hx => by
      obtain ⟨ad', e, hc'⟩ := (HLI.out.below hb).cell hx
      cases e; exact hc')
    clear hm hB HFL HS0 hsup hf hl hl0 hq hmi hmx HLI B1
    go_wp2_with fail
    refine (mine_min hk HQ1.out HMI.out HMX.out).mono ?_
    rintro e w2 ⟨rfl, hb⟩
    have b2 : Below w1.heap.size w1 w2 := bl_call b1 hb b1.size
    clear hb
    go_wp2_with fail
    refine (mine_max hk (HQ1.out.below b2) HMI.out HMX.out).mono ?_
    rintro e w3 ⟨rfl, hb⟩
    have b3 : Below w1.heap.size w1 w3 := bl_call b2 hb b2.size
    clear hb
    have hc0 : w3.cell? ad = some (.int .i64 mi) := by have h := HC.out w3 b3 0 _ HZ0.out; rwa [addr_z] at h
    have hcl := HC.out w3 b3 q _ HZL.out
    go_upto_region 11 with fail
    clear hc0 hcl
    go_loopw [12, 16] (fun x i wr => ∃ j y : Nat, x = .int .i64 y ∧ i = .int .i64 j ∧ 1 ≤ j ∧ j ≤ q + 1 ∧ Hid ((RK.lst k m)[j - 1]? = some y) ∧ Below w1.heap.size w1 wr) (fun _ i _ => q + 1 - (intOf i).toNat)
    case atStart => exact ⟨1, mi, rfl, rfl, by omega, by omega, HFI, b3⟩
    case round =>
      obtain ⟨j, y, rfl, rfl, hj1, hj, HY, b⟩ := hrel
      have zr := b.size
      by_cases hjl : j < q + 1
      · obtain ⟨z, hz⟩ : ∃ z, (RK.lst k m)[j]? = some z := ⟨(RK.lst k m)[j]'(by have := HLN.out; omega), by have := HLN.out; simp [show j < (RK.lst k m).length by omega]⟩
        have hp := RK.lst_pair HSUP.out HY.out (b := z) (by rw [Nat.sub_add_cancel hj1]; exact hz)
        have C1 := mine_next hk (HQ1.out.below b) (HSUP.out y ((RK.mem_lst HSUP.out y).1 (List.mem_of_getElem? HY.out)))
        rw [hp.1, show foundT (z, true) = .tuple #[.int .i64 (z : Int), .int .i64 0] by simp [foundT]] at C1
        have C2 := fun wx (hb : Below w1.heap.size w1 wx) => mine_before hk (HQ1.out.below hb) (HSUP.out z ((RK.mem_lst HSUP.out z).1 (List.mem_of_getElem? hz)))
        rw [hp.2, show foundT (y, true) = .tuple #[.int .i64 (y : Int), .int .i64 0] by simp [foundT]] at C2
        have HC1 := Lib.hid C1
        have HC2 := Lib.hid C2
        have HZ := Lib.hid hz
        have HZZ := Lib.hid (show (zs (RK.lst k m))[j]? = some (z : Int) by simp [zs, hz])
        clear C1 C2 hp hz
        go_wp2_with fail
        refine (HC1.out).mono ?_
        rintro e w4 ⟨rfl, hb⟩
        have b4 : Below w1.heap.size w1 w4 := bl_call b hb b.size
        clear hb
        go_wp2_with fail
        refine (HC2.out _ b4).mono ?_
        rintro e w5 ⟨rfl, hb⟩
        have b5 : Below w1.heap.size w1 w5 := bl_call b4 hb b4.size
        clear hb
        have hcj := HC.out w5 b5 j _ HZZ.out
        clear HC1 HC2
        go_wp2_with fail
        go_roundw
        case rel => exact ⟨j + 1, z, rfl, (by simp), by omega, by omega, HZ, b5⟩
        case measure => simp [intOf]; omega
      · obtain rfl : j = q + 1 := by omega
        have e1 : y = mx := by have h1 := HY.out; rw [Nat.add_sub_cancel, HLA.out] at h1; exact (Option.some.inj h1).symm
        subst e1
        have C1 := mine_next hk (HQ1.out.below b) (HSUP.out y HMX.out.1)
        rw [show foundT (RK.nxv k m y) = .tuple #[.int .i64 0, .int .i64 6] by simp [foundT, RK.nxv_last HSUP.out HMX.out]] at C1
        have C2 := fun wx (hb : Below w1.heap.size w1 wx) => mine_before hk (HQ1.out.below hb) (HSUP.out mi HMI.out.1)
        rw [show foundT (RK.bfv m mi) = .tuple #[.int .i64 0, .int .i64 6] by rw [RK.bfv_first HMI.out]; simp [foundT]] at C2
        have HC1 := Lib.hid C1
        have HC2 := Lib.hid C2
        clear C1 C2
        go_wp2_with fail
        refine (HC1.out).mono ?_
        rintro e w4 ⟨rfl, hb⟩
        have b4 : Below w1.heap.size w1 w4 := bl_call b hb b.size
        clear hb
        have hc0 : w4.cell? ad = some (.int .i64 mi) := by have h := HC.out w4 b4 0 _ HZ0.out; rwa [addr_z] at h
        go_wp2_with fail
        refine (HC2.out _ b4).mono ?_
        rintro e w5 ⟨rfl, hb⟩
        have b5 : Below w1.heap.size w1 w5 := bl_call b4 hb b4.size
        clear hb
        clear hc0
        go_wp2_with fail
        refine (awake_any _ (HT.out.below (bl_call HB1.out b5 HB1.out.size))).mono ?_
        rintro e w6 ⟨rfl, hb⟩
        have b6 : Below w1.heap.size w1 w6 := bl_call b5 hb b5.size
        clear hb
        go_wp2_with fail
        go_ret
        exact ⟨rfl, bl_call HB1.out b6 HB1.out.size⟩
namespace rackInverse
open Go.ChangeShapes Go.WideShapes Go.ChangeAt Go.RowKit
open Go.Lib Go.Joins
set_option maxRecDepth 100000 in
theorem contract (H : Type) (enc : TypeId × Value → H) (W : World) (base : Nat) (args : Array Value) (ds gs : List (DataW H)) (before : List MemPlace)
    (hval : ∀ (j : Nat) t v, Tryd.f3.params[j]? = some t → args[j]? = some v → Value.okWide Tryd.prog W .any base t v)
    (hW : DataW.Whole enc Tryd.prog Tryd.f3.params.toList Rows.rackInverseSpec.vars false W args.toList ds gs before) (hL : laidMetH Tryd.prog tabs W) :
    Calls Tryd.prog 3 args W fun e W' => ∃ v, e = .returned v ∧ Rows.rackInverseSpec.post enc Tryd.prog Tryd.f3 false true false false W args v W' := by
  have hW' := hW
  obtain ⟨p, q, hA0, hV, rfl, hfz, hnd⟩ := hW
  have hA : DataW.TrodAll enc Tryd.prog W 0 (fun _ => true) true Tryd.f3.params.toList args.toList ds p := hA0
  rw [Tryd.params3] at hA hval
  obtain ⟨v0, vs0, d0, ds0, p0, q0, hargs, rfl, rfl, h0, r0⟩ := trodAll_cons hA
  obtain ⟨v1, vs1, d1, ds1, p1, q1, rfl, rfl, rfl, h1, r1⟩ := trodAll_cons r0
  obtain ⟨rfl, rfl, rfl⟩ := trodAll_nil r1
  obtain rfl : args = #[v0, v1] := by cases args; simp_all
  obtain ⟨rfl, rfl⟩ := trodVars_none hV
  obtain ⟨x0, rfl, rfl, rfl, wx0⟩ := open_int Tryd.underlying3 (hval 0 3 v0 rfl rfl) h0
  obtain ⟨x1, li1, wx1⟩ := LI_of (hval 1 22 v1 rfl rfl) h1
  have lt1 : ∀ x ∈ p1, x.block < W.heap.size := by obtain ⟨fuel, hf⟩ := h1; exact DataW.trod_lt fuel _ _ _ hf
  clear hA0
  try simp only [List.append_nil] at hW'
  refine (show Calls Tryd.prog 3 _ W _ from (RackInverse_walk x0 v1 x1 W (tab_of hL) (inI wx0) li1 wx1)).mono fun e W' ⟨he, hb⟩ => ?_
  subst he
  exact ⟨_, rfl, _, _, _, _, _, _, hW', trodAll_mk1 (shut_bool Tryd.underlying4 _), trodAll_cons_mk (shut_int Tryd.underlying3 wx0) (trodAll_cons_mk (Below.trod laidOut (by kernel_rfl) (of_decide_eq_true (by kernel_rfl)) h1 hb lt1) (trodAll_mk0)), rfl, hb.frame _, fun h => by cases h⟩
theorem reads (os : Os) {H : Type} (enc : TypeId × Value → H) : ∃ places, DataW.whole enc Tryd.prog ((laidWorld os).forCall (fun _ _ => 0) ⟨#[], #[.int .i64 0, .slice none 0 0], []⟩).memory Tryd.f3.params.toList Rows.rackInverseSpec.vars false (#[.int .i64 0, .slice none 0 0] : Array Value).toList 8 = some ([.lit (.int .i64 0), .nil], [], places) :=
  ⟨[], by kernel_rfl⟩
set_option maxRecDepth 100000 in
theorem lifted (os : Os) (started : os.Started) (H : Type) (enc : TypeId × Value → H) (F : Stop.Interp) :
    ReturnsInHanded {} Tryd.checked os 3 .any ((OpenSpec.ofChange Rows.rackInverseSpec).preRow enc Tryd.prog Tryd.f3 Rows.rackInverseRow.domain false Rows.rackInverseRow.laid) (((OpenSpec.ofChange Rows.rackInverseSpec).at F).post enc Tryd.prog Tryd.f3 false true false false) := by
  obtain ⟨places, hx⟩ := reads os enc
  refine returnsInHanded_of_row (C := Tryd.checked) (s := OpenSpec.ofChange Rows.rackInverseSpec) own started (by kernel_rfl) Tryd.func3
    (witness_row_at (enc := enc) (C := Tryd.checked) false (laidWorld os) #[.int .i64 0, .slice none 0 0] rfl (by kernel_rfl) (by kernel_rfl) (by kernel_rfl)
      (OpenSpec.preRow_of_cond 8 hx (by kernel_rfl) (fun k hk => by cases hk) (by kernel_rfl) (laid_met os _))) ?_
  intro W base args ds gs before hval hW _ _ _ hL _ _
  exact contract H enc W base args ds gs before hval hW hL
theorem said : Rows.RackInverseSaid :=
  OpenClaim.holds_of_cond 3 Tryd.f3 rfl rfl rfl rfl rfl rfl rfl ⟨rfl, rfl, rfl, rfl, rfl⟩ rfl rfl rfl rfl rfl (by kernel_rfl) Tryd.func3 (by kernel_rfl)
    (of_decide_eq_true (by kernel_rfl)) (by unfold Func.isWrapper; first | (rw [if_pos (by decide +kernel)]; kernel_rfl) | (rw [if_neg (by decide +kernel)]; exact ⟨rfl, rfl⟩))
    (fun os started H enc _ F => by rw [OpenClaim.pre_eq_preRow]; exact lifted os started H enc F)
theorem plain (f : FuncId) (fn : Func) (hf : Tryd.pinned.checked.prog.funcNamed "remould/remouldlaw07.RackInverse" = some f) (hfn : Tryd.pinned.checked.prog.funcs[f]? = some fn) :
    true = Tryd.pinned.checked.prog.looks [] ∧ ∀ (j : Nat) t, fn.params[j]? = some t → Tryd.pinned.checked.prog.wantsStandIn t = false := by
  obtain rfl : f = 3 := Option.some.inj ((show Tryd.prog.funcNamed "remould/remouldlaw07.RackInverse" = some 3 by kernel_rfl).symm.trans hf) |>.symm
  obtain rfl : fn = Tryd.f3 := (Option.some.inj (Tryd.func3.symm.trans hfn)).symm
  refine ⟨by kernel_rfl, fun j t ht => ?_⟩
  rw [Tryd.params3] at ht
  have hm : t ∈ [3, 22] := by simpa using Array.mem_of_getElem? ht
  have hall : ([3, 22].all fun u => !Tryd.prog.wantsStandIn u) = true := by kernel_rfl
  exact (show Tryd.prog.wantsStandIn t = false by simpa using List.all_eq_true.1 hall t (by simpa using hm))
theorem card : Rows.RackInverseCardSaid :=
  Claim7.holds_tied_plain_at .later [] _ _ _ _ said (fun _ h => by cases h) (by kernel_rfl) (fun _ h => by cases h) rackInverse_row_tie rfl ⟨rfl, rfl⟩ (by kernel_rfl) rfl plain (by kernel_rfl)
end rackInverse
theorem RackInverse_holds : Rows.RackInverseCardSaid := rackInverse.card
end Go.Proofs.YtpnfmbeccjehiabDoor
