/- RackUndone: for every two ints and every list the law returns true. -/
import Derived.Test.YtpnfmbeccjehiabDoorZA
import Derived.Test.YtpnfmbeccjehiabDoorZ8
namespace Go.Proofs.YtpnfmbeccjehiabDoor
open Go.RowKit Go.Proofs.YtpnfmbeccjehiabDoorW.PrintWords Go.Proofs.YtpnfmbeccjehiabDoorW.PrintLast Go.Proofs.YtpnfmbeccjehiabDoorW.PrintMore
attribute [local go_sem ↓] Go.wp_at_zero Go.wp_at_succ

theorem bs_ne {s t : ByteArray} {l l' : List UInt8} (hs : s = ⟨l.toArray⟩) (ht : t = ⟨l'.toArray⟩) (h : l ≠ l') : (s.toList == t.toList) = false := by
  rw [beq_eq_false_iff_ne, hs, ht, ByteArray.toList_eq, ByteArray.toList_eq]
  simpa using h
set_option maxRecDepth 100000 in
set_option maxHeartbeats 8000000 in
theorem RackUndone_walk (o : Int) (a : Value) (xs : List Int) (x : Int) (w : World) (ht : Tab w) (ho : -9223372036854775808 ≤ o ∧ o ≤ 9223372036854775807) (ha : LI w a xs) (hr : ∀ x ∈ xs, -9223372036854775808 ≤ x ∧ x ≤ 9223372036854775807) (hx : -9223372036854775808 ≤ x ∧ x ≤ 9223372036854775807) :
    Calls Tryd.prog 4 #[.int .i64 o, a, .int .i64 x] w fun e w' => e = .returned (.bool true) ∧ Below w.heap.size w w' := by
  have HT := Lib.hid ht
  have HFL := Lib.hid (filled_any o a xs w ho ha hr)
  clear ht ha hr ho
  go_enter Tryd.func4, Tryd.ntmps4
  go_wp2_with fail
  refine HFL.out.mono ?_
  rintro e w1 ⟨k, rb, v, F, sv, rfl, -, hk, hB, B1⟩
  obtain ⟨m, hm⟩ : ∃ m, RK.fil k (xs.take 256) = m := ⟨_, rfl⟩
  rw [hm] at hB
  have hR := RK.R_le hk
  have hR0 := RK.R_pos k
  have hmb := modZ_bd x (RK.R k) (by omega)
  obtain ⟨y, hy⟩ : ∃ y : Nat, modZ x (RK.R k) = y := ⟨(modZ x (RK.R k)).toNat, by omega⟩
  have hM := fun wx => mod_any x (RK.R k) wx (by omega) (by omega) hx.1 hx.2
  rw [hy] at hM hmb
  have HM := Lib.hid hM
  have HP := Lib.hid (fun wx => refPlaces k wx hk)
  have HY := Lib.hid (show y < RK.R k by omega)
  have HS1 := Lib.hid (LI.own hB.set)
  have HQ1 := Lib.hid hB.mine
  have HSUP := Lib.hid hB.rack.2.1.supp
  obtain ⟨p1, p2, p3, rfl⟩ := own_form hB.set
  have hl6 : (zs (RK.lst k m)).length ≤ 1000000 := by rw [zs_len]; have := RK.lst_len k m; omega
  clear hm hM hB hx HFL hy hmb
  go_wp2_with fail
  refine (HP.out _).mono ?_
  rintro e w2 ⟨rfl, hb⟩
  have B2 : Below w.heap.size w w2 := bl_call B1 hb B1.size
  have HQ2 := Lib.hid (HQ1.out.below hb)
  have HS2 := Lib.hid (HS1.out.below hb)
  clear hb
  go_wp2_with fail
  refine (HM.out _).mono ?_
  rintro e w3 ⟨rfl, hb⟩
  have B3 : Below w.heap.size w w3 := bl_call B2 hb B2.size
  have HQ3 := Lib.hid (HQ2.out.below hb)
  have HS3 := Lib.hid (HS2.out.below hb)
  clear hb
  obtain ⟨s, hst⟩ : ∃ s : ByteArray, s = ⟨(RK.shT k m).toArray⟩ := ⟨_, rfl⟩
  have HSH := Lib.hid (fun wx (h : Mine w.heap.size wx rb k m) ht => mine_shape hk h ht)
  rw [← hst] at HSH
  have HST := Lib.hid hst
  clear hst
  go_wp2_with fail
  refine (HSH.out _ HQ3.out (HT.out.below B3)).mono ?_
  rintro e w4 ⟨rfl, hb⟩
  have B4 : Below w.heap.size w w4 := bl_call B3 hb B3.size
  have HQ4 := Lib.hid (HQ3.out.below hb)
  have HS4 := Lib.hid (HS3.out.below hb)
  clear hb
  go_wp2_with fail
  refine (refHas _ _ (y : Int) w4 HS4.out hl6).mono ?_
  rintro e w5 ⟨rfl, hb⟩
  have B5 : Below w.heap.size w w5 := bl_call B4 hb B4.size
  have HQ5 := Lib.hid (HQ4.out.below hb)
  have HS5 := Lib.hid (HS4.out.below hb)
  clear hb
  by_cases hmy : m y = true
  · have hd : decide ((y : Int) ∈ zs (RK.lst k m)) = true := decide_eq_true (mem_zs.2 ((RK.mem_lst HSUP.out y).2 hmy))
    rw [hd]
    have e1 : RK.del m y y = false := by simp [RK.del]
    have e2 := RK.ins_del hmy
    have C1 := mine_delete (w0 := w) hk HQ5.out B5 HY.out
    rw [hmy] at C1
    have HC1 := Lib.hid C1
    have E1 := Lib.hid e1
    have E2 := Lib.hid e2
    clear hd e1 e2 C1 hmy
    go_wp2_with fail
    refine (HC1.out).mono ?_
    rintro e w6 ⟨rfl, hq, B6⟩
    have HQ6 := Lib.hid hq
    clear hq
    have C2 := mine_has hk HQ6.out HY.out
    rw [E1.out] at C2
    have HC2 := Lib.hid C2
    clear C2
    go_wp2_with fail
    refine HC2.out.mono ?_
    rintro e w7 ⟨rfl, hb⟩
    have B7 : Below w.heap.size w w7 := bl_call B6 hb B6.size
    have HQ7 := Lib.hid (HQ6.out.below hb)
    clear hb
    have C3 := mine_delete (w0 := w) hk HQ7.out B7 HY.out
    rw [E1.out] at C3
    have HC3 := Lib.hid C3
    clear C3
    go_wp2_with fail
    refine (HC3.out).mono ?_
    rintro e w8 ⟨rfl, hq, B8⟩
    have HQ8 := Lib.hid hq
    clear hq
    have C4 := mine_insert (w0 := w) hk HQ8.out B8 HY.out
    have e3 : RK.del (RK.del m y) y = RK.del m y := RK.ext_iff fun z => by rw [RK.del_iff, RK.del_iff]; simp
    rw [e3, E1.out, E2.out] at C4
    have HC4 := Lib.hid C4
    clear C4 e3
    go_wp2_with fail
    refine (HC4.out).mono ?_
    rintro e w9 ⟨rfl, hq, B9⟩
    have HQ9 := Lib.hid hq
    clear hq
    go_wp2_with fail
    refine (HSH.out _ HQ9.out (HT.out.below B9)).mono ?_
    rintro e w10 ⟨rfl, hb⟩
    have B10 : Below w.heap.size w w10 := bl_call B9 hb B9.size
    go_wp2_with fail
    refine (awake_any _ (HT.out.below B10)).mono ?_
    rintro e w11 ⟨rfl, hb⟩
    have B11 : Below w.heap.size w w11 := bl_call B10 hb B10.size
    go_wp2_with fail
    go_ret
    exact ⟨rfl, B11⟩
  · have hd : decide ((y : Int) ∈ zs (RK.lst k m)) = false := decide_eq_false (fun h => hmy ((RK.mem_lst HSUP.out y).1 (mem_zs.1 h)))
    rw [hd]
    have hmf : m y = false := by simpa using hmy
    have e1 : RK.ins m y y = true := by simp [RK.ins]
    have e2 := RK.del_ins hmf
    have hne : RK.shT k (RK.ins m y) ≠ RK.shT k m := fun h => by
      have := RK.shT_inj hk (RK.ins_supp HSUP.out HY.out) HSUP.out h
      rw [this, hmf] at e1; cases e1
    obtain ⟨t, htt⟩ : ∃ t : ByteArray, t = ⟨(RK.shT k (RK.ins m y)).toArray⟩ := ⟨_, rfl⟩
    have hbe := bs_ne htt HST.out hne
    have HTT := Lib.hid htt
    have C1 := mine_insert (w0 := w) hk HQ5.out B5 HY.out
    rw [hmf] at C1
    have HC1 := Lib.hid C1
    have E1 := Lib.hid e1
    have E2 := Lib.hid e2
    clear hd e1 e2 C1 hmy hmf hne htt
    go_wp2_with fail
    refine (HC1.out).mono ?_
    rintro e w6 ⟨rfl, hq, B6⟩
    have HQ6 := Lib.hid hq
    clear hq
    have C2 := mine_has hk HQ6.out HY.out
    rw [E1.out] at C2
    have HC2 := Lib.hid C2
    clear C2
    go_wp2_with fail
    refine HC2.out.mono ?_
    rintro e w7 ⟨rfl, hb⟩
    have B7 : Below w.heap.size w w7 := bl_call B6 hb B6.size
    have HQ7 := Lib.hid (HQ6.out.below hb)
    clear hb
    have C3 := mine_shape hk HQ7.out (HT.out.below B7)
    rw [← HTT.out] at C3
    have HC3 := Lib.hid C3
    clear C3
    go_wp2_with fail
    refine HC3.out.mono ?_
    rintro e w8 ⟨rfl, hb⟩
    have B8 : Below w.heap.size w w8 := bl_call B7 hb B7.size
    have HQ8 := Lib.hid (HQ7.out.below hb)
    clear hb
    have C4 := mine_delete (w0 := w) hk HQ8.out B8 HY.out
    rw [E1.out, E2.out] at C4
    have HC4 := Lib.hid C4
    clear C4
    go_wp2_with fail
    refine (HC4.out).mono ?_
    rintro e w9 ⟨rfl, hq, B9⟩
    have HQ9 := Lib.hid hq
    clear hq
    go_wp2_with fail
    refine (HSH.out _ HQ9.out (HT.out.below B9)).mono ?_
    rintro e w10 ⟨rfl, hb⟩
    have B10 : Below w.heap.size w w10 := bl_call B9 hb B9.size
    go_wp2_with fail
    refine (awake_any _ (HT.out.below B10)).mono ?_
    rintro e w11 ⟨rfl, hb⟩
    have B11 : Below w.heap.size w w11 := bl_call B10 hb B10.size
    go_wp2_with fail
    go_ret
    exact ⟨rfl, B11⟩
namespace rackUndone
open Go.ChangeShapes Go.WideShapes Go.ChangeAt Go.RowKit
open Go.Lib Go.Joins
set_option maxRecDepth 100000 in
theorem contract (H : Type) (enc : TypeId × Value → H) (W : World) (base : Nat) (args : Array Value) (ds gs : List (DataW H)) (before : List MemPlace)
    (hval : ∀ (j : Nat) t v, Tryd.f4.params[j]? = some t → args[j]? = some v → Value.okWide Tryd.prog W .any base t v)
    (hW : DataW.Whole enc Tryd.prog Tryd.f4.params.toList Rows.rackUndoneSpec.vars false W args.toList ds gs before) (hL : laidMetH Tryd.prog tabs W) :
    Calls Tryd.prog 4 args W fun e W' => ∃ v, e = .returned v ∧ Rows.rackUndoneSpec.post enc Tryd.prog Tryd.f4 false true false false W args v W' := by
  have hW' := hW
  obtain ⟨p, q, hA0, hV, rfl, hfz, hnd⟩ := hW
  have hA : DataW.TrodAll enc Tryd.prog W 0 (fun _ => true) true Tryd.f4.params.toList args.toList ds p := hA0
  rw [Tryd.params4] at hA hval
  obtain ⟨v0, vs0, d0, ds0, p0, q0, hargs, rfl, rfl, h0, r0⟩ := trodAll_cons hA
  obtain ⟨v1, vs1, d1, ds1, p1, q1, rfl, rfl, rfl, h1, r1⟩ := trodAll_cons r0
  obtain ⟨v2, vs2, d2, ds2, p2, q2, rfl, rfl, rfl, h2, r2⟩ := trodAll_cons r1
  obtain ⟨rfl, rfl, rfl⟩ := trodAll_nil r2
  obtain rfl : args = #[v0, v1, v2] := by cases args; simp_all
  obtain ⟨rfl, rfl⟩ := trodVars_none hV
  obtain ⟨x0, rfl, rfl, rfl, wx0⟩ := open_int Tryd.underlying3 (hval 0 3 v0 rfl rfl) h0
  obtain ⟨x1, li1, wx1⟩ := LI_of (hval 1 22 v1 rfl rfl) h1
  have lt1 : ∀ x ∈ p1, x.block < W.heap.size := by obtain ⟨fuel, hf⟩ := h1; exact DataW.trod_lt fuel _ _ _ hf
  obtain ⟨x2, rfl, rfl, rfl, wx2⟩ := open_int Tryd.underlying3 (hval 2 3 v2 rfl rfl) h2
  clear hA0
  try simp only [List.append_nil] at hW'
  refine (show Calls Tryd.prog 4 _ W _ from (RackUndone_walk x0 v1 x1 x2 W (tab_of hL) (inI wx0) li1 wx1 (inI wx2))).mono fun e W' ⟨he, hb⟩ => ?_
  subst he
  exact ⟨_, rfl, _, _, _, _, _, _, hW', trodAll_mk1 (shut_bool Tryd.underlying4 _), trodAll_cons_mk (shut_int Tryd.underlying3 wx0) (trodAll_cons_mk (Below.trod laidOut (by kernel_rfl) (of_decide_eq_true (by kernel_rfl)) h1 hb lt1) (trodAll_cons_mk (shut_int Tryd.underlying3 wx2) (trodAll_mk0))), rfl, hb.frame _, fun h => by cases h⟩
theorem reads (os : Os) {H : Type} (enc : TypeId × Value → H) : ∃ places, DataW.whole enc Tryd.prog ((laidWorld os).forCall (fun _ _ => 0) ⟨#[], #[.int .i64 0, .slice none 0 0, .int .i64 0], []⟩).memory Tryd.f4.params.toList Rows.rackUndoneSpec.vars false (#[.int .i64 0, .slice none 0 0, .int .i64 0] : Array Value).toList 8 = some ([.lit (.int .i64 0), .nil, .lit (.int .i64 0)], [], places) :=
  ⟨[], by kernel_rfl⟩
set_option maxRecDepth 100000 in
theorem lifted (os : Os) (started : os.Started) (H : Type) (enc : TypeId × Value → H) (F : Stop.Interp) :
    ReturnsInHanded {} Tryd.checked os 4 .any ((OpenSpec.ofChange Rows.rackUndoneSpec).preRow enc Tryd.prog Tryd.f4 Rows.rackUndoneRow.domain false Rows.rackUndoneRow.laid) (((OpenSpec.ofChange Rows.rackUndoneSpec).at F).post enc Tryd.prog Tryd.f4 false true false false) := by
  obtain ⟨places, hx⟩ := reads os enc
  refine returnsInHanded_of_row (C := Tryd.checked) (s := OpenSpec.ofChange Rows.rackUndoneSpec) own started (by kernel_rfl) Tryd.func4
    (witness_row_at (enc := enc) (C := Tryd.checked) false (laidWorld os) #[.int .i64 0, .slice none 0 0, .int .i64 0] rfl (by kernel_rfl) (by kernel_rfl) (by kernel_rfl)
      (OpenSpec.preRow_of_cond 8 hx (by kernel_rfl) (fun k hk => by cases hk) (by kernel_rfl) (laid_met os _))) ?_
  intro W base args ds gs before hval hW _ _ _ hL _ _
  exact contract H enc W base args ds gs before hval hW hL
theorem said : Rows.RackUndoneSaid :=
  OpenClaim.holds_of_cond 4 Tryd.f4 rfl rfl rfl rfl rfl rfl rfl ⟨rfl, rfl, rfl, rfl, rfl⟩ rfl rfl rfl rfl rfl (by kernel_rfl) Tryd.func4 (by kernel_rfl)
    (of_decide_eq_true (by kernel_rfl)) (by unfold Func.isWrapper; first | (rw [if_pos (by decide +kernel)]; kernel_rfl) | (rw [if_neg (by decide +kernel)]; exact ⟨rfl, rfl⟩))
    (fun os started H enc _ F => by rw [OpenClaim.pre_eq_preRow]; exact lifted os started H enc F)
theorem plain (f : FuncId) (fn : Func) (hf : Tryd.pinned.checked.prog.funcNamed "remould/remouldlaw07.RackUndone" = some f) (hfn : Tryd.pinned.checked.prog.funcs[f]? = some fn) :
    true = Tryd.pinned.checked.prog.looks [] ∧ ∀ (j : Nat) t, fn.params[j]? = some t → Tryd.pinned.checked.prog.wantsStandIn t = false := by
  obtain rfl : f = 4 := Option.some.inj ((show Tryd.prog.funcNamed "remould/remouldlaw07.RackUndone" = some 4 by kernel_rfl).symm.trans hf) |>.symm
  obtain rfl : fn = Tryd.f4 := (Option.some.inj (Tryd.func4.symm.trans hfn)).symm
  refine ⟨by kernel_rfl, fun j t ht => ?_⟩
  rw [Tryd.params4] at ht
  have hm : t ∈ [3, 22, 3] := by simpa using Array.mem_of_getElem? ht
  have hall : ([3, 22, 3].all fun u => !Tryd.prog.wantsStandIn u) = true := by kernel_rfl
  exact (show Tryd.prog.wantsStandIn t = false by simpa using List.all_eq_true.1 hall t (by simpa using hm))
theorem card : Rows.RackUndoneCardSaid :=
  Claim7.holds_tied_plain_at .later [] _ _ _ _ said (fun _ h => by cases h) (by kernel_rfl) (fun _ h => by cases h) rackUndone_row_tie rfl ⟨rfl, rfl⟩ (by kernel_rfl) rfl plain (by kernel_rfl)
end rackUndone
theorem RackUndone_holds : Rows.RackUndoneCardSaid := rackUndone.card
end Go.Proofs.YtpnfmbeccjehiabDoor
