/- RackShapes: for every int and every list the law returns true. -/
import Derived.Test.YtpnfmbeccjehiaaDoorZC
import Derived.Test.YtpnfmbeccjehiaaDoorK54
import Derived.Test.YtpnfmbeccjehiaaDoorK55
import Derived.Test.YtpnfmbeccjehiaaDoorZ8
namespace Go.Proofs.YtpnfmbeccjehiaaDoor
open Go.RowKit Go.Proofs.YtpnfmbeccjehiaaDoorW.PrintWords Go.Proofs.YtpnfmbeccjehiaaDoorW.PrintLast Go.Proofs.YtpnfmbeccjehiaaDoorW.PrintMore
attribute [local go_sem ↓] Go.wp_at_zero Go.wp_at_succ

set_option maxRecDepth 100000 in
set_option maxHeartbeats 8000000 in
theorem RackShapes_walk (o : Int) (a : Value) (xs : List Int) (w : World) (ht : Tab w) (_ : -9223372036854775808 ≤ o ∧ o ≤ 9223372036854775807) (ha : LI w a xs) (hr : ∀ x ∈ xs, -9223372036854775808 ≤ x ∧ x ≤ 9223372036854775807) :
    Calls Tryd.prog 10 #[.int .i64 o, a] w fun e w' => e = .returned (.bool true) ∧ Below w.heap.size w w' := by
  have HT := Lib.hid ht
  have HO := Lib.hid (fun wx => refOrder o wx)
  by_cases ho : 0 ≤ o ∧ o ≤ 3
  · rw [decide_eq_true ho] at HO
    obtain ⟨k, rfl⟩ : ∃ k : Nat, o = k := ⟨o.toNat, by omega⟩
    have hk : k ≤ 3 := by omega
    have hR := RK.R_le hk
    obtain ⟨A, c, rfl⟩ := ha.len
    have HA := Lib.hid ha
    have hlen : xs.length ≤ 9223372036854775807 := by obtain ⟨_, _, _, _, h⟩ := ha; exact h.2.1
    have HX := Lib.hid hr
    obtain ⟨n, hn⟩ : ∃ n, xs.length = n := ⟨_, rfl⟩
    have HNn := Lib.hid hn
    simp only [hn] at HA hlen ⊢
    clear hn ht ha hr ho
    go_enter Tryd.func10, Tryd.ntmps10
    go_wp2_with fail
    refine (pair_new (w0 := w) k hk (Below.refl _ _)).mono ?_
    rintro e w1 ⟨rq, rfl, hp, B1⟩
    have HP1 := Lib.hid hp
    clear hp
    go_wp2_with fail
    refine (HO.out _).mono ?_
    rintro e w2 ⟨rfl, hb⟩
    have B2 : Below w.heap.size w w2 := bl_call B1 hb B1.size
    have HP2 := Lib.hid (HP1.out.below hb)
    clear hb HP1
    clear HO B1
    go_upto_region 6 with fail
    go_loopw [6, 7] (fun sv i wr => ∃ (j : Nat) (M : RK.S), i = .int .i64 j ∧ j ≤ n ∧ j ≤ 256 ∧ Hid (Pair w.heap.size wr rq k M M sv) ∧ Below w.heap.size w wr) (fun _ i _ => n - (intOf i).toNat)
    case atStart => exact ⟨0, _, (by simp), by omega, by omega, HP2, B2⟩
    case round =>
      clear HP2 B2
      obtain ⟨j, M, rfl, hj, hj2, HPR, B⟩ := hrel
      have zr := B.size
      by_cases hjl : j < n
      · by_cases hj3 : j < 256
        · obtain ⟨x, hx⟩ : ∃ x, xs[j]? = some x := ⟨xs[j]'(by have := HNn.out; omega), by have := HNn.out; simp [show j < xs.length by omega]⟩
          obtain ⟨ad, rfl, hc⟩ := (HA.out.below B).cell hx
          have HC := Lib.hid (show ∀ wx, Below w.heap.size w wx → wx.cell? (ad.add j) = some (.int .i64 x) from fun wx hb => by
            obtain ⟨ad', e, hc'⟩ := (HA.out.below hb).cell hx
            cases e; exact hc')
          clear hx
          by_cases hpl : 0 ≤ x ∧ x < RK.R k
          · have hd : decide (0 ≤ x ∧ x < (RK.R k : Int)) = true := decide_eq_true hpl
            obtain ⟨y, rfl⟩ : ∃ y : Nat, x = y := ⟨x.toNat, by omega⟩
            have HY := Lib.hid (show y < RK.R k by omega)
            have HPL := Lib.hid (fun wx => refPlace k (y : Int) wx hk)
            rw [hd] at HPL
            clear hd hpl
            go_wp2_with fail
            refine (pair_insert (w0 := w) hk HPR.out B HY.out).mono ?_
            rintro e w3 ⟨rfl, hp, B3⟩
            have HP3 := Lib.hid hp
            have HS := Lib.hid HPR.out.mine.supp
            clear hp HPR hc
            have hc := HC.out w3 B3
            go_wp2_with fail
            refine (HPL.out _).mono ?_
            rintro e w4 ⟨rfl, hb⟩
            have B4 : Below w.heap.size w w4 := bl_call B3 hb B3.size
            have HP4 := Lib.hid (HP3.out.below hb)
            clear hb HP3
            clear hc
            have hc := HC.out w4 B4
            go_wp2_with fail
            refine (pair_refInsert (w0 := w) hk HP4.out B4 HS.out HY.out).mono ?_
            rintro e w5 ⟨sv5, rfl, hp, B5⟩
            have HP5 := Lib.hid hp
            obtain ⟨q1, q2, q3, rfl⟩ := own_form hp.set
            clear hp hc
            go_wp2_with fail
            go_roundw
            case rel => exact ⟨j + 1, _, (by simp), by omega, by omega, HP5, B5⟩
            case measure => simp [intOf] <;> omega
          · have hd : decide (0 ≤ x ∧ x < (RK.R k : Int)) = false := decide_eq_false hpl
            have HPL := Lib.hid (fun wx => refPlace k x wx hk)
            rw [hd] at HPL
            have HI := Lib.hid (pair_insert_out (w0 := w) hk HPR.out hpl)
            clear hd hpl
            go_wp2_with fail
            refine (HI.out).mono ?_
            rintro e w3 ⟨rfl, hb⟩
            have B3 : Below w.heap.size w w3 := bl_call B hb B.size
            have HP3 := Lib.hid (HPR.out.below hb)
            clear hb HPR hc HI
            have hc := HC.out w3 B3
            go_wp2_with fail
            refine (HPL.out _).mono ?_
            rintro e w4 ⟨rfl, hb⟩
            have B4 : Below w.heap.size w w4 := bl_call B3 hb B3.size
            have HP4 := Lib.hid (HP3.out.below hb)
            clear hb HP3
            obtain ⟨q1, q2, q3, rfl⟩ := own_form HP4.out.set
            clear hc
            go_wp2_with fail
            go_roundw
            case rel => exact ⟨j + 1, _, (by simp), by omega, by omega, HP4, B4⟩
            case measure => simp [intOf] <;> omega
        · obtain rfl : j = 256 := by omega
          clear HA HX HNn
          have HP3 := HPR
          have B3 := B
          clear HPR B
          have hsup := HP3.out.mine.supp
          have HSUP := Lib.hid hsup
          obtain ⟨p1, p2, p3, rfl⟩ := own_form HP3.out.set
          have hl6 : (zs (RK.lst k M)).length ≤ 1000000 := by rw [zs_len]; have := RK.lst_len k M; omega
          obtain ⟨sa, hsa⟩ : ∃ s : ByteArray, s = ⟨(RK.shT k M).toArray⟩ := ⟨_, rfl⟩
          obtain ⟨na, hna⟩ : ∃ n, RK.sz k M = n := ⟨_, rfl⟩
          have CA := fun wx ht => Size_any (RK.shT k M) wx (by have := Nat.le_trans (RK.shT_len k M hk hsup) (RK.tL_le hk); omega) ht
          rw [RK.sizeOf_shT hk hsup, hna, ← hsa] at CA
          have SA := fun wx (h : Mine w.heap.size wx rq k M) ht => mine_shape hk h ht
          rw [← hsa] at SA
          have RS := fun sv wx h => refShape k M sv wx hk hsup h
          rw [← hsa] at RS
          have RZ := fun sv wx h => refSize k M sv wx hk hsup h
          rw [hna] at RZ
          simp only [sizeT] at CA
          have HCA := Lib.hid CA
          have HSA := Lib.hid SA
          have HRS := Lib.hid RS
          have HRZ := Lib.hid RZ
          clear CA SA RS RZ hsa hna hsup
          go_wp2_with fail
          refine (HSA.out _ HP3.out.mine (HT.out.below B3)).mono ?_
          rintro e w4 ⟨rfl, hb⟩
          have B4 : Below w.heap.size w w4 := bl_call B3 hb B3.size
          have HP4 := Lib.hid (HP3.out.below hb)
          clear hb HP3
          go_wp2_with fail
          refine (HCA.out _ (HT.out.below B4)).mono ?_
          rintro e w5 ⟨rfl, hb⟩
          have B5 : Below w.heap.size w w5 := bl_call B4 hb B4.size
          have HP5 := Lib.hid (HP4.out.below hb)
          clear hb HP4
          go_wp2_with fail
          refine (HRS.out _ _ (LI.own HP5.out.set)).mono ?_
          rintro e w6 ⟨rfl, hb⟩
          have B6 : Below w.heap.size w w6 := bl_call B5 hb B5.size
          have HP6 := Lib.hid (HP5.out.below hb)
          clear hb HP5
          go_wp2_with fail
          refine (HRZ.out _ _ (LI.own HP6.out.set)).mono ?_
          rintro e w7 ⟨rfl, hb⟩
          have B7 : Below w.heap.size w w7 := bl_call B6 hb B6.size
          have HP7 := Lib.hid (HP6.out.below hb)
          clear hb HP6
          go_wp2_with fail
          refine (mine_list hk HP7.out.mine).mono ?_
          rintro e w8 ⟨l1, l2, l3, rfl, hO, hb⟩
          have B8 : Below w.heap.size w w8 := bl_call B7 hb B7.size
          have HP8 := Lib.hid (HP7.out.below hb)
          have HO8 := Lib.hid (LI.own hO)
          clear hb hO HP7
          go_wp2_with fail
          refine (ints_any _ _ _ _ w8 HO8.out (LI.own HP8.out.set) hl6).mono ?_
          rintro e w9 ⟨rfl, hb⟩
          have B9 : Below w.heap.size w w9 := bl_call B8 hb B8.size
          have HP9 := Lib.hid (HP8.out.below hb)
          clear hb HP8
          rw [decide_eq_true rfl]
          go_wp2_with fail
          refine (awake_any _ (HT.out.below B9)).mono ?_
          rintro e w10 ⟨rfl, hb⟩
          have B10 : Below w.heap.size w w10 := bl_call B9 hb B9.size
          have HP10 := Lib.hid (HP9.out.below hb)
          clear hb HP9
          go_wp2_with fail
          go_ret
          exact ⟨rfl, B10⟩
      · obtain rfl : j = n := by omega
        clear HA HX HNn
        have HP3 := HPR
        have B3 := B
        clear HPR B
        have hsup := HP3.out.mine.supp
        have HSUP := Lib.hid hsup
        obtain ⟨p1, p2, p3, rfl⟩ := own_form HP3.out.set
        have hl6 : (zs (RK.lst k M)).length ≤ 1000000 := by rw [zs_len]; have := RK.lst_len k M; omega
        obtain ⟨sa, hsa⟩ : ∃ s : ByteArray, s = ⟨(RK.shT k M).toArray⟩ := ⟨_, rfl⟩
        obtain ⟨na, hna⟩ : ∃ n, RK.sz k M = n := ⟨_, rfl⟩
        have CA := fun wx ht => Size_any (RK.shT k M) wx (by have := Nat.le_trans (RK.shT_len k M hk hsup) (RK.tL_le hk); omega) ht
        rw [RK.sizeOf_shT hk hsup, hna, ← hsa] at CA
        have SA := fun wx (h : Mine w.heap.size wx rq k M) ht => mine_shape hk h ht
        rw [← hsa] at SA
        have RS := fun sv wx h => refShape k M sv wx hk hsup h
        rw [← hsa] at RS
        have RZ := fun sv wx h => refSize k M sv wx hk hsup h
        rw [hna] at RZ
        simp only [sizeT] at CA
        have HCA := Lib.hid CA
        have HSA := Lib.hid SA
        have HRS := Lib.hid RS
        have HRZ := Lib.hid RZ
        clear CA SA RS RZ hsa hna hsup
        go_wp2_with fail
        refine (HSA.out _ HP3.out.mine (HT.out.below B3)).mono ?_
        rintro e w4 ⟨rfl, hb⟩
        have B4 : Below w.heap.size w w4 := bl_call B3 hb B3.size
        have HP4 := Lib.hid (HP3.out.below hb)
        clear hb HP3
        go_wp2_with fail
        refine (HCA.out _ (HT.out.below B4)).mono ?_
        rintro e w5 ⟨rfl, hb⟩
        have B5 : Below w.heap.size w w5 := bl_call B4 hb B4.size
        have HP5 := Lib.hid (HP4.out.below hb)
        clear hb HP4
        go_wp2_with fail
        refine (HRS.out _ _ (LI.own HP5.out.set)).mono ?_
        rintro e w6 ⟨rfl, hb⟩
        have B6 : Below w.heap.size w w6 := bl_call B5 hb B5.size
        have HP6 := Lib.hid (HP5.out.below hb)
        clear hb HP5
        go_wp2_with fail
        refine (HRZ.out _ _ (LI.own HP6.out.set)).mono ?_
        rintro e w7 ⟨rfl, hb⟩
        have B7 : Below w.heap.size w w7 := bl_call B6 hb B6.size
        have HP7 := Lib.hid (HP6.out.below hb)
        clear hb HP6
        go_wp2_with fail
        refine (mine_list hk HP7.out.mine).mono ?_
        rintro e w8 ⟨l1, l2, l3, rfl, hO, hb⟩
        have B8 : Below w.heap.size w w8 := bl_call B7 hb B7.size
        have HP8 := Lib.hid (HP7.out.below hb)
        have HO8 := Lib.hid (LI.own hO)
        clear hb hO HP7
        go_wp2_with fail
        refine (ints_any _ _ _ _ w8 HO8.out (LI.own HP8.out.set) hl6).mono ?_
        rintro e w9 ⟨rfl, hb⟩
        have B9 : Below w.heap.size w w9 := bl_call B8 hb B8.size
        have HP9 := Lib.hid (HP8.out.below hb)
        clear hb HP8
        rw [decide_eq_true rfl]
        go_wp2_with fail
        refine (awake_any _ (HT.out.below B9)).mono ?_
        rintro e w10 ⟨rfl, hb⟩
        have B10 : Below w.heap.size w w10 := bl_call B9 hb B9.size
        have HP10 := Lib.hid (HP9.out.below hb)
        clear hb HP9
        go_wp2_with fail
        go_ret
        exact ⟨rfl, B10⟩
  · rw [decide_eq_false ho] at HO
    have HN := Lib.hid (fun wx => new_bad o wx ho)
    obtain ⟨A, c, rfl⟩ := ha.len
    clear ht ha hr ho
    go_enter Tryd.func10, Tryd.ntmps10
    go_wp2_with fail
    refine (HN.out _).mono ?_
    rintro e w1 ⟨rfl, rfl⟩
    go_wp2_with fail
    refine (HO.out _).mono ?_
    rintro e w2 ⟨rfl, B2⟩
    go_wp2_with fail
    refine (awake_any _ (HT.out.below B2)).mono ?_
    rintro e w3 ⟨rfl, hb⟩
    have B3 : Below w.heap.size w w3 := bl_call B2 hb B2.size
    go_wp2_with fail
    go_ret
    exact ⟨rfl, B3⟩
namespace rackShapes
open Go.ChangeShapes Go.WideShapes Go.ChangeAt Go.RowKit
open Go.Lib Go.Joins
set_option maxRecDepth 100000 in
theorem contract (H : Type) (enc : TypeId × Value → H) (W : World) (base : Nat) (args : Array Value) (ds gs : List (DataW H)) (before : List MemPlace)
    (hval : ∀ (j : Nat) t v, Tryd.f10.params[j]? = some t → args[j]? = some v → Value.okWide Tryd.prog W .any base t v)
    (hW : DataW.Whole enc Tryd.prog Tryd.f10.params.toList Rows.rackShapesSpec.vars false W args.toList ds gs before) (hL : laidMetH Tryd.prog tabs W) :
    Calls Tryd.prog 10 args W fun e W' => ∃ v, e = .returned v ∧ Rows.rackShapesSpec.post enc Tryd.prog Tryd.f10 false true false false W args v W' := by
  have hW' := hW
  obtain ⟨p, q, hA0, hV, rfl, hfz, hnd⟩ := hW
  have hA : DataW.TrodAll enc Tryd.prog W 0 (fun _ => true) true Tryd.f10.params.toList args.toList ds p := hA0
  rw [Tryd.params10] at hA hval
  obtain ⟨v0, vs0, d0, ds0, p0, q0, hargs, rfl, rfl, h0, r0⟩ := trodAll_cons hA
  obtain ⟨v1, vs1, d1, ds1, p1, q1, rfl, rfl, rfl, h1, r1⟩ := trodAll_cons r0
  obtain ⟨rfl, rfl, rfl⟩ := trodAll_nil r1
  obtain rfl : args = #[v0, v1] := by cases args; simp_all
  obtain ⟨rfl, rfl⟩ := trodVars_none hV
  obtain ⟨x0, rfl, rfl, rfl, wx0⟩ := open_int Tryd.underlying3 (hval 0 3 v0 rfl rfl) h0
  obtain ⟨x1, li1, wx1⟩ := LI_of (hval 1 23 v1 rfl rfl) h1
  have lt1 : ∀ x ∈ p1, x.block < W.heap.size := by obtain ⟨fuel, hf⟩ := h1; exact DataW.trod_lt fuel _ _ _ hf
  clear hA0
  try simp only [List.append_nil] at hW'
  refine (show Calls Tryd.prog 10 _ W _ from (RackShapes_walk x0 v1 x1 W (tab_of hL) (inI wx0) li1 wx1)).mono fun e W' ⟨he, hb⟩ => ?_
  subst he
  exact ⟨_, rfl, _, _, _, _, _, _, hW', trodAll_mk1 (shut_bool Tryd.underlying4 _), trodAll_cons_mk (shut_int Tryd.underlying3 wx0) (trodAll_cons_mk (Below.trod laidOut (by kernel_rfl) (of_decide_eq_true (by kernel_rfl)) h1 hb lt1) (trodAll_mk0)), rfl, hb.frame _, fun h => by cases h⟩
theorem reads (os : Os) {H : Type} (enc : TypeId × Value → H) : ∃ places, DataW.whole enc Tryd.prog ((laidWorld os).forCall (fun _ _ => 0) ⟨#[], #[.int .i64 0, .slice none 0 0], []⟩).memory Tryd.f10.params.toList Rows.rackShapesSpec.vars false (#[.int .i64 0, .slice none 0 0] : Array Value).toList 8 = some ([.lit (.int .i64 0), .nil], [], places) :=
  ⟨[], by kernel_rfl⟩
set_option maxRecDepth 100000 in
theorem lifted (os : Os) (started : os.Started) (H : Type) (enc : TypeId × Value → H) (F : Stop.Interp) :
    ReturnsInHanded {} Tryd.checked os 10 .any ((OpenSpec.ofChange Rows.rackShapesSpec).preRow enc Tryd.prog Tryd.f10 Rows.rackShapesRow.domain false Rows.rackShapesRow.laid) (((OpenSpec.ofChange Rows.rackShapesSpec).at F).post enc Tryd.prog Tryd.f10 false true false false) := by
  obtain ⟨places, hx⟩ := reads os enc
  refine returnsInHanded_of_row (C := Tryd.checked) (s := OpenSpec.ofChange Rows.rackShapesSpec) own started (by kernel_rfl) Tryd.func10
    (witness_row_at (enc := enc) (C := Tryd.checked) false (laidWorld os) #[.int .i64 0, .slice none 0 0] rfl (by kernel_rfl) (by kernel_rfl) (by kernel_rfl)
      (OpenSpec.preRow_of_cond 8 hx (by kernel_rfl) (fun k hk => by cases hk) (by kernel_rfl) (laid_met os _))) ?_
  intro W base args ds gs before hval hW _ _ _ hL _ _
  exact contract H enc W base args ds gs before hval hW hL
theorem said : Rows.RackShapesSaid :=
  OpenClaim.holds_of_cond 10 Tryd.f10 rfl rfl rfl rfl rfl rfl rfl ⟨rfl, rfl, rfl, rfl, rfl⟩ rfl rfl rfl rfl rfl (by kernel_rfl) Tryd.func10 (by kernel_rfl)
    (of_decide_eq_true (by kernel_rfl)) (by unfold Func.isWrapper; first | (rw [if_pos (by decide +kernel)]; kernel_rfl) | (rw [if_neg (by decide +kernel)]; exact ⟨rfl, rfl⟩))
    (fun os started H enc _ F => by rw [OpenClaim.pre_eq_preRow]; exact lifted os started H enc F)
theorem plain (f : FuncId) (fn : Func) (hf : Tryd.pinned.checked.prog.funcNamed "remould/remouldlaw07.RackShapes" = some f) (hfn : Tryd.pinned.checked.prog.funcs[f]? = some fn) :
    true = Tryd.pinned.checked.prog.looks [] ∧ ∀ (j : Nat) t, fn.params[j]? = some t → Tryd.pinned.checked.prog.wantsStandIn t = false := by
  obtain rfl : f = 10 := Option.some.inj ((show Tryd.prog.funcNamed "remould/remouldlaw07.RackShapes" = some 10 by kernel_rfl).symm.trans hf) |>.symm
  obtain rfl : fn = Tryd.f10 := (Option.some.inj (Tryd.func10.symm.trans hfn)).symm
  refine ⟨by kernel_rfl, fun j t ht => ?_⟩
  rw [Tryd.params10] at ht
  have hm : t ∈ [3, 23] := by simpa using Array.mem_of_getElem? ht
  have hall : ([3, 23].all fun u => !Tryd.prog.wantsStandIn u) = true := by kernel_rfl
  exact (show Tryd.prog.wantsStandIn t = false by simpa using List.all_eq_true.1 hall t (by simpa using hm))
theorem card : Rows.RackShapesCardSaid :=
  Claim7.holds_tied_plain_at .later [] _ _ _ _ said (fun _ h => by cases h) (by kernel_rfl) (fun _ h => by cases h) rackShapes_row_tie rfl ⟨rfl, rfl⟩ (by kernel_rfl) rfl plain (by kernel_rfl)
end rackShapes
theorem RackShapes_holds : Rows.RackShapesCardSaid := rackShapes.card
end Go.Proofs.YtpnfmbeccjehiaaDoor
