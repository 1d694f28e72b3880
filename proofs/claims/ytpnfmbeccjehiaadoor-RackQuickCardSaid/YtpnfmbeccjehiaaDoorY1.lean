/- RackQuick: for every two ints and every list the law returns true. -/
import Derived.Test.YtpnfmbeccjehiaaDoorZ8
namespace Go.Proofs.YtpnfmbeccjehiaaDoor
open Go.RowKit Go.Proofs.YtpnfmbeccjehiaaDoorW.PrintWords Go.Proofs.YtpnfmbeccjehiaaDoorW.PrintLast Go.Proofs.YtpnfmbeccjehiaaDoorW.PrintMore
attribute [local go_sem ↓] Go.wp_at_zero Go.wp_at_succ

set_option maxRecDepth 100000 in
set_option maxHeartbeats 8000000 in
theorem RackQuick_walk (o : Int) (a : Value) (xs : List Int) (x : Int) (w : World) (ht : Tab w) (ho : -9223372036854775808 ≤ o ∧ o ≤ 9223372036854775807) (ha : LI w a xs) (hr : ∀ x ∈ xs, -9223372036854775808 ≤ x ∧ x ≤ 9223372036854775807) (hx : -9223372036854775808 ≤ x ∧ x ≤ 9223372036854775807) :
    Calls Tryd.prog 5 #[.int .i64 o, a, .int .i64 x] w fun e w' => e = .returned (.bool true) ∧ Below w.heap.size w w' := by
  have HT := Lib.hid ht
  have HFL := Lib.hid (filled_any o a xs w ho ha hr)
  clear ht ha hr ho
  go_enter Tryd.func5, Tryd.ntmps5
  go_wp2_with fail
  refine HFL.out.mono ?_
  rintro e w1 ⟨k, rb, v, F, sv, rfl, -, hk, hB, B1⟩
  obtain ⟨m, hm⟩ : ∃ m, RK.fil k (xs.take 256) = m := ⟨_, rfl⟩
  rw [hm] at hB
  have hR := RK.R_le hk
  have hR0 := RK.R_pos k
  have hmb := modZ_bd x (RK.R k) (by omega)
  obtain ⟨y, hy⟩ : ∃ y : Nat, modZ x (RK.R k) = y := ⟨(modZ x (RK.R k)).toNat, by omega⟩
  have hM := fun wx => mod_any x (RK.R k) wx (by omega) (by omega) hx.1 hx.2
  rw [hy] at hM hmb
  have HM := Lib.hid hM
  have HP := Lib.hid (fun wx => refPlaces k wx hk)
  have HB1 := Lib.hid hB
  have HY := Lib.hid (show y < RK.R k by omega)
  obtain ⟨p1, p2, p3, rfl⟩ := own_form hB.set
  clear hm hM hB hx HFL hy
  go_wp2_with fail
  refine (HP.out _).mono ?_
  rintro e w2 ⟨rfl, hb⟩
  have B2 : Below w.heap.size w w2 := bl_call B1 hb B1.size
  have HB2 := Lib.hid (HB1.out.below hb)
  clear hb HB1
  go_wp2_with fail
  refine (HM.out _).mono ?_
  rintro e w2' ⟨rfl, hb⟩
  have B2' : Below w.heap.size w w2' := bl_call B2 hb B2.size
  have HB2' := Lib.hid (HB2.out.below hb)
  clear hb HB2 B2
  go_wp2_with fail
  refine (work_in k rb m v F y w2' hk HB2'.out.rack HY.out).mono ?_
  rintro e w3 ⟨rfl, hb⟩
  have B3 : Below w.heap.size w w3 := bl_call B2' hb B2'.size
  have HB3 := Lib.hid (HB2'.out.below hb)
  clear hb HB2' B2'
  have hsup := HB3.out.rack.2.1.supp
  obtain ⟨w1le, wle⟩ := RK.wk_bound k m y
  have HL := Lib.hid (LI.own HB3.out.set)
  obtain ⟨l, hl⟩ : ∃ l, RK.lst k m = l := ⟨_, rfl⟩
  rw [hl] at HL
  obtain ⟨A, c, e⟩ := HL.out.len
  obtain ⟨rfl, rfl, rfl⟩ : p1 = A ∧ p2 = (zs l).length ∧ p3 = c := by simpa using e
  have hzl := zs_len l
  clear e
  by_cases hk0 : k = 0
  · subst hk0
    have hw := RK.wk_one (x := y) hsup (.inl rfl)
    rw [hw]
    clear hw w1le wle hl hsup hzl
    go_wp2_with fail
    refine (awake_any _ (HT.out.below B3)).mono ?_
    rintro e w4 ⟨rfl, hb4⟩
    have B4 : Below w.heap.size w w4 := bl_call B3 hb4 B3.size
    go_wp2_with fail
    go_ret
    exact ⟨rfl, B4⟩
  · rcases RK.ends_or hsup with ⟨he, -, -⟩ | ⟨a, b, ha, hb, -, -⟩
    · have hw := RK.wk_one (x := y) hsup (.inr (.inl he))
      rw [hw]
      have hl0 : l = [] := by rw [← hl]; exact (RK.lst_emp hsup).2 he
      have hz0 : (zs l).length = 0 := by rw [hzl, hl0]; rfl
      rw [hz0]
      clear hw w1le wle hl hsup hl0 hz0 hzl HL
      have hk1 : (1 : Int) ≤ (k : Int) + 1 := by omega
      go_wp2_with fail
      refine (awake_any _ (HT.out.below B3)).mono ?_
      rintro e w4 ⟨rfl, hb4⟩
      have B4 : Below w.heap.size w w4 := bl_call B3 hb4 B3.size
      go_wp2_with fail
      go_ret
      exact ⟨rfl, B4⟩
    · have h0 := RK.lst_first hsup ha
      rw [hl] at h0
      have hn0 : ¬ (zs l).length = 0 := by
        rw [hzl]; intro h; rw [List.eq_nil_of_length_eq_zero h] at h0; simp at h0
      obtain ⟨ad, e1, hc⟩ := HL.out.cell (j := 0) (x := (a : Int)) (by simp [zs, h0])
      subst e1
      have hc' : w3.cell? ad = some (.int .i64 (a : Int)) := hc
      clear hc
      obtain ⟨n, hn⟩ : ∃ n, (zs l).length = n := ⟨_, rfl⟩
      rw [hn] at hn0
      rw [hn]
      have hn1 : 0 < n := by omega
      obtain ⟨k', rfl⟩ : ∃ k', k = k' + 1 := ⟨k - 1, by omega⟩
      by_cases hya : y < a
      · have hw := RK.wk_one (x := y) hsup (.inr (.inr ⟨a, ha, hya⟩))
        rw [hw]
        clear hw w1le wle hl hsup hzl HL h0 hn ha hb
        have hya' : (y : Int) < (a : Int) := by omega
        go_wp2_with fail
        refine (awake_any _ (HT.out.below B3)).mono ?_
        rintro e w4 ⟨rfl, hb4⟩
        have B4 : Below w.heap.size w w4 := bl_call B3 hb4 B3.size
        go_wp2_with fail
        go_ret
        exact ⟨rfl, B4⟩
      · have hw := RK.wk_big hsup ha hya
        obtain ⟨W, hW⟩ : ∃ W, RK.wk (k' + 1) m y = W := ⟨_, rfl⟩
        rw [hW] at hw w1le wle
        rw [hW]
        clear hl hsup hzl HL h0 hn ha hb hW
        have e1 : ((W : Int) == 1) = false := by simp; omega
        have e2 : ((k' : Int) + 1 == 0) = false := by simp; omega
        have e3 : ((n : Int) == 0) = false := by simp; omega
        go_wp2_with fail
        refine (awake_any _ (HT.out.below B3)).mono ?_
        rintro e w4 ⟨rfl, hb4⟩
        have B4 : Below w.heap.size w w4 := bl_call B3 hb4 B3.size
        go_wp2_with fail
        go_ret
        exact ⟨rfl, B4⟩
namespace rackQuick
open Go.ChangeShapes Go.WideShapes Go.ChangeAt Go.RowKit
open Go.Lib Go.Joins
set_option maxRecDepth 100000 in
theorem contract (H : Type) (enc : TypeId × Value → H) (W : World) (base : Nat) (args : Array Value) (ds gs : List (DataW H)) (before : List MemPlace)
    (hval : ∀ (j : Nat) t v, Tryd.f5.params[j]? = some t → args[j]? = some v → Value.okWide Tryd.prog W .any base t v)
    (hW : DataW.Whole enc Tryd.prog Tryd.f5.params.toList Rows.rackQuickSpec.vars false W args.toList ds gs before) (hL : laidMetH Tryd.prog tabs W) :
    Calls Tryd.prog 5 args W fun e W' => ∃ v, e = .returned v ∧ Rows.rackQuickSpec.post enc Tryd.prog Tryd.f5 false true false false W args v W' := by
  have hW' := hW
  obtain ⟨p, q, hA0, hV, rfl, hfz, hnd⟩ := hW
  have hA : DataW.TrodAll enc Tryd.prog W 0 (fun _ => true) true Tryd.f5.params.toList args.toList ds p := hA0
  rw [Tryd.params5] at hA hval
  obtain ⟨v0, vs0, d0, ds0, p0, q0, hargs, rfl, rfl, h0, r0⟩ := trodAll_cons hA
  obtain ⟨v1, vs1, d1, ds1, p1, q1, rfl, rfl, rfl, h1, r1⟩ := trodAll_cons r0
  obtain ⟨v2, vs2, d2, ds2, p2, q2, rfl, rfl, rfl, h2, r2⟩ := trodAll_cons r1
  obtain ⟨rfl, rfl, rfl⟩ := trodAll_nil r2
  obtain rfl : args = #[v0, v1, v2] := by cases args; simp_all
  obtain ⟨rfl, rfl⟩ := trodVars_none hV
  obtain ⟨x0, rfl, rfl, rfl, wx0⟩ := open_int Tryd.underlying3 (hval 0 3 v0 rfl rfl) h0
  obtain ⟨x1, li1, wx1⟩ := LI_of (hval 1 23 v1 rfl rfl) h1
  have lt1 : ∀ x ∈ p1, x.block < W.heap.size := by obtain ⟨fuel, hf⟩ := h1; exact DataW.trod_lt fuel _ _ _ hf
  obtain ⟨x2, rfl, rfl, rfl, wx2⟩ := open_int Tryd.underlying3 (hval 2 3 v2 rfl rfl) h2
  clear hA0
  try simp only [List.append_nil] at hW'
  refine (show Calls Tryd.prog 5 _ W _ from (RackQuick_walk x0 v1 x1 x2 W (tab_of hL) (inI wx0) li1 wx1 (inI wx2))).mono fun e W' ⟨he, hb⟩ => ?_
  subst he
  exact ⟨_, rfl, _, _, _, _, _, _, hW', trodAll_mk1 (shut_bool Tryd.underlying4 _), trodAll_cons_mk (shut_int Tryd.underlying3 wx0) (trodAll_cons_mk (Below.trod laidOut (by kernel_rfl) (of_decide_eq_true (by kernel_rfl)) h1 hb lt1) (trodAll_cons_mk (shut_int Tryd.underlying3 wx2) (trodAll_mk0))), rfl, hb.frame _, fun h => by cases h⟩
theorem reads (os : Os) {H : Type} (enc : TypeId × Value → H) : ∃ places, DataW.whole enc Tryd.prog ((laidWorld os).forCall (fun _ _ => 0) ⟨#[], #[.int .i64 0, .slice none 0 0, .int .i64 0], []⟩).memory Tryd.f5.params.toList Rows.rackQuickSpec.vars false (#[.int .i64 0, .slice none 0 0, .int .i64 0] : Array Value).toList 8 = some ([.lit (.int .i64 0), .nil, .lit (.int .i64 0)], [], places) :=
  ⟨[], by kernel_rfl⟩
set_option maxRecDepth 100000 in
theorem lifted (os : Os) (started : os.Started) (H : Type) (enc : TypeId × Value → H) (F : Stop.Interp) :
    ReturnsInHanded {} Tryd.checked os 5 .any ((OpenSpec.ofChange Rows.rackQuickSpec).preRow enc Tryd.prog Tryd.f5 Rows.rackQuickRow.domain false Rows.rackQuickRow.laid) (((OpenSpec.ofChange Rows.rackQuickSpec).at F).post enc Tryd.prog Tryd.f5 false true false false) := by
  obtain ⟨places, hx⟩ := reads os enc
  refine returnsInHanded_of_row (C := Tryd.checked) (s := OpenSpec.ofChange Rows.rackQuickSpec) own started (by kernel_rfl) Tryd.func5
    (witness_row_at (enc := enc) (C := Tryd.checked) false (laidWorld os) #[.int .i64 0, .slice none 0 0, .int .i64 0] rfl (by kernel_rfl) (by kernel_rfl) (by kernel_rfl)
      (OpenSpec.preRow_of_cond 8 hx (by kernel_rfl) (fun k hk => by cases hk) (by kernel_rfl) (laid_met os _))) ?_
  intro W base args ds gs before hval hW _ _ _ hL _ _
  exact contract H enc W base args ds gs before hval hW hL
theorem said : Rows.RackQuickSaid :=
  OpenClaim.holds_of_cond 5 Tryd.f5 rfl rfl rfl rfl rfl rfl rfl ⟨rfl, rfl, rfl, rfl, rfl⟩ rfl rfl rfl rfl rfl (by kernel_rfl) Tryd.func5 (by kernel_rfl)
    (of_decide_eq_true (by kernel_rfl)) (by unfold Func.isWrapper; first | (rw [if_pos (by decide +kernel)]; kernel_rfl) | (rw [if_neg (by decide +kernel)]; exact ⟨rfl, rfl⟩))
    (fun os started H enc _ F => by rw [OpenClaim.pre_eq_preRow]; exact lifted os started H enc F)
theorem plain (f : FuncId) (fn : Func) (hf : Tryd.pinned.checked.prog.funcNamed "remould/remouldlaw07.RackQuick" = some f) (hfn : Tryd.pinned.checked.prog.funcs[f]? = some fn) :
    true = Tryd.pinned.checked.prog.looks [] ∧ ∀ (j : Nat) t, fn.params[j]? = some t → Tryd.pinned.checked.prog.wantsStandIn t = false := by
  obtain rfl : f = 5 := Option.some.inj ((show Tryd.prog.funcNamed "remould/remouldlaw07.RackQuick" = some 5 by kernel_rfl).symm.trans hf) |>.symm
  obtain rfl : fn = Tryd.f5 := (Option.some.inj (Tryd.func5.symm.trans hfn)).symm
  refine ⟨by kernel_rfl, fun j t ht => ?_⟩
  rw [Tryd.params5] at ht
  have hm : t ∈ [3, 23, 3] := by simpa using Array.mem_of_getElem? ht
  have hall : ([3, 23, 3].all fun u => !Tryd.prog.wantsStandIn u) = true := by kernel_rfl
  exact (show Tryd.prog.wantsStandIn t = false by simpa using List.all_eq_true.1 hall t (by simpa using hm))
theorem card : Rows.RackQuickCardSaid :=
  Claim7.holds_tied_plain_at .later [] _ _ _ _ said (fun _ h => by cases h) (by kernel_rfl) (fun _ h => by cases h) rackQuick_row_tie rfl ⟨rfl, rfl⟩ (by kernel_rfl) rfl plain (by kernel_rfl)
end rackQuick
theorem RackQuick_holds : Rows.RackQuickCardSaid := rackQuick.card
end Go.Proofs.YtpnfmbeccjehiaaDoor
