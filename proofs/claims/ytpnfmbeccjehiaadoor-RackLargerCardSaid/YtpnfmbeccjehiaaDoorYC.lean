/- RackLarger: for every two ints and every list the law returns true. -/
import Derived.Test.YtpnfmbeccjehiaaDoorZC
import Derived.Test.YtpnfmbeccjehiaaDoorK53
import Derived.Test.YtpnfmbeccjehiaaDoorZ8
namespace Go.Proofs.YtpnfmbeccjehiaaDoor
open Go.RowKit Go.Proofs.YtpnfmbeccjehiaaDoorW.PrintWords Go.Proofs.YtpnfmbeccjehiaaDoorW.PrintLast Go.Proofs.YtpnfmbeccjehiaaDoorW.PrintMore
attribute [local go_sem ↓] Go.wp_at_zero Go.wp_at_succ

theorem bs_ne {s t : ByteArray} {l l' : List UInt8} (hs : s = ⟨l.toArray⟩) (ht : t = ⟨l'.toArray⟩) (h : l ≠ l') : (s.toList == t.toList) = false := by
  rw [beq_eq_false_iff_ne, hs, ht, ByteArray.toList_eq, ByteArray.toList_eq]
  simpa using h
set_option maxRecDepth 100000 in
set_option maxHeartbeats 8000000 in
theorem RackLarger_walk (o : Int) (a : Value) (xs : List Int) (x : Int) (w : World) (ht : Tab w) (ho : -9223372036854775808 ≤ o ∧ o ≤ 9223372036854775807) (ha : LI w a xs) (hr : ∀ x ∈ xs, -9223372036854775808 ≤ x ∧ x ≤ 9223372036854775807) (hx : -9223372036854775808 ≤ x ∧ x ≤ 9223372036854775807) :
    Calls Tryd.prog 9 #[.int .i64 o, a, .int .i64 x] w fun e w' => e = .returned (.bool true) ∧ Below w.heap.size w w' := by
  have HT := Lib.hid ht
  have HFL := Lib.hid (filled_any o a xs w ho ha hr)
  clear ht ha hr ho
  go_enter Tryd.func9, Tryd.ntmps9
  go_wp2_with fail
  refine (HFL.out).mono ?_
  rintro e w1 ⟨k, rb, v, F, sv, rfl, -, hk, hB, B1⟩
  obtain ⟨m, hm⟩ : ∃ m, RK.fil k (xs.take 256) = m := ⟨_, rfl⟩
  rw [hm] at hB
  have hR := RK.R_le hk
  have hR0 := RK.R_pos k
  have hmb := modZ_bd x (RK.R k) (by omega)
  obtain ⟨y, hy⟩ : ∃ y : Nat, modZ x (RK.R k) = y := ⟨(modZ x (RK.R k)).toNat, by omega⟩
  have hM := fun wx => mod_any x (RK.R k) wx (by omega) (by omega) hx.1 hx.2
  rw [hy] at hM hmb
  have HM := Lib.hid hM
  have HPL := Lib.hid (fun wx => refPlaces k wx hk)
  have hyR : y < RK.R k := by omega
  have HY := Lib.hid hyR
  have HP1 := Lib.hid hB.pair
  have hsup := hB.rack.2.1.supp
  have hsup2 := RK.ins_supp hsup hyR
  have hsup0 : RK.Supp k (fun _ => false) := fun x h => by cases h
  have HSUP := Lib.hid hsup
  obtain ⟨p1, p2, p3, rfl⟩ := own_form hB.set
  have hl6 : (zs (RK.lst k m)).length ≤ 1000000 := by rw [zs_len]; have := RK.lst_len k m; omega
  obtain ⟨sa, hsa⟩ : ∃ s : ByteArray, s = ⟨(RK.shT k m).toArray⟩ := ⟨_, rfl⟩
  obtain ⟨sb, hsb⟩ : ∃ s : ByteArray, s = ⟨(RK.shT k (RK.ins m y)).toArray⟩ := ⟨_, rfl⟩
  obtain ⟨na, hna⟩ : ∃ n, RK.sz k m = n := ⟨_, rfl⟩
  obtain ⟨nb, hnb⟩ : ∃ n, RK.sz k (RK.ins m y) = n := ⟨_, rfl⟩
  have hle : na ≤ nb := by rw [← hna, ← hnb]; exact RK.sz_ins k hsup hyR
  have hnb0 : nb ≤ 1000 := by rw [← hnb]; exact Nat.le_trans (RK.sz_le k _) (RK.bz_le hk)
  have htl := fun M (h : RK.Supp k M) => Nat.le_trans (RK.shT_len k M hk h) (RK.tL_le hk)
  have CA := fun wx ht => Size_any (RK.shT k m) wx (by have := htl m hsup; omega) ht
  rw [RK.sizeOf_shT hk hsup, hna, ← hsa] at CA
  have CB := fun wx ht => Size_any (RK.shT k (RK.ins m y)) wx (by have := htl _ hsup2; omega) ht
  rw [RK.sizeOf_shT hk hsup2, hnb, ← hsb] at CB
  have CE := fun wx ht => Size_any (RK.shT k (fun _ => false)) wx (by have := htl _ hsup0; omega) ht
  rw [RK.sizeOf_shT hk hsup0, RK.sz_emp hsup0 (fun _ => rfl)] at CE
  have SA := fun wx (h : Mine w.heap.size wx rb k m) ht => mine_shape hk h ht
  rw [← hsa] at SA
  have SB := fun wx (h : Mine w.heap.size wx rb k (RK.ins m y)) ht => mine_shape hk h ht
  rw [← hsb] at SB
  simp only [sizeT] at CA CB CE
  have HCA := Lib.hid CA
  have HCB := Lib.hid CB
  have HCE := Lib.hid CE
  have HSA := Lib.hid SA
  have HSB := Lib.hid SB
  have Hsa := Lib.hid hsa
  have Hsb := Lib.hid hsb
  obtain ⟨p, hp⟩ : ∃ p, RK.R k = p := ⟨_, rfl⟩
  rw [hp] at HPL HM
  have HNA := Lib.hid hna
  obtain ⟨A2, c2, e2⟩ := (LI.own (own_below hB.set (Below.refl _ _))).len
  obtain ⟨rfl, rfl, rfl⟩ : p1 = A2 ∧ p2 = (zs (RK.lst k m)).length ∧ p3 = c2 := by simpa using e2
  clear e2
  rw [zs_len] at HP1
  simp only [zs_len]
  obtain ⟨n, hn⟩ : ∃ n, (RK.lst k m).length = n := ⟨_, rfl⟩
  have HNn := Lib.hid hn
  rw [hn] at HP1
  rw [hn]
  clear hm hM hB hx HFL hy hmb hsa hsb CA CB CE SA SB hsup hsup2 hsup0 htl hp hna hnb hyR hR hR0 hn
  go_wp2_with fail
  refine (HPL.out _).mono ?_
  rintro e w2 ⟨rfl, hb⟩
  have B2 : Below w.heap.size w w2 := bl_call B1 hb B1.size
  have HP2 := Lib.hid (HP1.out.below hb)
  clear hb HP1
  go_wp2_with fail
  refine (HM.out _).mono ?_
  rintro e w3 ⟨rfl, hb⟩
  have B3 : Below w.heap.size w w3 := bl_call B2 hb B2.size
  have HP3 := Lib.hid (HP2.out.below hb)
  clear hb HP2
  go_wp2_with fail
  refine (HSA.out _ HP3.out.mine (HT.out.below B3)).mono ?_
  rintro e w4 ⟨rfl, hb⟩
  have B4 : Below w.heap.size w w4 := bl_call B3 hb B3.size
  have HP4 := Lib.hid (HP3.out.below hb)
  clear hb HP3
  go_wp2_with fail
  refine (HCA.out _ (HT.out.below B4)).mono ?_
  rintro e w5 ⟨rfl, hb⟩
  have B5 : Below w.heap.size w w5 := bl_call B4 hb B4.size
  have HP5 := Lib.hid (HP4.out.below hb)
  clear hb HP4
  go_wp2_with fail
  refine (pair_insert (w0 := w) hk HP5.out B5 HY.out).mono ?_
  rintro e w6 ⟨rfl, hp6, B6⟩
  have HP6 := Lib.hid hp6
  clear hp6 HP5
  go_wp2_with fail
  refine (HSB.out _ HP6.out.mine (HT.out.below B6)).mono ?_
  rintro e w7 ⟨rfl, hb⟩
  have B7 : Below w.heap.size w w7 := bl_call B6 hb B6.size
  have HP7 := Lib.hid (HP6.out.below hb)
  clear hb HP6
  go_wp2_with fail
  refine (HCB.out _ (HT.out.below B7)).mono ?_
  rintro e w8 ⟨rfl, hb⟩
  have B8 : Below w.heap.size w w8 := bl_call B7 hb B7.size
  have HP8 := Lib.hid (HP7.out.below hb)
  clear hb HP7
  go_wp2_with fail
  refine (pair_new (w0 := w8) k hk (Below.refl _ _)).mono ?_
  rintro e w9 ⟨rq, rfl, hq, hb⟩
  have B9 : Below w.heap.size w w9 := bl_call B8 hb B8.size
  have HP9 := Lib.hid (HP8.out.below hb)
  have HE := Lib.hid hq.mine
  clear hq hb HP8
  go_wp2_with fail
  refine (mine_shape hk HE.out (HT.out.below B9)).mono ?_
  rintro e w10 ⟨rfl, hb⟩
  have B10 : Below w.heap.size w w10 := bl_call B9 hb B9.size
  have HP10 := Lib.hid (HP9.out.below hb)
  clear hb HP9
  go_wp2_with fail
  refine (HCE.out _ (HT.out.below B10)).mono ?_
  rintro e w11 ⟨rfl, hb⟩
  have B11 : Below w.heap.size w w11 := bl_call B10 hb B10.size
  have HP11 := Lib.hid (HP10.out.below hb)
  clear hb HP10
  clear HCA HCB HCE HSA HSB HM HPL
  have hz : ((na : Int) == 0) = ((n : Int) == 0) := by
    by_cases he : RK.Emp m
    · have h1 : na = 0 := by rw [← HNA.out]; exact RK.sz_emp HSUP.out he
      have h2 : n = 0 := by rw [← HNn.out, (RK.lst_emp HSUP.out).2 he]; rfl
      rw [h1, h2]
    · have h1 : 1 ≤ na := by rw [← HNA.out]; exact RK.sz_pos HSUP.out he
      have h2 : 1 ≤ n := by
        rw [← HNn.out]
        cases h : RK.lst k m with
        | nil => exact absurd ((RK.lst_emp HSUP.out).1 h) he
        | cons => simp
      rw [beq_eq_false_iff_ne.2 (by omega : (na : Int) ≠ 0), beq_eq_false_iff_ne.2 (by omega : (n : Int) ≠ 0)]
  by_cases hmy : m y = true
  · have hd : decide ((y : Int) ∈ zs (RK.lst k m)) = true := decide_eq_true (mem_zs.2 ((RK.mem_lst HSUP.out y).2 hmy))
    have hss : sb = sa := by rw [Hsa.out, Hsb.out, RK.ins_same hmy]
    subst hss
    clear hmy HNA HNn
    clear HE
    go_wp2_with fail
    refine (refHas _ _ (y : Int) w11 (LI.own HP11.out.set) hl6).mono ?_
    rintro e w12 ⟨rfl, hb⟩
    have B12 : Below w.heap.size w w12 := bl_call B11 hb B11.size
    clear hb HP11
    rw [hd]
    go_wp2_with fail
    refine (awake_any _ (HT.out.below B12)).mono ?_
    rintro e w13 ⟨rfl, hb⟩
    have B13 : Below w.heap.size w w13 := bl_call B12 hb B12.size
    go_wp2_with fail
    go_ret
    exact ⟨rfl, B13⟩
  · have hd : decide ((y : Int) ∈ zs (RK.lst k m)) = false := decide_eq_false (fun h => hmy ((RK.mem_lst HSUP.out y).1 (mem_zs.1 h)))
    have hne := bs_ne Hsa.out Hsb.out (fun h => by
      have h2 := RK.shT_inj hk HSUP.out (RK.ins_supp HSUP.out HY.out) h
      have h3 : RK.ins m y y = true := by simp [RK.ins]
      rw [← h2] at h3
      exact hmy h3)
    clear hmy HNA HNn
    clear HE
    go_wp2_with fail
    refine (refHas _ _ (y : Int) w11 (LI.own HP11.out.set) hl6).mono ?_
    rintro e w12 ⟨rfl, hb⟩
    have B12 : Below w.heap.size w w12 := bl_call B11 hb B11.size
    clear hb HP11
    rw [hd]
    go_wp2_with fail
    refine (awake_any _ (HT.out.below B12)).mono ?_
    rintro e w13 ⟨rfl, hb⟩
    have B13 : Below w.heap.size w w13 := bl_call B12 hb B12.size
    go_wp2_with fail
    go_ret
    exact ⟨rfl, B13⟩
namespace rackLarger
open Go.ChangeShapes Go.WideShapes Go.ChangeAt Go.RowKit
open Go.Lib Go.Joins
set_option maxRecDepth 100000 in
theorem contract (H : Type) (enc : TypeId × Value → H) (W : World) (base : Nat) (args : Array Value) (ds gs : List (DataW H)) (before : List MemPlace)
    (hval : ∀ (j : Nat) t v, Tryd.f9.params[j]? = some t → args[j]? = some v → Value.okWide Tryd.prog W .any base t v)
    (hW : DataW.Whole enc Tryd.prog Tryd.f9.params.toList Rows.rackLargerSpec.vars false W args.toList ds gs before) (hL : laidMetH Tryd.prog tabs W) :
    Calls Tryd.prog 9 args W fun e W' => ∃ v, e = .returned v ∧ Rows.rackLargerSpec.post enc Tryd.prog Tryd.f9 false true false false W args v W' := by
  have hW' := hW
  obtain ⟨p, q, hA0, hV, rfl, hfz, hnd⟩ := hW
  have hA : DataW.TrodAll enc Tryd.prog W 0 (fun _ => true) true Tryd.f9.params.toList args.toList ds p := hA0
  rw [Tryd.params9] at hA hval
  obtain ⟨v0, vs0, d0, ds0, p0, q0, hargs, rfl, rfl, h0, r0⟩ := trodAll_cons hA
  obtain ⟨v1, vs1, d1, ds1, p1, q1, rfl, rfl, rfl, h1, r1⟩ := trodAll_cons r0
  obtain ⟨v2, vs2, d2, ds2, p2, q2, rfl, rfl, rfl, h2, r2⟩ := trodAll_cons r1
  obtain ⟨rfl, rfl, rfl⟩ := trodAll_nil r2
  obtain rfl : args = #[v0, v1, v2] := by cases args; simp_all
  obtain ⟨rfl, rfl⟩ := trodVars_none hV
  obtain ⟨x0, rfl, rfl, rfl, wx0⟩ := open_int Tryd.underlying3 (hval 0 3 v0 rfl rfl) h0
  obtain ⟨x1, li1, wx1⟩ := LI_of (hval 1 23 v1 rfl rfl) h1
  have lt1 : ∀ x ∈ p1, x.block < W.heap.size := by obtain ⟨fuel, hf⟩ := h1; exact DataW.trod_lt fuel _ _ _ hf
  obtain ⟨x2, rfl, rfl, rfl, wx2⟩ := open_int Tryd.underlying3 (hval 2 3 v2 rfl rfl) h2
  clear hA0
  try simp only [List.append_nil] at hW'
  refine (show Calls Tryd.prog 9 _ W _ from (RackLarger_walk x0 v1 x1 x2 W (tab_of hL) (inI wx0) li1 wx1 (inI wx2))).mono fun e W' ⟨he, hb⟩ => ?_
  subst he
  exact ⟨_, rfl, _, _, _, _, _, _, hW', trodAll_mk1 (shut_bool Tryd.underlying4 _), trodAll_cons_mk (shut_int Tryd.underlying3 wx0) (trodAll_cons_mk (Below.trod laidOut (by kernel_rfl) (of_decide_eq_true (by kernel_rfl)) h1 hb lt1) (trodAll_cons_mk (shut_int Tryd.underlying3 wx2) (trodAll_mk0))), rfl, hb.frame _, fun h => by cases h⟩
theorem reads (os : Os) {H : Type} (enc : TypeId × Value → H) : ∃ places, DataW.whole enc Tryd.prog ((laidWorld os).forCall (fun _ _ => 0) ⟨#[], #[.int .i64 0, .slice none 0 0, .int .i64 0], []⟩).memory Tryd.f9.params.toList Rows.rackLargerSpec.vars false (#[.int .i64 0, .slice none 0 0, .int .i64 0] : Array Value).toList 8 = some ([.lit (.int .i64 0), .nil, .lit (.int .i64 0)], [], places) :=
  ⟨[], by kernel_rfl⟩
set_option maxRecDepth 100000 in
theorem lifted (os : Os) (started : os.Started) (H : Type) (enc : TypeId × Value → H) (F : Stop.Interp) :
    ReturnsInHanded {} Tryd.checked os 9 .any ((OpenSpec.ofChange Rows.rackLargerSpec).preRow enc Tryd.prog Tryd.f9 Rows.rackLargerRow.domain false Rows.rackLargerRow.laid) (((OpenSpec.ofChange Rows.rackLargerSpec).at F).post enc Tryd.prog Tryd.f9 false true false false) := by
  obtain ⟨places, hx⟩ := reads os enc
  refine returnsInHanded_of_row (C := Tryd.checked) (s := OpenSpec.ofChange Rows.rackLargerSpec) own started (by kernel_rfl) Tryd.func9
    (witness_row_at (enc := enc) (C := Tryd.checked) false (laidWorld os) #[.int .i64 0, .slice none 0 0, .int .i64 0] rfl (by kernel_rfl) (by kernel_rfl) (by kernel_rfl)
      (OpenSpec.preRow_of_cond 8 hx (by kernel_rfl) (fun k hk => by cases hk) (by kernel_rfl) (laid_met os _))) ?_
  intro W base args ds gs before hval hW _ _ _ hL _ _
  exact contract H enc W base args ds gs before hval hW hL
theorem said : Rows.RackLargerSaid :=
  OpenClaim.holds_of_cond 9 Tryd.f9 rfl rfl rfl rfl rfl rfl rfl ⟨rfl, rfl, rfl, rfl, rfl⟩ rfl rfl rfl rfl rfl (by kernel_rfl) Tryd.func9 (by kernel_rfl)
    (of_decide_eq_true (by kernel_rfl)) (by unfold Func.isWrapper; first | (rw [if_pos (by decide +kernel)]; kernel_rfl) | (rw [if_neg (by decide +kernel)]; exact ⟨rfl, rfl⟩))
    (fun os started H enc _ F => by rw [OpenClaim.pre_eq_preRow]; exact lifted os started H enc F)
theorem plain (f : FuncId) (fn : Func) (hf : Tryd.pinned.checked.prog.funcNamed "remould/remouldlaw07.RackLarger" = some f) (hfn : Tryd.pinned.checked.prog.funcs[f]? = some fn) :
    true = Tryd.pinned.checked.prog.looks [] ∧ ∀ (j : Nat) t, fn.params[j]? = some t → Tryd.pinned.checked.prog.wantsStandIn t = false := by
  obtain rfl : f = 9 := Option.some.inj ((show Tryd.prog.funcNamed "remould/remouldlaw07.RackLarger" = some 9 by kernel_rfl).symm.trans hf) |>.symm
  obtain rfl : fn = Tryd.f9 := (Option.some.inj (Tryd.func9.symm.trans hfn)).symm
  refine ⟨by kernel_rfl, fun j t ht => ?_⟩
  rw [Tryd.params9] at ht
  have hm : t ∈ [3, 23, 3] := by simpa using Array.mem_of_getElem? ht
  have hall : ([3, 23, 3].all fun u => !Tryd.prog.wantsStandIn u) = true := by kernel_rfl
  exact (show Tryd.prog.wantsStandIn t = false by simpa using List.all_eq_true.1 hall t (by simpa using hm))
theorem card : Rows.RackLargerCardSaid :=
  Claim7.holds_tied_plain_at .later [] _ _ _ _ said (fun _ h => by cases h) (by kernel_rfl) (fun _ h => by cases h) rackLarger_row_tie rfl ⟨rfl, rfl⟩ (by kernel_rfl) rfl plain (by kernel_rfl)
end rackLarger
theorem RackLarger_holds : Rows.RackLargerCardSaid := rackLarger.card
end Go.Proofs.YtpnfmbeccjehiaaDoor
