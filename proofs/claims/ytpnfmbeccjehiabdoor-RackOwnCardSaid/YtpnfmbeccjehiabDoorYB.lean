/- RackOwn: for every two ints and every list the law returns true. -/
import Derived.Test.YtpnfmbeccjehiabDoorK43
import Derived.Test.YtpnfmbeccjehiabDoorK47
import Derived.Test.YtpnfmbeccjehiabDoorZ8
namespace Go.Proofs.YtpnfmbeccjehiabDoor
open Go.RowKit Go.Proofs.YtpnfmbeccjehiabDoorW.PrintWords Go.Proofs.YtpnfmbeccjehiabDoorW.PrintLast Go.Proofs.YtpnfmbeccjehiabDoorW.PrintMore
attribute [local go_sem ↓] Go.wp_at_zero Go.wp_at_succ

set_option maxHeartbeats 4000000 in
theorem delete_far (k rb : Nat) (m : RK.S) (v : Value) (F : Nat → Prop) (x : Int) (w : World) (hk : k ≤ 3) (h : RackIs w rb k m v F) (hx : ¬ (0 ≤ x ∧ x < RK.R k)) :
    Calls Tryd.prog 21 #[.pointer (some ⟨rb, 0, none⟩), .int .i64 x] w fun e w' => e = .returned (.tuple #[.bool false, .int .i64 2]) ∧ Below w.heap.size w w' := by
  have HH := Lib.hid (has_out k rb m v F x w hk h hx)
  clear h hx
  go_enter Tryd.func21, Tryd.ntmps21
  go_wp2_with fail
  refine HH.out.mono ?_
  rintro e w1 ⟨rfl, hb1⟩
  go_wp2_with fail
  exact bodyPost_ret (v := .tuple #[.bool false, .int .i64 2]) (by simp [results, Tryd.results21, go_sem]) rfl ⟨rfl, (by repeat (first | exact Below.refl _ _ | exact Nat.le_refl _ | refine Below.alloc ?_ ?_ _ | refine Below.setCell ?_ ?_ _ | refine Below.drew ?_ | refine bl_drewN ?_ _ | (assumption) | refine bl_call ?_ (by assumption) ?_ | omega | (simp <;> omega)))⟩
theorem min_q (k rb : Nat) (m : RK.S) (v : Value) (F : Nat → Prop) (w : World) (hk : k ≤ 3) (h : RackIs w rb k m v F) :
    Calls Tryd.prog 10 #[.pointer (some ⟨rb, 0, none⟩)] w fun e w' => (∃ t, e = .returned t) ∧ Below w.heap.size w w' := by
  rcases RK.ends_or h.2.1.supp with ⟨he, -⟩ | ⟨a, b, ha, hb, -⟩
  · exact (min_none k rb m v F w hk h he).mono fun _ _ h => ⟨⟨_, h.1⟩, h.2⟩
  · exact (min_some k rb m v F a b w hk h ha hb).mono fun _ _ h => ⟨⟨_, h.1⟩, h.2⟩
theorem max_q (k rb : Nat) (m : RK.S) (v : Value) (F : Nat → Prop) (w : World) (hk : k ≤ 3) (h : RackIs w rb k m v F) :
    Calls Tryd.prog 11 #[.pointer (some ⟨rb, 0, none⟩)] w fun e w' => (∃ t, e = .returned t) ∧ Below w.heap.size w w' := by
  rcases RK.ends_or h.2.1.supp with ⟨he, -⟩ | ⟨a, b, ha, hb, -⟩
  · exact (max_none k rb m v F w hk h he).mono fun _ _ h => ⟨⟨_, h.1⟩, h.2⟩
  · exact (max_some k rb m v F a b w hk h ha hb).mono fun _ _ h => ⟨⟨_, h.1⟩, h.2⟩
set_option maxRecDepth 100000 in
set_option maxHeartbeats 16000000 in
theorem RackOwn_walk (o : Int) (a : Value) (xs : List Int) (x : Int) (w : World) (ht : Tab w) (ho : -9223372036854775808 ≤ o ∧ o ≤ 9223372036854775807) (ha : LI w a xs) (hr : ∀ x ∈ xs, -9223372036854775808 ≤ x ∧ x ≤ 9223372036854775807) (hx : -9223372036854775808 ≤ x ∧ x ≤ 9223372036854775807) :
    Calls Tryd.prog 7 #[.int .i64 o, a, .int .i64 x] w fun e w' => e = .returned (.bool true) ∧ Below w.heap.size w w' := by
  have HT := Lib.hid ht
  have HFL := Lib.hid (filled_any o a xs w ho ha hr)
  clear ht ha hr ho
  go_enter Tryd.func7, Tryd.ntmps7
  go_wp2_with fail
  refine HFL.out.mono ?_
  rintro e w1 ⟨k, rb, v, F, sv, rfl, -, hk, hB, B1⟩
  obtain ⟨m, hm⟩ : ∃ m, RK.fil k (xs.take 256) = m := ⟨_, rfl⟩
  rw [hm] at hB
  have hR := RK.R_le hk
  have hR0 := RK.R_pos k
  have hmb := modZ_bd x (RK.R k) (by omega)
  obtain ⟨y, hy⟩ : ∃ y : Nat, modZ x (RK.R k) = y := ⟨(modZ x (RK.R k)).toNat, by omega⟩
  have hM := fun wx => mod_any x (RK.R k) wx (by omega) (by omega) hx.1 hx.2
  rw [hy] at hM hmb
  have HM := Lib.hid hM
  have HPL := Lib.hid (fun wx => refPlaces k wx hk)
  have HY := Lib.hid (show y < RK.R k by omega)
  have HB1 := Lib.hid hB
  have HSUP := Lib.hid hB.rack.2.1.supp
  obtain ⟨p1, p2, p3, rfl⟩ := own_form hB.set
  have hlm : (RK.lst k m).length ≤ 256 := by have := RK.lst_len k m; omega
  have hl6 : (zs (RK.lst k m)).length ≤ 1000000 := by rw [zs_len]; omega
  obtain ⟨s, hst⟩ : ∃ s : ByteArray, s = ⟨(RK.shT k m).toArray⟩ := ⟨_, rfl⟩
  have HSH := Lib.hid (fun wx h ht => shape_any k rb m v F wx hk h ht)
  have HRS := Lib.hid (fun sv wx h => refShape k m sv wx hk hB.rack.2.1.supp h)
  have HD := Lib.hid (fun wx h => delete_far k rb m v F (RK.R k : Nat) wx hk h (by omega))
  have HI := Lib.hid (fun wx h => insert_out k rb m v F (-1) wx hk h (by omega))
  rw [← hst] at HSH HRS
  obtain ⟨p, hp⟩ : ∃ p, RK.R k = p := ⟨_, rfl⟩
  rw [hp] at HPL HM HD
  clear hm hM hB hx HFL hy hmb hst hR0 hp
  go_wp2_with fail
  refine (HPL.out _).mono ?_
  rintro e w1a ⟨rfl, hb⟩
  have B1a : Below w.heap.size w w1a := bl_call B1 hb B1.size
  have HB1a := Lib.hid (HB1.out.below hb)
  clear hb
  go_wp2_with fail
  refine (HM.out _).mono ?_
  rintro e w2 ⟨rfl, hb⟩
  have B2 : Below w.heap.size w w2 := bl_call B1a hb B1a.size
  have HB2 := Lib.hid (HB1a.out.below hb)
  clear hb HB1 HB1a
  go_wp2_with fail
  refine (listM_any k rb m v F w2 hk HB2.out.rack).mono ?_
  rintro e w3 ⟨lv, rfl, hO, b3⟩
  obtain ⟨l1, l2, l3, rfl⟩ := own_form hO
  obtain ⟨A2, c2, e2⟩ := (LI.own hO).len
  obtain ⟨rfl, rfl, rfl⟩ : l1 = A2 ∧ l2 = (zs (RK.lst k m)).length ∧ l3 = c2 := by simpa using e2
  clear e2
  rw [zs_len] at hO
  simp only [zs_len]
  obtain ⟨n, hn⟩ : ∃ n, (RK.lst k m).length = n := ⟨_, rfl⟩
  have hn2 : n ≤ 256 := by omega
  have hO3 : ∃ cs : List Value, w3.ownsRow w2.heap.size 3 1 (.slice l1 n l3) n cs := by rw [← hn]; exact ⟨_, hO⟩
  rw [hn]
  have HO3 := Lib.hid hO3
  clear hO hO3 hn
  go_upto_region 5 with fail
  go_loopw [11] (fun i wr => ∃ j : Nat, i = .int .i64 j ∧ j ≤ n ∧ Hid (∃ cs : List Value, wr.ownsRow w2.heap.size 3 1 (.slice l1 n l3) n cs) ∧ Below w2.heap.size w2 wr) (fun i _ => n - (intOf i).toNat)
  case atStart => exact ⟨0, (by simp), by omega, HO3, b3⟩
  case round =>
    clear HO3 b3
    obtain ⟨j, rfl, hj, HO, b⟩ := hrel
    have zr := b.size
    by_cases hjl : j < n
    · obtain ⟨cs, hO⟩ := HO.out
      obtain ⟨g, rfl⟩ : ∃ g, l1 = some ⟨g, 0, none⟩ := by
        rcases hO.2 with ⟨e, h2⟩ | ⟨g, cap, cur, e, -⟩
        · omega
        · exact ⟨g, by simpa using (Value.slice.inj e).1⟩
      have hgb := (own_lt2 hO g rfl).1
      have hfz := hO.frozenAt j
      have hst := hO.stored j (.int .i64 (-7))
      have hcj : ∃ u, wr.cell? ⟨g, j, none⟩ = some u := by
        have h1 := hO.cellAt j (by omega)
        have h2 : j < cs.length := by rw [hO.1]; omega
        exact ⟨cs[j], by rw [h1]; simp [h2]⟩
      obtain ⟨u, hcj⟩ := hcj
      have b4 : Below w2.heap.size w2 (wr.setCell ⟨g, j, none⟩ (.int .i64 (-7))) := b.grown hst.2 b.size (fun q hq => by cases hq; exact hgb)
      have HO4 := Lib.hid (show ∃ cs : List Value, (wr.setCell ⟨g, j, none⟩ (.int .i64 (-7))).ownsRow w2.heap.size 3 1 (.slice (some ⟨g, 0, none⟩) n l3) n cs from ⟨_, hst.1⟩)
      clear hst hO HO
      go_wp2_with fail
      go_roundw
      case rel => exact ⟨j + 1, (by simp), by omega, HO4, b4⟩
      case measure => simp [intOf] <;> omega
    · obtain rfl : j = n := by omega
      have HB3 := Lib.hid (HB2.out.below b)
      clear HO HB2
      have b3 := b
      clear b
      go_wp2_with fail
      refine (has_in k rb m v F y _ hk HB3.out.rack HY.out).mono ?_
      rintro e w4 ⟨rfl, hb⟩
      have b4 : Below w2.heap.size w2 w4 := bl_call b3 hb b3.size
      have HB4 := Lib.hid (HB3.out.below hb)
      clear hb HB3
      go_wp2_with fail
      refine (next_in k rb m v F y _ hk HB4.out.rack HY.out).mono ?_
      rintro e w5 ⟨rfl, hb⟩
      have b5 : Below w2.heap.size w2 w5 := bl_call b4 hb b4.size
      have HB5 := Lib.hid (HB4.out.below hb)
      clear hb HB4
      go_wp2_with fail
      refine (before_in k rb m v F y _ hk HB5.out.rack HY.out).mono ?_
      rintro e w6 ⟨rfl, hb⟩
      have b6 : Below w2.heap.size w2 w6 := bl_call b5 hb b5.size
      have HB6 := Lib.hid (HB5.out.below hb)
      clear hb HB5
      go_wp2_with fail
      refine (work_in k rb m v F y _ hk HB6.out.rack HY.out).mono ?_
      rintro e w7 ⟨rfl, hb⟩
      have b7 : Below w2.heap.size w2 w7 := bl_call b6 hb b6.size
      have HB7 := Lib.hid (HB6.out.below hb)
      clear hb HB6
      go_wp2_with fail
      refine (min_q k rb m v F _ hk HB7.out.rack).mono ?_
      rintro e w8 ⟨⟨t8, rfl⟩, hb⟩
      have b8 : Below w2.heap.size w2 w8 := bl_call b7 hb b7.size
      have HB8 := Lib.hid (HB7.out.below hb)
      clear hb HB7
      go_wp2_with fail
      refine (max_q k rb m v F _ hk HB8.out.rack).mono ?_
      rintro e w9 ⟨⟨t9, rfl⟩, hb⟩
      have b9 : Below w2.heap.size w2 w9 := bl_call b8 hb b8.size
      have HB9 := Lib.hid (HB8.out.below hb)
      clear hb HB8
      go_wp2_with fail
      refine (count_in k rb m v F 0 y _ hk HB9.out.rack (by have := HY.out; omega) HY.out).mono ?_
      rintro e w10 ⟨rfl, hb⟩
      have b10 : Below w2.heap.size w2 w10 := bl_call b9 hb b9.size
      have HB10 := Lib.hid (HB9.out.below hb)
      clear hb HB9
      go_wp2_with fail
      refine (HI.out _ HB10.out.rack).mono ?_
      rintro e w11 ⟨rfl, hb⟩
      have b11 : Below w2.heap.size w2 w11 := bl_call b10 hb b10.size
      have HB11 := Lib.hid (HB10.out.below hb)
      clear hb HB10
      go_wp2_with fail
      refine (HPL.out _).mono ?_
      rintro e w12 ⟨rfl, hb⟩
      have b12 : Below w2.heap.size w2 w12 := bl_call b11 hb b11.size
      have HB12 := Lib.hid (HB11.out.below hb)
      clear hb HB11
      go_wp2_with fail
      refine (HD.out _ HB12.out.rack).mono ?_
      rintro e w13 ⟨rfl, hb⟩
      have b13 : Below w2.heap.size w2 w13 := bl_call b12 hb b12.size
      have HB13 := Lib.hid (HB12.out.below hb)
      clear hb HB12
      go_wp2_with fail
      refine (listM_any k rb m v F w13 hk HB13.out.rack).mono ?_
      rintro e w14 ⟨lv, rfl, hO, hb⟩
      obtain ⟨q1, q2, q3, rfl⟩ := own_form hO
      have b14 : Below w2.heap.size w2 w14 := bl_call b13 hb b13.size
      have HB14 := Lib.hid (HB13.out.below hb)
      have HO14 := Lib.hid (LI.own hO)
      clear hb hO HB13
      go_wp2_with fail
      refine (ints_any _ _ _ _ w14 HO14.out (LI.own HB14.out.set) hl6).mono ?_
      rintro e w15 ⟨rfl, hb⟩
      have b15 : Below w2.heap.size w2 w15 := bl_call b14 hb b14.size
      have HB15 := Lib.hid (HB14.out.below hb)
      clear hb HB14
      rw [decide_eq_true rfl]
      clear HO14
      go_wp2_with fail
      refine (HSH.out _ HB15.out.rack (HT.out.below (bl_call B2 b15 B2.size))).mono ?_
      rintro e w16 ⟨rfl, hb⟩
      have b16 : Below w2.heap.size w2 w16 := bl_call b15 hb b15.size
      have HB16 := Lib.hid (HB15.out.below hb)
      clear hb HB15
      go_wp2_with fail
      refine (HRS.out _ _ (LI.own HB16.out.set)).mono ?_
      rintro e w17 ⟨rfl, hb⟩
      have b17 : Below w2.heap.size w2 w17 := bl_call b16 hb b16.size
      have HB17 := Lib.hid (HB16.out.below hb)
      clear hb HB16
      go_wp2_with fail
      refine (awake_any _ (HT.out.below (bl_call B2 b17 B2.size))).mono ?_
      rintro e w18 ⟨rfl, hb⟩
      have b18 : Below w2.heap.size w2 w18 := bl_call b17 hb b17.size
      have HB18 := Lib.hid (HB17.out.below hb)
      clear hb HB17
      go_wp2_with fail
      go_ret
      exact ⟨rfl, bl_call B2 b18 B2.size⟩
namespace rackOwn
open Go.ChangeShapes Go.WideShapes Go.ChangeAt Go.RowKit
open Go.Lib Go.Joins
set_option maxRecDepth 100000 in
theorem contract (H : Type) (enc : TypeId × Value → H) (W : World) (base : Nat) (args : Array Value) (ds gs : List (DataW H)) (before : List MemPlace)
    (hval : ∀ (j : Nat) t v, Tryd.f7.params[j]? = some t → args[j]? = some v → Value.okWide Tryd.prog W .any base t v)
    (hW : DataW.Whole enc Tryd.prog Tryd.f7.params.toList Rows.rackOwnSpec.vars false W args.toList ds gs before) (hL : laidMetH Tryd.prog tabs W) :
    Calls Tryd.prog 7 args W fun e W' => ∃ v, e = .returned v ∧ Rows.rackOwnSpec.post enc Tryd.prog Tryd.f7 false true false false W args v W' := by
  have hW' := hW
  obtain ⟨p, q, hA0, hV, rfl, hfz, hnd⟩ := hW
  have hA : DataW.TrodAll enc Tryd.prog W 0 (fun _ => true) true Tryd.f7.params.toList args.toList ds p := hA0
  rw [Tryd.params7] at hA hval
  obtain ⟨v0, vs0, d0, ds0, p0, q0, hargs, rfl, rfl, h0, r0⟩ := trodAll_cons hA
  obtain ⟨v1, vs1, d1, ds1, p1, q1, rfl, rfl, rfl, h1, r1⟩ := trodAll_cons r0
  obtain ⟨v2, vs2, d2, ds2, p2, q2, rfl, rfl, rfl, h2, r2⟩ := trodAll_cons r1
  obtain ⟨rfl, rfl, rfl⟩ := trodAll_nil r2
  obtain rfl : args = #[v0, v1, v2] := by cases args; simp_all
  obtain ⟨rfl, rfl⟩ := trodVars_none hV
  obtain ⟨x0, rfl, rfl, rfl, wx0⟩ := open_int Tryd.underlying3 (hval 0 3 v0 rfl rfl) h0
  obtain ⟨x1, li1, wx1⟩ := LI_of (hval 1 22 v1 rfl rfl) h1
  have lt1 : ∀ x ∈ p1, x.block < W.heap.size := by obtain ⟨fuel, hf⟩ := h1; exact DataW.trod_lt fuel _ _ _ hf
  obtain ⟨x2, rfl, rfl, rfl, wx2⟩ := open_int Tryd.underlying3 (hval 2 3 v2 rfl rfl) h2
  clear hA0
  try simp only [List.append_nil] at hW'
  refine (show Calls Tryd.prog 7 _ W _ from (RackOwn_walk x0 v1 x1 x2 W (tab_of hL) (inI wx0) li1 wx1 (inI wx2))).mono fun e W' ⟨he, hb⟩ => ?_
  subst he
  exact ⟨_, rfl, _, _, _, _, _, _, hW', trodAll_mk1 (shut_bool Tryd.underlying4 _), trodAll_cons_mk (shut_int Tryd.underlying3 wx0) (trodAll_cons_mk (Below.trod laidOut (by kernel_rfl) (of_decide_eq_true (by kernel_rfl)) h1 hb lt1) (trodAll_cons_mk (shut_int Tryd.underlying3 wx2) (trodAll_mk0))), rfl, hb.frame _, fun h => by cases h⟩
theorem reads (os : Os) {H : Type} (enc : TypeId × Value → H) : ∃ places, DataW.whole enc Tryd.prog ((laidWorld os).forCall (fun _ _ => 0) ⟨#[], #[.int .i64 0, .slice none 0 0, .int .i64 0], []⟩).memory Tryd.f7.params.toList Rows.rackOwnSpec.vars false (#[.int .i64 0, .slice none 0 0, .int .i64 0] : Array Value).toList 8 = some ([.lit (.int .i64 0), .nil, .lit (.int .i64 0)], [], places) :=
  ⟨[], by kernel_rfl⟩
set_option maxRecDepth 100000 in
theorem lifted (os : Os) (started : os.Started) (H : Type) (enc : TypeId × Value → H) (F : Stop.Interp) :
    ReturnsInHanded {} Tryd.checked os 7 .any ((OpenSpec.ofChange Rows.rackOwnSpec).preRow enc Tryd.prog Tryd.f7 Rows.rackOwnRow.domain false Rows.rackOwnRow.laid) (((OpenSpec.ofChange Rows.rackOwnSpec).at F).post enc Tryd.prog Tryd.f7 false true false false) := by
  obtain ⟨places, hx⟩ := reads os enc
  refine returnsInHanded_of_row (C := Tryd.checked) (s := OpenSpec.ofChange Rows.rackOwnSpec) own started (by kernel_rfl) Tryd.func7
    (witness_row_at (enc := enc) (C := Tryd.checked) false (laidWorld os) #[.int .i64 0, .slice none 0 0, .int .i64 0] rfl (by kernel_rfl) (by kernel_rfl) (by kernel_rfl)
      (OpenSpec.preRow_of_cond 8 hx (by kernel_rfl) (fun k hk => by cases hk) (by kernel_rfl) (laid_met os _))) ?_
  intro W base args ds gs before hval hW _ _ _ hL _ _
  exact contract H enc W base args ds gs before hval hW hL
theorem said : Rows.RackOwnSaid :=
  OpenClaim.holds_of_cond 7 Tryd.f7 rfl rfl rfl rfl rfl rfl rfl ⟨rfl, rfl, rfl, rfl, rfl⟩ rfl rfl rfl rfl rfl (by kernel_rfl) Tryd.func7 (by kernel_rfl)
    (of_decide_eq_true (by kernel_rfl)) (by unfold Func.isWrapper; first | (rw [if_pos (by decide +kernel)]; kernel_rfl) | (rw [if_neg (by decide +kernel)]; exact ⟨rfl, rfl⟩))
    (fun os started H enc _ F => by rw [OpenClaim.pre_eq_preRow]; exact lifted os started H enc F)
theorem plain (f : FuncId) (fn : Func) (hf : Tryd.pinned.checked.prog.funcNamed "remould/remouldlaw07.RackOwn" = some f) (hfn : Tryd.pinned.checked.prog.funcs[f]? = some fn) :
    true = Tryd.pinned.checked.prog.looks [] ∧ ∀ (j : Nat) t, fn.params[j]? = some t → Tryd.pinned.checked.prog.wantsStandIn t = false := by
  obtain rfl : f = 7 := Option.some.inj ((show Tryd.prog.funcNamed "remould/remouldlaw07.RackOwn" = some 7 by kernel_rfl).symm.trans hf) |>.symm
  obtain rfl : fn = Tryd.f7 := (Option.some.inj (Tryd.func7.symm.trans hfn)).symm
  refine ⟨by kernel_rfl, fun j t ht => ?_⟩
  rw [Tryd.params7] at ht
  have hm : t ∈ [3, 22, 3] := by simpa using Array.mem_of_getElem? ht
  have hall : ([3, 22, 3].all fun u => !Tryd.prog.wantsStandIn u) = true := by kernel_rfl
  exact (show Tryd.prog.wantsStandIn t = false by simpa using List.all_eq_true.1 hall t (by simpa using hm))
theorem card : Rows.RackOwnCardSaid :=
  Claim7.holds_tied_plain_at .later [] _ _ _ _ said (fun _ h => by cases h) (by kernel_rfl) (fun _ h => by cases h) rackOwn_row_tie rfl ⟨rfl, rfl⟩ (by kernel_rfl) rfl plain (by kernel_rfl)
end rackOwn
theorem RackOwn_holds : Rows.RackOwnCardSaid := rackOwn.card
end Go.Proofs.YtpnfmbeccjehiabDoor
