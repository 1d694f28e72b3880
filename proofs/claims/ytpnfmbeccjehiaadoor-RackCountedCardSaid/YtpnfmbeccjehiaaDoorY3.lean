/- RackCounted: for every four ints and every list the law returns true. -/
import Derived.Test.YtpnfmbeccjehiaaDoorZ8
namespace Go.Proofs.YtpnfmbeccjehiaaDoor
open Go.RowKit Go.Proofs.YtpnfmbeccjehiaaDoorW.PrintWords Go.Proofs.YtpnfmbeccjehiaaDoorW.PrintLast Go.Proofs.YtpnfmbeccjehiaaDoorW.PrintMore
attribute [local go_sem ↓] Go.wp_at_zero Go.wp_at_succ

theorem cn_zero (m : RK.S) : ∀ n, RK.cn m 0 n = (below m n).length
  | 0 => rfl
  | n + 1 => by
    rw [RK.cn, cn_zero m n, below_succ, List.length_append, Nat.zero_add]
    split <;> rfl
theorem cn_add (m : RK.S) (lo a : Nat) : ∀ b, RK.cn m lo (a + b) = RK.cn m lo a + RK.cn m (lo + a) b
  | 0 => rfl
  | b + 1 => by
    rw [show a + (b + 1) = (a + b) + 1 by omega, RK.cn, RK.cn, cn_add m lo a b, Nat.add_assoc lo a b]
    omega
theorem order3 (y0 y1 y2 p : Nat) (h0 : y0 < p) (h1 : y1 < p) (h2 : y2 < p) : ∃ lo mid hi : Nat, lo ≤ mid ∧ mid ≤ hi ∧ hi < p ∧
    (if (y2 : Int) < (if y1 < y0 then (y1 : Int) else (y0 : Int)) then (y2 : Int) else if y1 < y0 then (y1 : Int) else (y0 : Int)) = (lo : Int) ∧
    (if (if y0 < y1 then (y1 : Int) else (y0 : Int)) < (y2 : Int) then (y2 : Int) else if y0 < y1 then (y1 : Int) else (y0 : Int)) = (hi : Int) ∧ (y0 : Int) + y1 + y2 - lo - hi = (mid : Int) := by
  refine ⟨min (min y0 y1) y2, y0 + y1 + y2 - min (min y0 y1) y2 - max (max y0 y1) y2, max (max y0 y1) y2, by omega, by omega, by omega, ?_, ?_, by omega⟩
  · repeat' split
    all_goals omega
  · repeat' split
    all_goals omega
set_option maxRecDepth 100000 in
set_option maxHeartbeats 16000000 in
theorem RackCounted_walk (o : Int) (a : Value) (xs : List Int) (x0 x1 x2 : Int) (w : World) (ht : Tab w) (ho : -9223372036854775808 ≤ o ∧ o ≤ 9223372036854775807) (ha : LI w a xs) (hr : ∀ x ∈ xs, -9223372036854775808 ≤ x ∧ x ≤ 9223372036854775807) (hx0 : -9223372036854775808 ≤ x0 ∧ x0 ≤ 9223372036854775807) (hx1 : -9223372036854775808 ≤ x1 ∧ x1 ≤ 9223372036854775807) (hx2 : -9223372036854775808 ≤ x2 ∧ x2 ≤ 9223372036854775807) :
    Calls Tryd.prog 7 #[.int .i64 o, a, .int .i64 x0, .int .i64 x1, .int .i64 x2] w fun e w' => e = .returned (.bool true) ∧ Below w.heap.size w w' := by
  have HT := Lib.hid ht
  have HFL := Lib.hid (filled_any o a xs w ho ha hr)
  clear ht ha hr ho
  go_enter Tryd.func7, Tryd.ntmps7
  go_wp2_with fail
  refine HFL.out.mono ?_
  rintro e w1 ⟨k, rb, v, F, sv, rfl, -, hk, hB, B1⟩
  obtain ⟨m, hm⟩ : ∃ m, RK.fil k (xs.take 256) = m := ⟨_, rfl⟩
  rw [hm] at hB
  have hR := RK.R_le hk
  have hR0 := RK.R_pos k
  have HB1 := Lib.hid hB
  obtain ⟨p1, p2, p3, rfl⟩ := own_form hB.set
  clear hm hB HFL
  have hP := fun wx => refPlaces k wx hk
  obtain ⟨p, hp⟩ : ∃ p, RK.R k = p := ⟨_, rfl⟩
  rw [hp] at hP hR hR0
  have HRP := Lib.hid hp
  clear hp
  have HP := Lib.hid hP
  have hmd : ∀ x : Int, -9223372036854775808 ≤ x ∧ x ≤ 9223372036854775807 → ∃ y : Nat, y < p ∧ ∀ wx, Calls Tryd.prog 19 #[.int .i64 x, .int .i64 p] wx fun e w' => e = .returned (.int .i64 (y : Int)) ∧ Below wx.heap.size wx w' := fun x hx => by
    have hmb := modZ_bd x p (by omega)
    refine ⟨(modZ x p).toNat, by omega, fun wx => ?_⟩
    rw [show ((modZ x p).toNat : Int) = modZ x p by omega]
    exact mod_any x p wx (by omega) (by omega) hx.1 hx.2
  obtain ⟨y0, h0, hm0⟩ := hmd x0 hx0
  obtain ⟨y1, h1, hm1⟩ := hmd x1 hx1
  obtain ⟨y2, h2, hm2⟩ := hmd x2 hx2
  have HM0 := Lib.hid hm0
  have HM1 := Lib.hid hm1
  have HM2 := Lib.hid hm2
  clear hm0 hm1 hm2 hmd hP hx0 hx1 hx2
  go_wp2_with fail
  refine (HP.out _).mono ?_
  rintro e w2 ⟨rfl, hb⟩
  have B2 : Below w.heap.size w w2 := bl_call B1 hb B1.size
  have HB2 := Lib.hid (HB1.out.below hb)
  clear hb HB1
  go_wp2_with fail
  refine (HM0.out _).mono ?_
  rintro e w3 ⟨rfl, hb⟩
  have B3 : Below w.heap.size w w3 := bl_call B2 hb B2.size
  have HB3 := Lib.hid (HB2.out.below hb)
  clear hb HB2
  go_wp2_with fail
  refine (HM1.out _).mono ?_
  rintro e w4 ⟨rfl, hb⟩
  have B4 : Below w.heap.size w w4 := bl_call B3 hb B3.size
  have HB4 := Lib.hid (HB3.out.below hb)
  clear hb HB3
  go_wp2_with fail
  refine (HM2.out _).mono ?_
  rintro e w5 ⟨rfl, hb⟩
  have B5 : Below w.heap.size w w5 := bl_call B4 hb B4.size
  have HB5 := Lib.hid (HB4.out.below hb)
  clear hb HB4 B2 B3 B4
  go_upto_region 5 with fail
  obtain ⟨lo, mid, hi, q1, q2, q3, e1, e2, e3⟩ := order3 y0 y1 y2 p h0 h1 h2
  rw [e1, e2, e3]
  clear e1 e2 e3
  have hsup := HB5.out.rack.2.1.supp
  have HC0 := Lib.hid (fun wx h => count_in k rb m v F 0 (p - 1) wx hk h (by rw [HRP.out]; omega) (by rw [HRP.out]; omega))
  have HC1 := Lib.hid (fun wx h => count_in k rb m v F lo mid wx hk h (by rw [HRP.out]; omega) (by rw [HRP.out]; omega))
  have HC2 := Lib.hid (fun wx h => count_in k rb m v F lo hi wx hk h (by rw [HRP.out]; omega) (by rw [HRP.out]; omega))
  have HC5 := Lib.hid (fun wx h => count_in k rb m v F lo lo wx hk h (by rw [HRP.out]; omega) (by rw [HRP.out]; omega))
  have HC4 := Lib.hid (fun wx h => count_in k rb m v F hi lo wx hk h (by rw [HRP.out]; omega) (by rw [HRP.out]; omega))
  have HHA := Lib.hid (fun wx h => has_in k rb m v F lo wx hk h (by rw [HRP.out]; omega))
  have hp1 : ((p - 1 : Nat) : Int) = (p : Int) - 1 := by omega
  have hall : RK.cn m 0 (p - 1 + 1 - 0) = (RK.lst k m).length := by
    rw [show p - 1 + 1 - 0 = p by omega, cn_zero, ← HRP.out]; rfl
  rw [hall, hp1] at HC0
  rw [show lo + 1 - lo = 1 by omega] at HC5
  clear hall hp1
  obtain ⟨T1, hT1⟩ : ∃ t, RK.cn m lo (mid + 1 - lo) = t := ⟨_, rfl⟩
  obtain ⟨T2, hT2⟩ : ∃ t, RK.cn m lo (hi + 1 - lo) = t := ⟨_, rfl⟩
  obtain ⟨T4, hT4⟩ : ∃ t, RK.cn m hi (lo + 1 - hi) = t := ⟨_, rfl⟩
  have b1 := RK.cn_le m lo (mid + 1 - lo)
  have b2 := RK.cn_le m lo (hi + 1 - lo)
  rw [hT1] at HC1 b1
  rw [hT2] at HC2 b2
  rw [hT4] at HC4
  have HT1 := Lib.hid hT1
  have HT2 := Lib.hid hT2
  have HT4 := Lib.hid (show ¬ lo = hi → T4 = 0 from fun h => by rw [← hT4, show lo + 1 - hi = 0 by omega]; rfl)
  obtain ⟨A, c, ev⟩ := (LI.own HB5.out.set).len
  obtain ⟨rfl, rfl, rfl⟩ : p1 = A ∧ p2 = (zs (RK.lst k m)).length ∧ p3 = c := by simpa using ev
  rw [zs_len] at HB5
  rw [zs_len]
  obtain ⟨L, hL⟩ : ∃ L, (RK.lst k m).length = L := ⟨_, rfl⟩
  rw [hL] at HC0 HB5
  rw [hL]
  clear ev hT1 hT2 hT4 hsup hL HM0 HM1 HM2
  have hc5 : RK.cn m lo 1 = if m lo = true then 1 else 0 := by rw [RK.cn, RK.cn, Nat.zero_add, Nat.add_zero]
  rw [hc5] at HC5
  clear hc5
  have q4 : mid < p := by omega
  obtain ⟨M, hM⟩ : ∃ M, m lo = M := ⟨_, rfl⟩
  rw [hM] at HC5 HHA
  clear hM
  go_wp2_with fail
  refine (HC0.out _ HB5.out.rack).mono ?_
  rintro e w6 ⟨rfl, hb⟩
  have B6 : Below w.heap.size w w6 := bl_call B5 hb B5.size
  have HB6 := Lib.hid (HB5.out.below hb)
  clear hb HB5
  go_wp2_with fail
  refine (HC1.out _ HB6.out.rack).mono ?_
  rintro e w7 ⟨rfl, hb⟩
  have B7 : Below w.heap.size w w7 := bl_call B6 hb B6.size
  have HB7 := Lib.hid (HB6.out.below hb)
  clear hb HB6
  go_wp2_with fail
  refine (HC2.out _ HB7.out.rack).mono ?_
  rintro e w8 ⟨rfl, hb⟩
  have B8 : Below w.heap.size w w8 := bl_call B7 hb B7.size
  have HB8 := Lib.hid (HB7.out.below hb)
  clear hb HB7
  cases M with
  | true =>
    rw [if_pos rfl] at HC5
    go_wp2_with fail
    refine (HC5.out _ HB8.out.rack).mono ?_
    rintro e w9 ⟨rfl, hb⟩
    have B9 : Below w.heap.size w w9 := bl_call B8 hb B8.size
    have HB9 := Lib.hid (HB8.out.below hb)
    clear hb HB8
    go_wp2_with fail
    refine (HHA.out _ HB9.out.rack).mono ?_
    rintro e w10 ⟨rfl, hb⟩
    have B10 : Below w.heap.size w w10 := bl_call B9 hb B9.size
    have HB10 := Lib.hid (HB9.out.below hb)
    clear hb HB9
    by_cases hmp : mid + 1 < p
    case pos =>
      have HC3 := Lib.hid (fun wx h => count_in k rb m v F (mid + 1) hi wx hk h (by rw [HRP.out]; exact hmp) (by rw [HRP.out]; omega))
      obtain ⟨T3, hT3⟩ : ∃ t, RK.cn m (mid + 1) (hi + 1 - (mid + 1)) = t := ⟨_, rfl⟩
      rw [hT3] at HC3
      have hsum : T1 + T3 = T2 := by
        rw [← HT1.out, ← HT2.out, ← hT3, show hi + 1 - lo = (mid + 1 - lo) + (hi + 1 - (mid + 1)) by omega, cn_add, show lo + (mid + 1 - lo) = mid + 1 by omega]
      have hs1 : (T1 : Int) + (T3 : Int) = (T2 : Int) := by omega
      clear hT3 hsum
      rw [show ((mid + 1 : Nat) : Int) = (mid : Int) + 1 by omega] at HC3
      go_wp2_with fail
      refine (HC3.out _ HB10.out.rack).mono ?_
      rintro e w11 ⟨rfl, hb⟩
      have B11 : Below w.heap.size w w11 := bl_call B10 hb B10.size
      have HB11 := Lib.hid (HB10.out.below hb)
      clear hb HB10
      go_wp2_with fail
      refine (HC4.out _ HB11.out.rack).mono ?_
      rintro e w20 ⟨rfl, hb⟩
      have B20 : Below w.heap.size w w20 := bl_call B11 hb B11.size
      have HB20 := Lib.hid (HB11.out.below hb)
      clear hb HB11
      by_cases hlh : lo = hi
      · have e9 : ((lo : Int) == (hi : Int)) = true := by simp [hlh]
        go_wp2_with fail
        refine (awake_any _ (HT.out.below B20)).mono ?_
        rintro e w21 ⟨rfl, hb⟩
        have B21 : Below w.heap.size w w21 := bl_call B20 hb B20.size
        go_wp2_with fail
        go_ret
        exact ⟨rfl, B21⟩
      · have e9 : ((lo : Int) == (hi : Int)) = false := by simp; omega
        obtain rfl : T4 = 0 := HT4.out hlh
        go_wp2_with fail
        refine (awake_any _ (HT.out.below B20)).mono ?_
        rintro e w21 ⟨rfl, hb⟩
        have B21 : Below w.heap.size w w21 := bl_call B20 hb B20.size
        go_wp2_with fail
        go_ret
        exact ⟨rfl, B21⟩
    case neg =>
      go_wp2_with fail
      refine (HC4.out _ HB10.out.rack).mono ?_
      rintro e w20 ⟨rfl, hb⟩
      have B20 : Below w.heap.size w w20 := bl_call B10 hb B10.size
      have HB20 := Lib.hid (HB10.out.below hb)
      clear hb HB10
      by_cases hlh : lo = hi
      · have e9 : ((lo : Int) == (hi : Int)) = true := by simp [hlh]
        go_wp2_with fail
        refine (awake_any _ (HT.out.below B20)).mono ?_
        rintro e w21 ⟨rfl, hb⟩
        have B21 : Below w.heap.size w w21 := bl_call B20 hb B20.size
        go_wp2_with fail
        go_ret
        exact ⟨rfl, B21⟩
      · have e9 : ((lo : Int) == (hi : Int)) = false := by simp; omega
        obtain rfl : T4 = 0 := HT4.out hlh
        go_wp2_with fail
        refine (awake_any _ (HT.out.below B20)).mono ?_
        rintro e w21 ⟨rfl, hb⟩
        have B21 : Below w.heap.size w w21 := bl_call B20 hb B20.size
        go_wp2_with fail
        go_ret
        exact ⟨rfl, B21⟩
  | false =>
    rw [if_neg (by decide)] at HC5
    go_wp2_with fail
    refine (HC5.out _ HB8.out.rack).mono ?_
    rintro e w9 ⟨rfl, hb⟩
    have B9 : Below w.heap.size w w9 := bl_call B8 hb B8.size
    have HB9 := Lib.hid (HB8.out.below hb)
    clear hb HB8
    go_wp2_with fail
    refine (HHA.out _ HB9.out.rack).mono ?_
    rintro e w10 ⟨rfl, hb⟩
    have B10 : Below w.heap.size w w10 := bl_call B9 hb B9.size
    have HB10 := Lib.hid (HB9.out.below hb)
    clear hb HB9
    by_cases hmp : mid + 1 < p
    case pos =>
      have HC3 := Lib.hid (fun wx h => count_in k rb m v F (mid + 1) hi wx hk h (by rw [HRP.out]; exact hmp) (by rw [HRP.out]; omega))
      obtain ⟨T3, hT3⟩ : ∃ t, RK.cn m (mid + 1) (hi + 1 - (mid + 1)) = t := ⟨_, rfl⟩
      rw [hT3] at HC3
      have hsum : T1 + T3 = T2 := by
        rw [← HT1.out, ← HT2.out, ← hT3, show hi + 1 - lo = (mid + 1 - lo) + (hi + 1 - (mid + 1)) by omega, cn_add, show lo + (mid + 1 - lo) = mid + 1 by omega]
      have hs1 : (T1 : Int) + (T3 : Int) = (T2 : Int) := by omega
      clear hT3 hsum
      rw [show ((mid + 1 : Nat) : Int) = (mid : Int) + 1 by omega] at HC3
      go_wp2_with fail
      refine (HC3.out _ HB10.out.rack).mono ?_
      rintro e w11 ⟨rfl, hb⟩
      have B11 : Below w.heap.size w w11 := bl_call B10 hb B10.size
      have HB11 := Lib.hid (HB10.out.below hb)
      clear hb HB10
      go_wp2_with fail
      refine (HC4.out _ HB11.out.rack).mono ?_
      rintro e w20 ⟨rfl, hb⟩
      have B20 : Below w.heap.size w w20 := bl_call B11 hb B11.size
      have HB20 := Lib.hid (HB11.out.below hb)
      clear hb HB11
      by_cases hlh : lo = hi
      · have e9 : ((lo : Int) == (hi : Int)) = true := by simp [hlh]
        go_wp2_with fail
        refine (awake_any _ (HT.out.below B20)).mono ?_
        rintro e w21 ⟨rfl, hb⟩
        have B21 : Below w.heap.size w w21 := bl_call B20 hb B20.size
        go_wp2_with fail
        go_ret
        exact ⟨rfl, B21⟩
      · have e9 : ((lo : Int) == (hi : Int)) = false := by simp; omega
        obtain rfl : T4 = 0 := HT4.out hlh
        go_wp2_with fail
        refine (awake_any _ (HT.out.below B20)).mono ?_
        rintro e w21 ⟨rfl, hb⟩
        have B21 : Below w.heap.size w w21 := bl_call B20 hb B20.size
        go_wp2_with fail
        go_ret
        exact ⟨rfl, B21⟩
    case neg =>
      go_wp2_with fail
      refine (HC4.out _ HB10.out.rack).mono ?_
      rintro e w20 ⟨rfl, hb⟩
      have B20 : Below w.heap.size w w20 := bl_call B10 hb B10.size
      have HB20 := Lib.hid (HB10.out.below hb)
      clear hb HB10
      by_cases hlh : lo = hi
      · have e9 : ((lo : Int) == (hi : Int)) = true := by simp [hlh]
        go_wp2_with fail
        refine (awake_any _ (HT.out.below B20)).mono ?_
        rintro e w21 ⟨rfl, hb⟩
        have B21 : Below w.heap.size w w21 := bl_call B20 hb B20.size
        go_wp2_with fail
        go_ret
        exact ⟨rfl, B21⟩
      · have e9 : ((lo : Int) == (hi : Int)) = false := by simp; omega
        obtain rfl : T4 = 0 := HT4.out hlh
        go_wp2_with fail
        refine (awake_any _ (HT.out.below B20)).mono ?_
        rintro e w21 ⟨rfl, hb⟩
        have B21 : Below w.heap.size w w21 := bl_call B20 hb B20.size
        go_wp2_with fail
        go_ret
        exact ⟨rfl, B21⟩
namespace rackCounted
open Go.ChangeShapes Go.WideShapes Go.ChangeAt Go.RowKit
open Go.Lib Go.Joins
set_option maxRecDepth 100000 in
theorem contract (H : Type) (enc : TypeId × Value → H) (W : World) (base : Nat) (args : Array Value) (ds gs : List (DataW H)) (before : List MemPlace)
    (hval : ∀ (j : Nat) t v, Tryd.f7.params[j]? = some t → args[j]? = some v → Value.okWide Tryd.prog W .any base t v)
    (hW : DataW.Whole enc Tryd.prog Tryd.f7.params.toList Rows.rackCountedSpec.vars false W args.toList ds gs before) (hL : laidMetH Tryd.prog tabs W) :
    Calls Tryd.prog 7 args W fun e W' => ∃ v, e = .returned v ∧ Rows.rackCountedSpec.post enc Tryd.prog Tryd.f7 false true false false W args v W' := by
  have hW' := hW
  obtain ⟨p, q, hA0, hV, rfl, hfz, hnd⟩ := hW
  have hA : DataW.TrodAll enc Tryd.prog W 0 (fun _ => true) true Tryd.f7.params.toList args.toList ds p := hA0
  rw [Tryd.params7] at hA hval
  obtain ⟨v0, vs0, d0, ds0, p0, q0, hargs, rfl, rfl, h0, r0⟩ := trodAll_cons hA
  obtain ⟨v1, vs1, d1, ds1, p1, q1, rfl, rfl, rfl, h1, r1⟩ := trodAll_cons r0
  obtain ⟨v2, vs2, d2, ds2, p2, q2, rfl, rfl, rfl, h2, r2⟩ := trodAll_cons r1
  obtain ⟨v3, vs3, d3, ds3, p3, q3, rfl, rfl, rfl, h3, r3⟩ := trodAll_cons r2
  obtain ⟨v4, vs4, d4, ds4, p4, q4, rfl, rfl, rfl, h4, r4⟩ := trodAll_cons r3
  obtain ⟨rfl, rfl, rfl⟩ := trodAll_nil r4
  obtain rfl : args = #[v0, v1, v2, v3, v4] := by cases args; simp_all
  obtain ⟨rfl, rfl⟩ := trodVars_none hV
  obtain ⟨x0, rfl, rfl, rfl, wx0⟩ := open_int Tryd.underlying3 (hval 0 3 v0 rfl rfl) h0
  obtain ⟨x1, li1, wx1⟩ := LI_of (hval 1 23 v1 rfl rfl) h1
  have lt1 : ∀ x ∈ p1, x.block < W.heap.size := by obtain ⟨fuel, hf⟩ := h1; exact DataW.trod_lt fuel _ _ _ hf
  obtain ⟨x2, rfl, rfl, rfl, wx2⟩ := open_int Tryd.underlying3 (hval 2 3 v2 rfl rfl) h2
  obtain ⟨x3, rfl, rfl, rfl, wx3⟩ := open_int Tryd.underlying3 (hval 3 3 v3 rfl rfl) h3
  obtain ⟨x4, rfl, rfl, rfl, wx4⟩ := open_int Tryd.underlying3 (hval 4 3 v4 rfl rfl) h4
  clear hA0
  try simp only [List.append_nil] at hW'
  refine (show Calls Tryd.prog 7 _ W _ from (RackCounted_walk x0 v1 x1 x2 x3 x4 W (tab_of hL) (inI wx0) li1 wx1 (inI wx2) (inI wx3) (inI wx4))).mono fun e W' ⟨he, hb⟩ => ?_
  subst he
  exact ⟨_, rfl, _, _, _, _, _, _, hW', trodAll_mk1 (shut_bool Tryd.underlying4 _), trodAll_cons_mk (shut_int Tryd.underlying3 wx0) (trodAll_cons_mk (Below.trod laidOut (by kernel_rfl) (of_decide_eq_true (by kernel_rfl)) h1 hb lt1) (trodAll_cons_mk (shut_int Tryd.underlying3 wx2) (trodAll_cons_mk (shut_int Tryd.underlying3 wx3) (trodAll_cons_mk (shut_int Tryd.underlying3 wx4) (trodAll_mk0))))), rfl, hb.frame _, fun h => by cases h⟩
theorem reads (os : Os) {H : Type} (enc : TypeId × Value → H) : ∃ places, DataW.whole enc Tryd.prog ((laidWorld os).forCall (fun _ _ => 0) ⟨#[], #[.int .i64 0, .slice none 0 0, .int .i64 0, .int .i64 0, .int .i64 0], []⟩).memory Tryd.f7.params.toList Rows.rackCountedSpec.vars false (#[.int .i64 0, .slice none 0 0, .int .i64 0, .int .i64 0, .int .i64 0] : Array Value).toList 8 = some ([.lit (.int .i64 0), .nil, .lit (.int .i64 0), .lit (.int .i64 0), .lit (.int .i64 0)], [], places) :=
  ⟨[], by kernel_rfl⟩
set_option maxRecDepth 100000 in
theorem lifted (os : Os) (started : os.Started) (H : Type) (enc : TypeId × Value → H) (F : Stop.Interp) :
    ReturnsInHanded {} Tryd.checked os 7 .any ((OpenSpec.ofChange Rows.rackCountedSpec).preRow enc Tryd.prog Tryd.f7 Rows.rackCountedRow.domain false Rows.rackCountedRow.laid) (((OpenSpec.ofChange Rows.rackCountedSpec).at F).post enc Tryd.prog Tryd.f7 false true false false) := by
  obtain ⟨places, hx⟩ := reads os enc
  refine returnsInHanded_of_row (C := Tryd.checked) (s := OpenSpec.ofChange Rows.rackCountedSpec) own started (by kernel_rfl) Tryd.func7
    (witness_row_at (enc := enc) (C := Tryd.checked) false (laidWorld os) #[.int .i64 0, .slice none 0 0, .int .i64 0, .int .i64 0, .int .i64 0] rfl (by kernel_rfl) (by kernel_rfl) (by kernel_rfl)
      (OpenSpec.preRow_of_cond 8 hx (by kernel_rfl) (fun k hk => by cases hk) (by kernel_rfl) (laid_met os _))) ?_
  intro W base args ds gs before hval hW _ _ _ hL _ _
  exact contract H enc W base args ds gs before hval hW hL
theorem said : Rows.RackCountedSaid :=
  OpenClaim.holds_of_cond 7 Tryd.f7 rfl rfl rfl rfl rfl rfl rfl ⟨rfl, rfl, rfl, rfl, rfl⟩ rfl rfl rfl rfl rfl (by kernel_rfl) Tryd.func7 (by kernel_rfl)
    (of_decide_eq_true (by kernel_rfl)) (by unfold Func.isWrapper; first | (rw [if_pos (by decide +kernel)]; kernel_rfl) | (rw [if_neg (by decide +kernel)]; exact ⟨rfl, rfl⟩))
    (fun os started H enc _ F => by rw [OpenClaim.pre_eq_preRow]; exact lifted os started H enc F)
theorem plain (f : FuncId) (fn : Func) (hf : Tryd.pinned.checked.prog.funcNamed "remould/remouldlaw07.RackCounted" = some f) (hfn : Tryd.pinned.checked.prog.funcs[f]? = some fn) :
    true = Tryd.pinned.checked.prog.looks [] ∧ ∀ (j : Nat) t, fn.params[j]? = some t → Tryd.pinned.checked.prog.wantsStandIn t = false := by
  obtain rfl : f = 7 := Option.some.inj ((show Tryd.prog.funcNamed "remould/remouldlaw07.RackCounted" = some 7 by kernel_rfl).symm.trans hf) |>.symm
  obtain rfl : fn = Tryd.f7 := (Option.some.inj (Tryd.func7.symm.trans hfn)).symm
  refine ⟨by kernel_rfl, fun j t ht => ?_⟩
  rw [Tryd.params7] at ht
  have hm : t ∈ [3, 23, 3, 3, 3] := by simpa using Array.mem_of_getElem? ht
  have hall : ([3, 23, 3, 3, 3].all fun u => !Tryd.prog.wantsStandIn u) = true := by kernel_rfl
  exact (show Tryd.prog.wantsStandIn t = false by simpa using List.all_eq_true.1 hall t (by simpa using hm))
theorem card : Rows.RackCountedCardSaid :=
  Claim7.holds_tied_plain_at .later [] _ _ _ _ said (fun _ h => by cases h) (by kernel_rfl) (fun _ h => by cases h) rackCounted_row_tie rfl ⟨rfl, rfl⟩ (by kernel_rfl) rfl plain (by kernel_rfl)
end rackCounted
theorem RackCounted_holds : Rows.RackCountedCardSaid := rackCounted.card
end Go.Proofs.YtpnfmbeccjehiaaDoor
