/- RackBack: for every two ints and every list the law returns true. -/
import Derived.Test.YtpnfmbeccjehiaaDoorZ8
import Derived.Test.YtpnfmbeccjehiaaDoorN12
namespace Go.Proofs.YtpnfmbeccjehiaaDoor
open Go.RowKit Go.Proofs.YtpnfmbeccjehiaaDoorW.PrintWords Go.Proofs.YtpnfmbeccjehiaaDoorW.PrintLast Go.Proofs.YtpnfmbeccjehiaaDoorW.PrintMore
attribute [local go_sem ↓] Go.wp_at_zero Go.wp_at_succ

theorem ob_len (a : Option Addr) (n n' c : Nat) : (Value.slice a n c).ownBlock = (Value.slice a n' c).ownBlock := by cases a <;> rfl
set_option maxRecDepth 100000 in
set_option maxHeartbeats 16000000 in
theorem RackBack_walk (o : Int) (a : Value) (xs : List Int) (x : Int) (w : World) (ht : Tab w) (ho : -9223372036854775808 ≤ o ∧ o ≤ 9223372036854775807) (ha : LI w a xs) (hr : ∀ x ∈ xs, -9223372036854775808 ≤ x ∧ x ≤ 9223372036854775807) (hx : -9223372036854775808 ≤ x ∧ x ≤ 9223372036854775807) :
    Calls Tryd.prog 4 #[.int .i64 o, a, .int .i64 x] w fun e w' => e = .returned (.bool true) ∧ Below w.heap.size w w' := by
  have HT := Lib.hid ht
  have HFL := Lib.hid (filled_any o a xs w ho ha hr)
  clear ht ha hr ho
  go_enter Tryd.func4, Tryd.ntmps4
  go_wp2_with fail
  refine HFL.out.mono ?_
  rintro e w1 ⟨k, rb, v, F, sv, rfl, -, hk, hB, B1⟩
  obtain ⟨m, hm⟩ : ∃ m, RK.fil k (xs.take 256) = m := ⟨_, rfl⟩
  rw [hm] at hB
  have hR := RK.R_le hk
  have hmb := modZ_bd x 4 (by omega)
  obtain ⟨o2, hy⟩ : ∃ y : Nat, modZ x 4 = y := ⟨(modZ x 4).toNat, by omega⟩
  have hM := fun wx => mod_any x 4 wx (by omega) (by omega) hx.1 hx.2
  rw [hy] at hM hmb
  have ho3 : o2 ≤ 3 := by omega
  have HM := Lib.hid hM
  have HB1 := Lib.hid hB
  have hsup := hB.rack.2.1.supp
  have HSUP := Lib.hid hsup
  have hsl : (RK.shT k m).length ≤ 1000000 := by have := RK.shT_len k m hk hsup; have := RK.tL_le hk; omega
  have HRD := Lib.hid (fun wx ht => Read_yes k (RK.shT k m) m wx hk hsl ht (RK.readOf_shT hk hsup))
  have HSH := Lib.hid (fun wx h ht => shape_any k rb m v F wx hk h ht)
  have HRN := Lib.hid (fun wx ht h => Read_no o2 (RK.shT k m) wx ho3 hsl ht h)
  have HRY := Lib.hid (fun m' wx ht h => Read_yes o2 (RK.shT k m) m' wx ho3 hsl ht h)
  obtain ⟨p1, p2, p3, rfl⟩ := own_form hB.set
  obtain ⟨s, hst⟩ : ∃ s : ByteArray, s = ⟨(RK.shT k m).toArray⟩ := ⟨_, rfl⟩
  rw [← hst] at HRD HSH HRN HRY
  have HST := Lib.hid hst
  clear hm hM hB hx HFL hy hsup hst hsl hmb
  go_wp2_with fail
  refine (HSH.out _ HB1.out.rack (HT.out.below B1)).mono ?_
  rintro e w2 ⟨rfl, hb⟩
  have B2 : Below w.heap.size w w2 := bl_call B1 hb B1.size
  have HB2 := Lib.hid (HB1.out.below hb)
  clear hb HB1
  go_wp2_with fail
  refine (HRD.out _ (HT.out.below B2)).mono ?_
  rintro e w3 ⟨rv, rfl, hO, hb⟩
  have B3 : Below w.heap.size w w3 := bl_call B2 hb B2.size
  have HB3 := Lib.hid (HB2.out.below hb)
  have HO3 := Lib.hid (show w3.ownsRow w.heap.size 3 1 rv (RK.lst k m).length (ints (RK.lst k m)) from own_lower hO B2.size)
  obtain ⟨q1, q2, q3, rfl⟩ := own_form hO
  clear hb HB2 hO
  go_wp2_with fail
  refine (HM.out _).mono ?_
  rintro e w4 ⟨rfl, hb⟩
  have B4 : Below w.heap.size w w4 := bl_call B3 hb B3.size
  have HB4 := Lib.hid (HB3.out.below hb)
  have HO4 := Lib.hid (own_below HO3.out hb)
  clear hb HB3 HO3
  have hl6 : (zs (RK.lst k m)).length ≤ 1000000 := by rw [zs_len]; have := RK.lst_len k m; omega
  cases hro : RK.readOf o2 (RK.shT k m) with
  | none =>
    go_wp2_with fail
    refine (HRN.out _ (HT.out.below B4) hro).mono ?_
    rintro e w5 ⟨rfl, hb⟩
    have B5 : Below w.heap.size w w5 := bl_call B4 hb B4.size
    have HB5 := Lib.hid (HB4.out.below hb)
    have HO5 := Lib.hid (own_below HO4.out hb)
    clear hb HB4 HO4 hro
    go_wp2_with fail
    refine (ints_any _ _ _ _ w5 (LI.own HO5.out) (LI.own HB5.out.set) hl6).mono ?_
    rintro e w6 ⟨rfl, hb⟩
    rw [decide_eq_true rfl]
    have B6 : Below w.heap.size w w6 := bl_call B5 hb B5.size
    have HO6 := Lib.hid (own_below HO5.out hb)
    clear hb HO5 HB5
    go_wp2_with fail
    refine (new_ok k w6 hk).mono ?_
    rintro e w8 ⟨rq, rfl, hq, hrq, hb⟩
    have B8 : Below w.heap.size w w8 := bl_call B6 hb B6.size
    have zz8 := B6.size
    have HQ0 := Lib.hid (show RackIs w8 rq k (RK.setOf ((RK.lst k m).take 0)) (vE ty) (fun _ => False) by
      rw [List.take_zero, show RK.setOf [] = (fun _ => false) from funext fun x => by simp [RK.setOf]]; exact hq)
    have HS8 := Lib.hid (own_below HO6.out hb)
    have hrq2 : w.heap.size ≤ rq := by omega
    clear hq hb
    have hlo := (own_lt2 HS8.out)
    have hlen : (RK.lst k m).length ≤ 256 := by have := RK.lst_len k m; omega
    obtain ⟨r1, r2, r3, e8⟩ := own_form HS8.out
    obtain ⟨A, c, e9⟩ := (LI.own HS8.out).len
    obtain ⟨rfl, rfl, rfl⟩ : q1 = A ∧ q2 = (zs (RK.lst k m)).length ∧ q3 = c := by simpa using e9
    clear e8 e9
    rw [zs_len] at HS8
    simp only [zs_len]
    obtain ⟨n, hn⟩ : ∃ n, (RK.lst k m).length = n := ⟨_, rfl⟩
    have HN := Lib.hid hn
    rw [hn] at hlen
    rw [hn]
    have HAP := Lib.hid (show ∀ q, (Value.slice q1 n q3).ownBlock = some q → q < rq from fun q hq2 => by
      have := (own_lt2 HO6.out q ((ob_len _ _ _ _).trans hq2)).2; omega)
    have HS8' := Lib.hid (show w8.ownsRow w.heap.size 3 1 (.slice q1 n q3) (RK.lst k m).length (ints (RK.lst k m)) by have := HS8.out; rw [hn] at this; rw [hn]; exact this)
    clear hn HS8 hlo
    go_upto_region 10 with fail
    go_loopw [17] (fun i wr => ∃ (j : Nat) (vq : Value) (Fq : Nat → Prop), i = .int .i64 j ∧ j ≤ n ∧ Hid (RackIs wr rq k (RK.setOf ((RK.lst k m).take j)) vq Fq) ∧ Hid (∀ c, Fq c → rq ≤ c) ∧ Hid (wr.ownsRow w.heap.size 3 1 (.slice q1 n q3) (RK.lst k m).length (ints (RK.lst k m))) ∧ Below w.heap.size w wr) (fun i _ => n - (intOf i).toNat)
    case atStart => exact ⟨0, _, _, (by simp), by omega, HQ0, Lib.hid (fun _ h => False.elim h), HS8', B8⟩
    case round =>
      obtain ⟨j, vq, Fq, rfl, hj, HQ, HFq, HSr, B⟩ := hrel
      have zr := B.size
      by_cases hjl : j < n
      · obtain ⟨y, hy⟩ : ∃ y, (RK.lst k m)[j]? = some y := ⟨(RK.lst k m)[j]'(by have := HN.out; omega), by have := HN.out; simp [show j < (RK.lst k m).length by omega]⟩
        obtain ⟨ad, rfl, hc⟩ := LI.cell (LI.own HSr.out) (j := j) (x := (y : Int)) (by simp [zs, hy])
        have hyk := HSUP.out y ((RK.mem_lst HSUP.out y).1 (List.mem_of_getElem? hy))
        have HTK := Lib.hid (show RK.setOf ((RK.lst k m).take (j + 1)) = RK.ins (RK.setOf ((RK.lst k m).take j)) y by
          rw [List.take_add_one, hy, Option.toList_some, RK.setOf_ins])
        have HYK := Lib.hid hyk
        clear hy hyk
        go_wp2_with fail
        refine (insert_any2 k rq _ vq Fq y wr hk HQ.out HYK.out).mono ?_
        rintro e w9 ⟨rfl, v9, F9, hR9, hB9, hF9⟩
        have HR9 := Lib.hid (show RackIs w9 rq k (RK.setOf ((RK.lst k m).take (j + 1))) v9 F9 by rw [HTK.out]; exact hR9)
        have B9 : Below w.heap.size w w9 := hB9.below B B.size (fun c hc => by
          rcases hc with h | h
          · omega
          · have := HFq.out c h; omega)
        have HS9 := Lib.hid (own_belP HSr.out hB9 (fun q hq h => by
          have h1 := HAP.out q hq
          rcases h with h | h
          · omega
          · have := HFq.out q h; omega))
        have HF9 := Lib.hid (show ∀ c, F9 c → rq ≤ c from fun c hc => by
          have := blk_lt HQ.out.1
          rcases hF9 c hc with h | h
          · exact HFq.out c h
          · omega)
        clear hR9 hB9 hF9
        go_wp2_with fail
        go_roundw
        case rel => exact ⟨j + 1, v9, F9, (by simp), by omega, HR9, HF9, HS9, B9⟩
        case measure => simp [intOf]; omega
      · obtain rfl : j = n := by omega
        have HQm := Lib.hid (show RackIs wr rq k m vq Fq by
          have := HQ.out
          rw [List.take_of_length_le (by have := HN.out; omega), RK.setOf_lst HSUP.out] at this
          exact this)
        go_wp2_with fail
        refine (shape_any k rq m vq Fq wr hk HQm.out (HT.out.below B)).mono ?_
        rw [← HST.out]
        rintro e w9 ⟨rfl, hb⟩
        have B9 : Below w.heap.size w w9 := bl_call B hb B.size
        clear hb
        go_wp2_with fail
        refine (awake_any _ (HT.out.below B9)).mono ?_
        rintro e w10 ⟨rfl, hb⟩
        have B10 : Below w.heap.size w w10 := bl_call B9 hb B9.size
        go_wp2_with fail
        go_ret
        exact ⟨rfl, B10⟩
  | some m' =>
    have hlo := RK.readOf_other ho3 hk HSUP.out hro
    go_wp2_with fail
    refine (HRY.out _ _ (HT.out.below B4) hro).mono ?_
    rintro e w5 ⟨sv2, rfl, hO2, hb⟩
    rw [hlo] at hO2
    have B5 : Below w.heap.size w w5 := bl_call B4 hb B4.size
    have HB5 := Lib.hid (HB4.out.below hb)
    have HO5 := Lib.hid (own_below HO4.out hb)
    have HA5 := Lib.hid (LI.own hO2)
    obtain ⟨u1, u2, u3, rfl⟩ := own_form hO2
    clear hb HB4 HO4 hro hlo hO2
    go_wp2_with fail
    refine (ints_any _ _ _ _ w5 (LI.own HO5.out) (LI.own HB5.out.set) hl6).mono ?_
    rintro e w6 ⟨rfl, hb⟩
    rw [decide_eq_true rfl]
    have B6 : Below w.heap.size w w6 := bl_call B5 hb B5.size
    have HO6 := Lib.hid (own_below HO5.out hb)
    have HA6 := Lib.hid (HA5.out.below hb)
    have HB6 := Lib.hid (HB5.out.below hb)
    clear hb HO5 HB5 HA5
    go_wp2_with fail
    refine (ints_any _ _ _ _ w6 HA6.out (LI.own HB6.out.set) hl6).mono ?_
    rintro e w7 ⟨rfl, hb⟩
    rw [decide_eq_true rfl]
    have B7 : Below w.heap.size w w7 := bl_call B6 hb B6.size
    have HO7 := Lib.hid (own_below HO6.out hb)
    clear hb HO6 HB6 HA6
    go_wp2_with fail
    refine (new_ok k w7 hk).mono ?_
    rintro e w8 ⟨rq, rfl, hq, hrq, hb⟩
    have B8 : Below w.heap.size w w8 := bl_call B7 hb B7.size
    have zz8 := B7.size
    have HQ0 := Lib.hid (show RackIs w8 rq k (RK.setOf ((RK.lst k m).take 0)) (vE ty) (fun _ => False) by
      rw [List.take_zero, show RK.setOf [] = (fun _ => false) from funext fun x => by simp [RK.setOf]]; exact hq)
    have HS8 := Lib.hid (own_below HO7.out hb)
    have hrq2 : w.heap.size ≤ rq := by omega
    clear hq hb
    have hlo := (own_lt2 HS8.out)
    have hlen : (RK.lst k m).length ≤ 256 := by have := RK.lst_len k m; omega
    obtain ⟨r1, r2, r3, e8⟩ := own_form HS8.out
    obtain ⟨A, c, e9⟩ := (LI.own HS8.out).len
    obtain ⟨rfl, rfl, rfl⟩ : q1 = A ∧ q2 = (zs (RK.lst k m)).length ∧ q3 = c := by simpa using e9
    clear e8 e9
    rw [zs_len] at HS8
    simp only [zs_len]
    obtain ⟨n, hn⟩ : ∃ n, (RK.lst k m).length = n := ⟨_, rfl⟩
    have HN := Lib.hid hn
    rw [hn] at hlen
    rw [hn]
    have HAP := Lib.hid (show ∀ q, (Value.slice q1 n q3).ownBlock = some q → q < rq from fun q hq2 => by
      have := (own_lt2 HO7.out q ((ob_len _ _ _ _).trans hq2)).2; omega)
    have HS8' := Lib.hid (show w8.ownsRow w.heap.size 3 1 (.slice q1 n q3) (RK.lst k m).length (ints (RK.lst k m)) by have := HS8.out; rw [hn] at this; rw [hn]; exact this)
    clear hn HS8 hlo
    go_upto_region 10 with fail
    go_loopw [17] (fun i wr => ∃ (j : Nat) (vq : Value) (Fq : Nat → Prop), i = .int .i64 j ∧ j ≤ n ∧ Hid (RackIs wr rq k (RK.setOf ((RK.lst k m).take j)) vq Fq) ∧ Hid (∀ c, Fq c → rq ≤ c) ∧ Hid (wr.ownsRow w.heap.size 3 1 (.slice q1 n q3) (RK.lst k m).length (ints (RK.lst k m))) ∧ Below w.heap.size w wr) (fun i _ => n - (intOf i).toNat)
    case atStart => exact ⟨0, _, _, (by simp), by omega, HQ0, Lib.hid (fun _ h => False.elim h), HS8', B8⟩
    case round =>
      obtain ⟨j, vq, Fq, rfl, hj, HQ, HFq, HSr, B⟩ := hrel
      have zr := B.size
      by_cases hjl : j < n
      · obtain ⟨y, hy⟩ : ∃ y, (RK.lst k m)[j]? = some y := ⟨(RK.lst k m)[j]'(by have := HN.out; omega), by have := HN.out; simp [show j < (RK.lst k m).length by omega]⟩
        obtain ⟨ad, rfl, hc⟩ := LI.cell (LI.own HSr.out) (j := j) (x := (y : Int)) (by simp [zs, hy])
        have hyk := HSUP.out y ((RK.mem_lst HSUP.out y).1 (List.mem_of_getElem? hy))
        have HTK := Lib.hid (show RK.setOf ((RK.lst k m).take (j + 1)) = RK.ins (RK.setOf ((RK.lst k m).take j)) y by
          rw [List.take_add_one, hy, Option.toList_some, RK.setOf_ins])
        have HYK := Lib.hid hyk
        clear hy hyk
        go_wp2_with fail
        refine (insert_any2 k rq _ vq Fq y wr hk HQ.out HYK.out).mono ?_
        rintro e w9 ⟨rfl, v9, F9, hR9, hB9, hF9⟩
        have HR9 := Lib.hid (show RackIs w9 rq k (RK.setOf ((RK.lst k m).take (j + 1))) v9 F9 by rw [HTK.out]; exact hR9)
        have B9 : Below w.heap.size w w9 := hB9.below B B.size (fun c hc => by
          rcases hc with h | h
          · omega
          · have := HFq.out c h; omega)
        have HS9 := Lib.hid (own_belP HSr.out hB9 (fun q hq h => by
          have h1 := HAP.out q hq
          rcases h with h | h
          · omega
          · have := HFq.out q h; omega))
        have HF9 := Lib.hid (show ∀ c, F9 c → rq ≤ c from fun c hc => by
          have := blk_lt HQ.out.1
          rcases hF9 c hc with h | h
          · exact HFq.out c h
          · omega)
        clear hR9 hB9 hF9
        go_wp2_with fail
        go_roundw
        case rel => exact ⟨j + 1, v9, F9, (by simp), by omega, HR9, HF9, HS9, B9⟩
        case measure => simp [intOf]; omega
      · obtain rfl : j = n := by omega
        have HQm := Lib.hid (show RackIs wr rq k m vq Fq by
          have := HQ.out
          rw [List.take_of_length_le (by have := HN.out; omega), RK.setOf_lst HSUP.out] at this
          exact this)
        go_wp2_with fail
        refine (shape_any k rq m vq Fq wr hk HQm.out (HT.out.below B)).mono ?_
        rw [← HST.out]
        rintro e w9 ⟨rfl, hb⟩
        have B9 : Below w.heap.size w w9 := bl_call B hb B.size
        clear hb
        go_wp2_with fail
        refine (awake_any _ (HT.out.below B9)).mono ?_
        rintro e w10 ⟨rfl, hb⟩
        have B10 : Below w.heap.size w w10 := bl_call B9 hb B9.size
        go_wp2_with fail
        go_ret
        exact ⟨rfl, B10⟩
namespace rackBack
open Go.ChangeShapes Go.WideShapes Go.ChangeAt Go.RowKit
open Go.Lib Go.Joins
set_option maxRecDepth 100000 in
theorem contract (H : Type) (enc : TypeId × Value → H) (W : World) (base : Nat) (args : Array Value) (ds gs : List (DataW H)) (before : List MemPlace)
    (hval : ∀ (j : Nat) t v, Tryd.f4.params[j]? = some t → args[j]? = some v → Value.okWide Tryd.prog W .any base t v)
    (hW : DataW.Whole enc Tryd.prog Tryd.f4.params.toList Rows.rackBackSpec.vars false W args.toList ds gs before) (hL : laidMetH Tryd.prog tabs W) :
    Calls Tryd.prog 4 args W fun e W' => ∃ v, e = .returned v ∧ Rows.rackBackSpec.post enc Tryd.prog Tryd.f4 false true false false W args v W' := by
  have hW' := hW
  obtain ⟨p, q, hA0, hV, rfl, hfz, hnd⟩ := hW
  have hA : DataW.TrodAll enc Tryd.prog W 0 (fun _ => true) true Tryd.f4.params.toList args.toList ds p := hA0
  rw [Tryd.params4] at hA hval
  obtain ⟨v0, vs0, d0, ds0, p0, q0, hargs, rfl, rfl, h0, r0⟩ := trodAll_cons hA
  obtain ⟨v1, vs1, d1, ds1, p1, q1, rfl, rfl, rfl, h1, r1⟩ := trodAll_cons r0
  obtain ⟨v2, vs2, d2, ds2, p2, q2, rfl, rfl, rfl, h2, r2⟩ := trodAll_cons r1
  obtain ⟨rfl, rfl, rfl⟩ := trodAll_nil r2
  obtain rfl : args = #[v0, v1, v2] := by cases args; simp_all
  obtain ⟨rfl, rfl⟩ := trodVars_none hV
  obtain ⟨x0, rfl, rfl, rfl, wx0⟩ := open_int Tryd.underlying3 (hval 0 3 v0 rfl rfl) h0
  obtain ⟨x1, li1, wx1⟩ := LI_of (hval 1 23 v1 rfl rfl) h1
  have lt1 : ∀ x ∈ p1, x.block < W.heap.size := by obtain ⟨fuel, hf⟩ := h1; exact DataW.trod_lt fuel _ _ _ hf
  obtain ⟨x2, rfl, rfl, rfl, wx2⟩ := open_int Tryd.underlying3 (hval 2 3 v2 rfl rfl) h2
  clear hA0
  try simp only [List.append_nil] at hW'
  refine (show Calls Tryd.prog 4 _ W _ from (RackBack_walk x0 v1 x1 x2 W (tab_of hL) (inI wx0) li1 wx1 (inI wx2))).mono fun e W' ⟨he, hb⟩ => ?_
  subst he
  exact ⟨_, rfl, _, _, _, _, _, _, hW', trodAll_mk1 (shut_bool Tryd.underlying4 _), trodAll_cons_mk (shut_int Tryd.underlying3 wx0) (trodAll_cons_mk (Below.trod laidOut (by kernel_rfl) (of_decide_eq_true (by kernel_rfl)) h1 hb lt1) (trodAll_cons_mk (shut_int Tryd.underlying3 wx2) (trodAll_mk0))), rfl, hb.frame _, fun h => by cases h⟩
theorem reads (os : Os) {H : Type} (enc : TypeId × Value → H) : ∃ places, DataW.whole enc Tryd.prog ((laidWorld os).forCall (fun _ _ => 0) ⟨#[], #[.int .i64 0, .slice none 0 0, .int .i64 0], []⟩).memory Tryd.f4.params.toList Rows.rackBackSpec.vars false (#[.int .i64 0, .slice none 0 0, .int .i64 0] : Array Value).toList 8 = some ([.lit (.int .i64 0), .nil, .lit (.int .i64 0)], [], places) :=
  ⟨[], by kernel_rfl⟩
set_option maxRecDepth 100000 in
theorem lifted (os : Os) (started : os.Started) (H : Type) (enc : TypeId × Value → H) (F : Stop.Interp) :
    ReturnsInHanded {} Tryd.checked os 4 .any ((OpenSpec.ofChange Rows.rackBackSpec).preRow enc Tryd.prog Tryd.f4 Rows.rackBackRow.domain false Rows.rackBackRow.laid) (((OpenSpec.ofChange Rows.rackBackSpec).at F).post enc Tryd.prog Tryd.f4 false true false false) := by
  obtain ⟨places, hx⟩ := reads os enc
  refine returnsInHanded_of_row (C := Tryd.checked) (s := OpenSpec.ofChange Rows.rackBackSpec) own started (by kernel_rfl) Tryd.func4
    (witness_row_at (enc := enc) (C := Tryd.checked) false (laidWorld os) #[.int .i64 0, .slice none 0 0, .int .i64 0] rfl (by kernel_rfl) (by kernel_rfl) (by kernel_rfl)
      (OpenSpec.preRow_of_cond 8 hx (by kernel_rfl) (fun k hk => by cases hk) (by kernel_rfl) (laid_met os _))) ?_
  intro W base args ds gs before hval hW _ _ _ hL _ _
  exact contract H enc W base args ds gs before hval hW hL
theorem said : Rows.RackBackSaid :=
  OpenClaim.holds_of_cond 4 Tryd.f4 rfl rfl rfl rfl rfl rfl rfl ⟨rfl, rfl, rfl, rfl, rfl⟩ rfl rfl rfl rfl rfl (by kernel_rfl) Tryd.func4 (by kernel_rfl)
    (of_decide_eq_true (by kernel_rfl)) (by unfold Func.isWrapper; first | (rw [if_pos (by decide +kernel)]; kernel_rfl) | (rw [if_neg (by decide +kernel)]; exact ⟨rfl, rfl⟩))
    (fun os started H enc _ F => by rw [OpenClaim.pre_eq_preRow]; exact lifted os started H enc F)
theorem plain (f : FuncId) (fn : Func) (hf : Tryd.pinned.checked.prog.funcNamed "remould/remouldlaw07.RackBack" = some f) (hfn : Tryd.pinned.checked.prog.funcs[f]? = some fn) :
    true = Tryd.pinned.checked.prog.looks [] ∧ ∀ (j : Nat) t, fn.params[j]? = some t → Tryd.pinned.checked.prog.wantsStandIn t = false := by
  obtain rfl : f = 4 := Option.some.inj ((show Tryd.prog.funcNamed "remould/remouldlaw07.RackBack" = some 4 by kernel_rfl).symm.trans hf) |>.symm
  obtain rfl : fn = Tryd.f4 := (Option.some.inj (Tryd.func4.symm.trans hfn)).symm
  refine ⟨by kernel_rfl, fun j t ht => ?_⟩
  rw [Tryd.params4] at ht
  have hm : t ∈ [3, 23, 3] := by simpa using Array.mem_of_getElem? ht
  have hall : ([3, 23, 3].all fun u => !Tryd.prog.wantsStandIn u) = true := by kernel_rfl
  exact (show Tryd.prog.wantsStandIn t = false by simpa using List.all_eq_true.1 hall t (by simpa using hm))
theorem card : Rows.RackBackCardSaid :=
  Claim7.holds_tied_plain_at .later [] _ _ _ _ said (fun _ h => by cases h) (by kernel_rfl) (fun _ h => by cases h) rackBack_row_tie rfl ⟨rfl, rfl⟩ (by kernel_rfl) rfl plain (by kernel_rfl)
end rackBack
theorem RackBack_holds : Rows.RackBackCardSaid := rackBack.card
end Go.Proofs.YtpnfmbeccjehiaaDoor
