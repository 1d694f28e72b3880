/- RackTwins: for every int and every two lists the law returns true. -/
import Derived.Test.YtpnfmbeccjehiabDoorZB
import Derived.Test.YtpnfmbeccjehiabDoorZ8
namespace Go.Proofs.YtpnfmbeccjehiabDoor
open Go.RowKit Go.Proofs.YtpnfmbeccjehiabDoorW.PrintWords Go.Proofs.YtpnfmbeccjehiabDoorW.PrintLast Go.Proofs.YtpnfmbeccjehiabDoorW.PrintMore
attribute [local go_sem ↓] Go.wp_at_zero Go.wp_at_succ

set_option maxRecDepth 100000 in
set_option maxHeartbeats 8000000 in
theorem RackTwins_walk (o : Int) (a : Value) (xs : List Int) (b : Value) (ys : List Int) (w : World) (ht : Tab w) (ho : -9223372036854775808 ≤ o ∧ o ≤ 9223372036854775807) (ha : LI w a xs) (hr : ∀ x ∈ xs, -9223372036854775808 ≤ x ∧ x ≤ 9223372036854775807) (hb : LI w b ys) (hs : ∀ x ∈ ys, -9223372036854775808 ≤ x ∧ x ≤ 9223372036854775807) :
    Calls Tryd.prog 6 #[.int .i64 o, a, b] w fun e w' => e = .returned (.bool true) ∧ Below w.heap.size w w' := by
  have HT := Lib.hid ht
  have HFL := Lib.hid (filled_any o a xs w ho ha hr)
  obtain ⟨A, c, rfl⟩ := hb.len
  have HA := Lib.hid hb
  have hlen : ys.length ≤ 9223372036854775807 := by obtain ⟨_, _, _, _, h⟩ := hb; exact h.2.1
  have HX := Lib.hid hs
  clear ht ha hr ho hb hs
  go_enter Tryd.func6, Tryd.ntmps6
  go_wp2_with fail
  refine (HFL.out).mono ?_
  rintro e w1 ⟨k, rb, v, F, sv, rfl, -, hk, hB, B1⟩
  obtain ⟨m, hm⟩ : ∃ m, RK.fil k (xs.take 256) = m := ⟨_, rfl⟩
  rw [hm] at hB
  have hR := RK.R_le hk
  have hR0 := RK.R_pos k
  have HPL := Lib.hid (fun wx => refPlaces k wx hk)
  have HM := Lib.hid (fun (x : Int) wx h1 h2 => mod_any x (RK.R k) wx (by omega) (by omega) h1 h2)
  have HS1 := Lib.hid hB.set
  have HQ1 := Lib.hid hB.mine
  have HSUP := Lib.hid hB.rack.2.1.supp
  obtain ⟨p1, p2, p3, rfl⟩ := own_form hB.set
  obtain ⟨s, hst⟩ : ∃ s : ByteArray, s = ⟨(RK.shT k m).toArray⟩ := ⟨_, rfl⟩
  have HSH := Lib.hid (fun wx (h : Mine w.heap.size wx rb k m) ht => mine_shape hk h ht)
  rw [← hst] at HSH
  clear hm hB HFL hst
  go_wp2_with fail
  refine (HSH.out _ HQ1.out (HT.out.below B1)).mono ?_
  rintro e w2 ⟨rfl, hb⟩
  have B2 : Below w.heap.size w w2 := bl_call B1 hb B1.size
  have HQ2 := Lib.hid (HQ1.out.below hb)
  have HS2 := Lib.hid (own_below HS1.out hb)
  clear hb HQ1 HS1
  go_wp2_with fail
  refine (pair_new (w0 := w2) k hk (Below.refl _ _)).mono ?_
  rintro e w3 ⟨rq, rfl, hp, b3⟩
  have HP3 := Lib.hid hp
  clear hp
  obtain ⟨p, hp⟩ : ∃ p, RK.R k = p := ⟨_, rfl⟩
  have HP := Lib.hid hp
  rw [hp] at HPL HM hR hR0
  clear hp
  obtain ⟨n, hn⟩ : ∃ n, ys.length = n := ⟨_, rfl⟩
  have HNn := Lib.hid hn
  simp only [hn] at HA hlen ⊢
  clear hn
  go_upto_region 6 with fail
  go_loopw [12, 13] (fun sv i wr => ∃ (j : Nat) (M : RK.S), i = .int .i64 j ∧ j ≤ n ∧ j ≤ 256 ∧ Hid (Pair w2.heap.size wr rq k M M sv) ∧ Below w2.heap.size w2 wr) (fun _ i _ => n - (intOf i).toNat)
  case atStart => exact ⟨0, _, (by simp), by omega, by omega, HP3, b3⟩
  case round =>
    obtain ⟨j, M, rfl, hj, hj2, HPR, b⟩ := hrel
    have B : Below w.heap.size w wr := bl_call B2 b B2.size
    have zr := B.size
    by_cases hjl : j < n
    · by_cases hj3 : j < 256
      · obtain ⟨x, hx⟩ : ∃ x, ys[j]? = some x := ⟨ys[j]'(by have := HNn.out; omega), by have := HNn.out; simp [show j < ys.length by omega]⟩
        obtain ⟨ad, rfl, hc⟩ := (HA.out.below B).cell hx
        obtain ⟨hx1, hx2⟩ := HX.out x (List.mem_of_getElem? hx)
        have HMX := Lib.hid (fun wx => HM.out x wx hx1 hx2)
        have hmb := modZ_bd x p (by omega)
        obtain ⟨y, hy⟩ : ∃ y : Nat, modZ x p = y := ⟨(modZ x p).toNat, by omega⟩
        rw [hy] at HMX hmb
        have HY := Lib.hid (show y < RK.R k by rw [HP.out]; omega)
        clear hx hx1 hx2 hy
        go_upto_region 8 with fail
        refine with_act fun a0 ha0 => ?_
        have hsz0 : a0.tmps.size = 87 := by rw [ha0]; rfl
        refine wp_region_vals (W0 := wr) (by kernel_rfl) (by kernel_rfl) [(37, .slice (some ad) n c), (38, .int .i64 j), (39, .pointer (some (ad.add j))), (40, .int .i64 x), (41, .int .i64 k), (42, .int .i64 p), (43, .int .i64 y), (14, .int .i64 y)] rfl (by show ([37, 38, 39, 40, 41, 42, 43, 14] : List Nat).Nodup; decide) _ hsz0 (by kernel_rfl) (BelX.start _ _) ⟨⟨rfl, ?y1v0⟩, ⟨rfl, ?y1v1⟩, ⟨rfl, ?y1v2⟩, ⟨rfl, ?y1v3⟩, ⟨rfl, ?y1v4⟩, ⟨rfl, ?y1v5⟩, ⟨rfl, ?y1v6⟩, ⟨rfl, ?y1v7⟩, trivial⟩ ?y1done
        case y1v0 =>
          intro a' w' hA hdep hX K hK
          have r2 : a'.eval (.tmp 2) = .slice (some ad) n c := (hA.out 2 (by kernel_rfl)).trans (by rw [ha0]; rfl)
          have kx0 := (World.cell?_of_block (hX.block _ (block_lt_of_cell hc) (by simp))).trans hc
          have q2 := eval_get r2
          clear hdep ha0 hA
          refine StepG.value (w' := w') (v := .slice (some ad) n c) (wanted_none rfl) rfl ?_ (hK _ hX)
          simp [go_sem, *]
        case y1v1 =>
          intro a' w' hA hdep hX K hK
          have r13 : a'.eval (.tmp 13) = .int .i64 j := (hA.out 13 (by kernel_rfl)).trans (by rw [ha0]; rfl)
          have kx0 := (World.cell?_of_block (hX.block _ (block_lt_of_cell hc) (by simp))).trans hc
          have q13 := eval_get r13
          clear hdep ha0 hA
          refine StepG.value (w' := w') (v := .int .i64 j) (wanted_none rfl) rfl ?_ (hK _ hX)
          simp [go_sem, *]
        case y1v2 =>
          intro a' w' hA hdep hX K hK
          have r37 : a'.eval (.tmp 37) = .slice (some ad) n c := hdep ⟨0, .data⟩ (by simp) rfl (37, .slice (some ad) n c) rfl
          have r38 : a'.eval (.tmp 38) = .int .i64 j := hdep ⟨1, .data⟩ (by simp) rfl (38, .int .i64 j) rfl
          have kx0 := (World.cell?_of_block (hX.block _ (block_lt_of_cell hc) (by simp))).trans hc
          have q37 := eval_get r37
          have q38 := eval_get r38
          clear hdep ha0 hA
          refine StepG.value (w' := w') (v := .pointer (some (ad.add j))) (wanted_none rfl) rfl ?_ (hK _ hX)
          simp [go_sem, *]
        case y1v3 =>
          intro a' w' hA hdep hX K hK
          have r39 : a'.eval (.tmp 39) = .pointer (some (ad.add j)) := hdep ⟨2, .data⟩ (by simp) rfl (39, .pointer (some (ad.add j))) rfl
          have kx0 := (World.cell?_of_block (hX.block _ (block_lt_of_cell hc) (by simp))).trans hc
          have q39 := eval_get r39
          clear hdep ha0 hA
          refine StepG.value (w' := w') (v := .int .i64 x) (wanted_none rfl) rfl ?_ (hK _ hX)
          simp [go_sem, *]
        case y1v4 =>
          intro a' w' hA hdep hX K hK
          have r8 : a'.eval (.tmp 8) = .int .i64 k := (hA.out 8 (by kernel_rfl)).trans (by rw [ha0]; rfl)
          have kx0 := (World.cell?_of_block (hX.block _ (block_lt_of_cell hc) (by simp))).trans hc
          have q8 := eval_get r8
          clear hdep ha0 hA
          refine StepG.value (w' := w') (v := .int .i64 k) (wanted_none rfl) rfl ?_ (hK _ hX)
          simp [go_sem, *]
        case y1v5 =>
          intro a' w' hA hdep hX K hK
          have r41 : a'.eval (.tmp 41) = .int .i64 k := hdep ⟨4, .data⟩ (by simp) rfl (41, .int .i64 k) rfl
          have kx0 := (World.cell?_of_block (hX.block _ (block_lt_of_cell hc) (by simp))).trans hc
          have q41 := eval_get r41
          clear hdep ha0 hA
          refine StepG.call (v := .int .i64 p) (wanted_none rfl) rfl ?_ ((HPL.out _)) (fun w2 hb => hK _ (hX.call hb))
          simp [go_sem, *]
        case y1v6 =>
          intro a' w' hA hdep hX K hK
          have r40 : a'.eval (.tmp 40) = .int .i64 x := hdep ⟨3, .data⟩ (by simp) rfl (40, .int .i64 x) rfl
          have r42 : a'.eval (.tmp 42) = .int .i64 p := hdep ⟨5, .data⟩ (by simp) rfl (42, .int .i64 p) rfl
          have kx0 := (World.cell?_of_block (hX.block _ (block_lt_of_cell hc) (by simp))).trans hc
          have q40 := eval_get r40
          have q42 := eval_get r42
          clear hdep ha0 hA
          refine StepG.call (v := .int .i64 y) (wanted_none rfl) rfl ?_ ((HMX.out _)) (fun w2 hb => hK _ (hX.call hb))
          simp [go_sem, *]
        case y1v7 =>
          intro a' w' hA hdep hX K hK
          have r43 : a'.eval (.tmp 43) = .int .i64 y := hdep ⟨6, .data⟩ (by simp) rfl (43, .int .i64 y) rfl
          have kx0 := (World.cell?_of_block (hX.block _ (block_lt_of_cell hc) (by simp))).trans hc
          have q43 := eval_get r43
          clear hdep ha0 hA
          refine StepG.value (w' := w') (v := .int .i64 y) (wanted_none rfl) rfl ?_ (hK _ hX)
          simp [go_sem, *]
        intro w4 hXR
        rw [ha0]; simp only [putL, Act.put, List.setIfInBounds_toArray, List.set_cons_zero, List.set_cons_succ]
        clear ha0 hsz0
        have hb4 : Below wr.heap.size wr w4 := belX_toBelow hXR
        have b4 : Below w2.heap.size w2 w4 := bl_call b hb4 b.size
        have HP4 := Lib.hid (HPR.out.below hb4)
        clear hXR hb4 hc HPR
        go_wp2_with fail
        refine (pair_insert (w0 := w2) hk HP4.out b4 HY.out).mono ?_
        rintro e w5 ⟨rfl, hp5, b5⟩
        have HP5 := Lib.hid hp5
        clear hp5
        go_wp2_with fail
        refine (pair_refInsert (w0 := w2) hk HP5.out b5 (HP4.out.mine.supp) HY.out).mono ?_
        rintro e w6 ⟨sv6, rfl, hp6, b6⟩
        have HP6 := Lib.hid hp6
        obtain ⟨q1, q2, q3, rfl⟩ := own_form hp6.set
        clear hp6
        go_wp2_with fail
        go_roundw
        case rel => exact ⟨j + 1, _, (by simp), by omega, by omega, HP6, b6⟩
        case measure => simp [intOf]; omega
      · obtain rfl : j = 256 := by omega
        clear HA HX HM HNn HP3
        have hl6 : (zs (RK.lst k m)).length ≤ 1000000 := by rw [zs_len]; have := RK.lst_len k m; have := RK.R_le hk; omega
        have hl7 : ∀ M, (zs (RK.lst k M)).length ≤ 1000000 := fun M => by rw [zs_len]; have := RK.lst_len k M; have := RK.R_le hk; omega
        have hlm : (RK.lst k m).length ≤ 256 := by have := RK.lst_len k m; have := RK.R_le hk; omega
        obtain ⟨A2, c2, e2⟩ := (LI.own HS2.out).len
        obtain ⟨rfl, rfl, rfl⟩ : p1 = A2 ∧ p2 = (zs (RK.lst k m)).length ∧ p3 = c2 := by simpa using e2
        clear e2
        rw [zs_len] at HS2
        simp only [zs_len]
        obtain ⟨n2, hn2⟩ : ∃ n, (RK.lst k m).length = n := ⟨_, rfl⟩
        have HN2 := Lib.hid hn2
        rw [hn2] at hlm
        rw [hn2]
        have HS3 := Lib.hid (show w2.ownsRow w.heap.size 3 1 (.slice p1 n2 p3) (RK.lst k m).length (ints (RK.lst k m)) by have := HS2.out; rw [hn2] at this; rw [hn2]; exact this)
        clear hn2 HS2
        have HPZ := HPR
        have bz := b
        have Bz := B
        clear HPR
        go_upto_region 12 with fail
        clear b B
        go_loopw [12, 15] (fun sv i wr => ∃ (j : Nat) (M : RK.S), i = .int .i64 j ∧ j ≤ n2 ∧ Hid (Pair w2.heap.size wr rq k M M sv) ∧ Below w2.heap.size w2 wr) (fun _ i _ => n2 - (intOf i).toNat)
        case atStart => exact ⟨0, _, (by simp), by omega, HPZ, bz⟩
        case round =>
          clear HPZ bz Bz zr
          obtain ⟨j, M, rfl, hj, HPR, b⟩ := hrel
          have B : Below w.heap.size w wr := bl_call B2 b B2.size
          have zr := B.size
          by_cases hjl : j < n2
          · obtain ⟨y, hy⟩ : ∃ y, (RK.lst k m)[j]? = some y := ⟨(RK.lst k m)[j]'(by have := HN2.out; omega), by have := HN2.out; simp [show j < (RK.lst k m).length by omega]⟩
            have HYZ := Lib.hid (show (zs (RK.lst k m))[j]? = some (y : Int) by simp [zs, hy])
            obtain ⟨ad, rfl, hc⟩ := LI.cell ((LI.own HS3.out).below b) (j := j) (x := (y : Int)) HYZ.out
            have HY := Lib.hid (HSUP.out y ((RK.mem_lst HSUP.out y).1 (List.mem_of_getElem? hy)))
            clear hy
            go_wp2_with fail
            refine (pair_delete (w0 := w2) hk HPR.out b HY.out).mono ?_
            rintro e w5 ⟨rfl, hp5, b5⟩
            have HP5 := Lib.hid hp5
            clear hp5
            have hc5 : w5.cell? (ad.add j) = some (.int .i64 y) := by
              obtain ⟨ad', e, hc'⟩ := LI.cell ((LI.own HS3.out).below b5) (j := j) (x := (y : Int)) HYZ.out
              cases e; exact hc'
            clear hc
            go_wp2_with fail
            refine (pair_refDelete (w0 := w2) hk HP5.out b5 (HPR.out.mine.supp) y).mono ?_
            rintro e w6 ⟨sv6, rfl, hp6, b6⟩
            have HP6 := Lib.hid hp6
            obtain ⟨q1, q2, q3, rfl⟩ := own_form hp6.set
            clear hp6
            go_wp2_with fail
            go_roundw
            case rel => exact ⟨j + 1, _, (by simp), by omega, HP6, b6⟩
            case measure => simp [intOf]; omega
          · obtain rfl : j = n2 := by omega
            have HQ3 := Lib.hid (HQ2.out.below b)
            have HS4 := Lib.hid (own_below HS3.out b)
            obtain ⟨q1, q2, q3, rfl⟩ := own_form HPR.out.set
            have HPZ := HPR
            clear HPR hj hjl HN2
            go_wp2_with fail
            refine (HSH.out _ HQ3.out (HT.out.below B)).mono ?_
            rintro e w7 ⟨rfl, hb⟩
            have B7 : Below w.heap.size w w7 := bl_call B hb B.size
            have HQ7 := Lib.hid (HQ3.out.below hb)
            have HS7 := Lib.hid (own_below HS4.out hb)
            have HP7 := Lib.hid (HPZ.out.below hb)
            clear hb HQ3 HS4 HPZ
            go_wp2_with fail
            refine (mine_list hk HQ7.out).mono ?_
            rintro e w8 ⟨l1, l2, l3, rfl, hO, hb⟩
            have B8 : Below w.heap.size w w8 := bl_call B7 hb B7.size
            have HO8 := Lib.hid (LI.own hO)
            have HS8 := Lib.hid (LI.own (own_below HS7.out hb))
            have HP8 := Lib.hid (HP7.out.below hb)
            clear hb hO HQ7 HS7 HP7
            go_wp2_with fail
            refine (ints_any _ _ _ _ w8 HO8.out HS8.out hl6).mono ?_
            rintro e w9 ⟨rfl, hb⟩
            rw [decide_eq_true rfl]
            have B9 : Below w.heap.size w w9 := bl_call B8 hb B8.size
            have HP9 := Lib.hid (HP8.out.below hb)
            clear hb HO8 HS8 HP8
            go_wp2_with fail
            refine (mine_list hk HP9.out.mine).mono ?_
            rintro e w10 ⟨l4, l5, l6, rfl, hO, hb⟩
            have B10 : Below w.heap.size w w10 := bl_call B9 hb B9.size
            have HO10 := Lib.hid (LI.own hO)
            have HS10 := Lib.hid (LI.own (own_below HP9.out.set hb))
            clear hb hO HP9
            go_wp2_with fail
            refine (ints_any _ _ _ _ w10 HO10.out HS10.out (hl7 M)).mono ?_
            rintro e w11 ⟨rfl, hb⟩
            rw [decide_eq_true rfl]
            have B11 : Below w.heap.size w w11 := bl_call B10 hb B10.size
            clear hb HO10 HS10
            go_wp2_with fail
            refine (awake_any _ (HT.out.below B11)).mono ?_
            rintro e w12 ⟨rfl, hb⟩
            have B12 : Below w.heap.size w w12 := bl_call B11 hb B11.size
            go_wp2_with fail
            go_ret
            exact ⟨rfl, B12⟩
    · obtain rfl : j = n := by omega
      clear HA HX HM HNn HP3
      have hl6 : (zs (RK.lst k m)).length ≤ 1000000 := by rw [zs_len]; have := RK.lst_len k m; have := RK.R_le hk; omega
      have hl7 : ∀ M, (zs (RK.lst k M)).length ≤ 1000000 := fun M => by rw [zs_len]; have := RK.lst_len k M; have := RK.R_le hk; omega
      have hlm : (RK.lst k m).length ≤ 256 := by have := RK.lst_len k m; have := RK.R_le hk; omega
      obtain ⟨A2, c2, e2⟩ := (LI.own HS2.out).len
      obtain ⟨rfl, rfl, rfl⟩ : p1 = A2 ∧ p2 = (zs (RK.lst k m)).length ∧ p3 = c2 := by simpa using e2
      clear e2
      rw [zs_len] at HS2
      simp only [zs_len]
      obtain ⟨n2, hn2⟩ : ∃ n, (RK.lst k m).length = n := ⟨_, rfl⟩
      have HN2 := Lib.hid hn2
      rw [hn2] at hlm
      rw [hn2]
      have HS3 := Lib.hid (show w2.ownsRow w.heap.size 3 1 (.slice p1 n2 p3) (RK.lst k m).length (ints (RK.lst k m)) by have := HS2.out; rw [hn2] at this; rw [hn2]; exact this)
      clear hn2 HS2
      have HPZ := HPR
      have bz := b
      have Bz := B
      clear HPR
      go_upto_region 12 with fail
      clear b B
      go_loopw [12, 15] (fun sv i wr => ∃ (j : Nat) (M : RK.S), i = .int .i64 j ∧ j ≤ n2 ∧ Hid (Pair w2.heap.size wr rq k M M sv) ∧ Below w2.heap.size w2 wr) (fun _ i _ => n2 - (intOf i).toNat)
      case atStart => exact ⟨0, _, (by simp), by omega, HPZ, bz⟩
      case round =>
        clear HPZ bz Bz zr
        obtain ⟨j, M, rfl, hj, HPR, b⟩ := hrel
        have B : Below w.heap.size w wr := bl_call B2 b B2.size
        have zr := B.size
        by_cases hjl : j < n2
        · obtain ⟨y, hy⟩ : ∃ y, (RK.lst k m)[j]? = some y := ⟨(RK.lst k m)[j]'(by have := HN2.out; omega), by have := HN2.out; simp [show j < (RK.lst k m).length by omega]⟩
          have HYZ := Lib.hid (show (zs (RK.lst k m))[j]? = some (y : Int) by simp [zs, hy])
          obtain ⟨ad, rfl, hc⟩ := LI.cell ((LI.own HS3.out).below b) (j := j) (x := (y : Int)) HYZ.out
          have HY := Lib.hid (HSUP.out y ((RK.mem_lst HSUP.out y).1 (List.mem_of_getElem? hy)))
          clear hy
          go_wp2_with fail
          refine (pair_delete (w0 := w2) hk HPR.out b HY.out).mono ?_
          rintro e w5 ⟨rfl, hp5, b5⟩
          have HP5 := Lib.hid hp5
          clear hp5
          have hc5 : w5.cell? (ad.add j) = some (.int .i64 y) := by
            obtain ⟨ad', e, hc'⟩ := LI.cell ((LI.own HS3.out).below b5) (j := j) (x := (y : Int)) HYZ.out
            cases e; exact hc'
          clear hc
          go_wp2_with fail
          refine (pair_refDelete (w0 := w2) hk HP5.out b5 (HPR.out.mine.supp) y).mono ?_
          rintro e w6 ⟨sv6, rfl, hp6, b6⟩
          have HP6 := Lib.hid hp6
          obtain ⟨q1, q2, q3, rfl⟩ := own_form hp6.set
          clear hp6
          go_wp2_with fail
          go_roundw
          case rel => exact ⟨j + 1, _, (by simp), by omega, HP6, b6⟩
          case measure => simp [intOf]; omega
        · obtain rfl : j = n2 := by omega
          have HQ3 := Lib.hid (HQ2.out.below b)
          have HS4 := Lib.hid (own_below HS3.out b)
          obtain ⟨q1, q2, q3, rfl⟩ := own_form HPR.out.set
          have HPZ := HPR
          clear HPR hj hjl HN2
          go_wp2_with fail
          refine (HSH.out _ HQ3.out (HT.out.below B)).mono ?_
          rintro e w7 ⟨rfl, hb⟩
          have B7 : Below w.heap.size w w7 := bl_call B hb B.size
          have HQ7 := Lib.hid (HQ3.out.below hb)
          have HS7 := Lib.hid (own_below HS4.out hb)
          have HP7 := Lib.hid (HPZ.out.below hb)
          clear hb HQ3 HS4 HPZ
          go_wp2_with fail
          refine (mine_list hk HQ7.out).mono ?_
          rintro e w8 ⟨l1, l2, l3, rfl, hO, hb⟩
          have B8 : Below w.heap.size w w8 := bl_call B7 hb B7.size
          have HO8 := Lib.hid (LI.own hO)
          have HS8 := Lib.hid (LI.own (own_below HS7.out hb))
          have HP8 := Lib.hid (HP7.out.below hb)
          clear hb hO HQ7 HS7 HP7
          go_wp2_with fail
          refine (ints_any _ _ _ _ w8 HO8.out HS8.out hl6).mono ?_
          rintro e w9 ⟨rfl, hb⟩
          rw [decide_eq_true rfl]
          have B9 : Below w.heap.size w w9 := bl_call B8 hb B8.size
          have HP9 := Lib.hid (HP8.out.below hb)
          clear hb HO8 HS8 HP8
          go_wp2_with fail
          refine (mine_list hk HP9.out.mine).mono ?_
          rintro e w10 ⟨l4, l5, l6, rfl, hO, hb⟩
          have B10 : Below w.heap.size w w10 := bl_call B9 hb B9.size
          have HO10 := Lib.hid (LI.own hO)
          have HS10 := Lib.hid (LI.own (own_below HP9.out.set hb))
          clear hb hO HP9
          go_wp2_with fail
          refine (ints_any _ _ _ _ w10 HO10.out HS10.out (hl7 M)).mono ?_
          rintro e w11 ⟨rfl, hb⟩
          rw [decide_eq_true rfl]
          have B11 : Below w.heap.size w w11 := bl_call B10 hb B10.size
          clear hb HO10 HS10
          go_wp2_with fail
          refine (awake_any _ (HT.out.below B11)).mono ?_
          rintro e w12 ⟨rfl, hb⟩
          have B12 : Below w.heap.size w w12 := bl_call B11 hb B11.size
          go_wp2_with fail
          go_ret
          exact ⟨rfl, B12⟩
namespace rackTwins
open Go.ChangeShapes Go.WideShapes Go.ChangeAt Go.RowKit
open Go.Lib Go.Joins
set_option maxRecDepth 100000 in
theorem contract (H : Type) (enc : TypeId × Value → H) (W : World) (base : Nat) (args : Array Value) (ds gs : List (DataW H)) (before : List MemPlace)
    (hval : ∀ (j : Nat) t v, Tryd.f6.params[j]? = some t → args[j]? = some v → Value.okWide Tryd.prog W .any base t v)
    (hW : DataW.Whole enc Tryd.prog Tryd.f6.params.toList Rows.rackTwinsSpec.vars false W args.toList ds gs before) (hL : laidMetH Tryd.prog tabs W) :
    Calls Tryd.prog 6 args W fun e W' => ∃ v, e = .returned v ∧ Rows.rackTwinsSpec.post enc Tryd.prog Tryd.f6 false true false false W args v W' := by
  have hW' := hW
  obtain ⟨p, q, hA0, hV, rfl, hfz, hnd⟩ := hW
  have hA : DataW.TrodAll enc Tryd.prog W 0 (fun _ => true) true Tryd.f6.params.toList args.toList ds p := hA0
  rw [Tryd.params6] at hA hval
  obtain ⟨v0, vs0, d0, ds0, p0, q0, hargs, rfl, rfl, h0, r0⟩ := trodAll_cons hA
  obtain ⟨v1, vs1, d1, ds1, p1, q1, rfl, rfl, rfl, h1, r1⟩ := trodAll_cons r0
  obtain ⟨v2, vs2, d2, ds2, p2, q2, rfl, rfl, rfl, h2, r2⟩ := trodAll_cons r1
  obtain ⟨rfl, rfl, rfl⟩ := trodAll_nil r2
  obtain rfl : args = #[v0, v1, v2] := by cases args; simp_all
  obtain ⟨rfl, rfl⟩ := trodVars_none hV
  obtain ⟨x0, rfl, rfl, rfl, wx0⟩ := open_int Tryd.underlying3 (hval 0 3 v0 rfl rfl) h0
  obtain ⟨x1, li1, wx1⟩ := LI_of (hval 1 22 v1 rfl rfl) h1
  have lt1 : ∀ x ∈ p1, x.block < W.heap.size := by obtain ⟨fuel, hf⟩ := h1; exact DataW.trod_lt fuel _ _ _ hf
  obtain ⟨x2, li2, wx2⟩ := LI_of (hval 2 22 v2 rfl rfl) h2
  have lt2 : ∀ x ∈ p2, x.block < W.heap.size := by obtain ⟨fuel, hf⟩ := h2; exact DataW.trod_lt fuel _ _ _ hf
  clear hA0
  try simp only [List.append_nil] at hW'
  refine (show Calls Tryd.prog 6 _ W _ from (RackTwins_walk x0 v1 x1 v2 x2 W (tab_of hL) (inI wx0) li1 wx1 li2 wx2)).mono fun e W' ⟨he, hb⟩ => ?_
  subst he
  exact ⟨_, rfl, _, _, _, _, _, _, hW', trodAll_mk1 (shut_bool Tryd.underlying4 _), trodAll_cons_mk (shut_int Tryd.underlying3 wx0) (trodAll_cons_mk (Below.trod laidOut (by kernel_rfl) (of_decide_eq_true (by kernel_rfl)) h1 hb lt1) (trodAll_cons_mk (Below.trod laidOut (by kernel_rfl) (of_decide_eq_true (by kernel_rfl)) h2 hb lt2) (trodAll_mk0))), rfl, hb.frame _, fun h => by cases h⟩
theorem reads (os : Os) {H : Type} (enc : TypeId × Value → H) : ∃ places, DataW.whole enc Tryd.prog ((laidWorld os).forCall (fun _ _ => 0) ⟨#[], #[.int .i64 0, .slice none 0 0, .slice none 0 0], []⟩).memory Tryd.f6.params.toList Rows.rackTwinsSpec.vars false (#[.int .i64 0, .slice none 0 0, .slice none 0 0] : Array Value).toList 8 = some ([.lit (.int .i64 0), .nil, .nil], [], places) :=
  ⟨[], by kernel_rfl⟩
set_option maxRecDepth 100000 in
theorem lifted (os : Os) (started : os.Started) (H : Type) (enc : TypeId × Value → H) (F : Stop.Interp) :
    ReturnsInHanded {} Tryd.checked os 6 .any ((OpenSpec.ofChange Rows.rackTwinsSpec).preRow enc Tryd.prog Tryd.f6 Rows.rackTwinsRow.domain false Rows.rackTwinsRow.laid) (((OpenSpec.ofChange Rows.rackTwinsSpec).at F).post enc Tryd.prog Tryd.f6 false true false false) := by
  obtain ⟨places, hx⟩ := reads os enc
  refine returnsInHanded_of_row (C := Tryd.checked) (s := OpenSpec.ofChange Rows.rackTwinsSpec) own started (by kernel_rfl) Tryd.func6
    (witness_row_at (enc := enc) (C := Tryd.checked) false (laidWorld os) #[.int .i64 0, .slice none 0 0, .slice none 0 0] rfl (by kernel_rfl) (by kernel_rfl) (by kernel_rfl)
      (OpenSpec.preRow_of_cond 8 hx (by kernel_rfl) (fun k hk => by cases hk) (by kernel_rfl) (laid_met os _))) ?_
  intro W base args ds gs before hval hW _ _ _ hL _ _
  exact contract H enc W base args ds gs before hval hW hL
theorem said : Rows.RackTwinsSaid :=
  OpenClaim.holds_of_cond 6 Tryd.f6 rfl rfl rfl rfl rfl rfl rfl ⟨rfl, rfl, rfl, rfl, rfl⟩ rfl rfl rfl rfl rfl (by kernel_rfl) Tryd.func6 (by kernel_rfl)
    (of_decide_eq_true (by kernel_rfl)) (by unfold Func.isWrapper; first | (rw [if_pos (by decide +kernel)]; kernel_rfl) | (rw [if_neg (by decide +kernel)]; exact ⟨rfl, rfl⟩))
    (fun os started H enc _ F => by rw [OpenClaim.pre_eq_preRow]; exact lifted os started H enc F)
theorem plain (f : FuncId) (fn : Func) (hf : Tryd.pinned.checked.prog.funcNamed "remould/remouldlaw07.RackTwins" = some f) (hfn : Tryd.pinned.checked.prog.funcs[f]? = some fn) :
    true = Tryd.pinned.checked.prog.looks [] ∧ ∀ (j : Nat) t, fn.params[j]? = some t → Tryd.pinned.checked.prog.wantsStandIn t = false := by
  obtain rfl : f = 6 := Option.some.inj ((show Tryd.prog.funcNamed "remould/remouldlaw07.RackTwins" = some 6 by kernel_rfl).symm.trans hf) |>.symm
  obtain rfl : fn = Tryd.f6 := (Option.some.inj (Tryd.func6.symm.trans hfn)).symm
  refine ⟨by kernel_rfl, fun j t ht => ?_⟩
  rw [Tryd.params6] at ht
  have hm : t ∈ [3, 22, 22] := by simpa using Array.mem_of_getElem? ht
  have hall : ([3, 22, 22].all fun u => !Tryd.prog.wantsStandIn u) = true := by kernel_rfl
  exact (show Tryd.prog.wantsStandIn t = false by simpa using List.all_eq_true.1 hall t (by simpa using hm))
theorem card : Rows.RackTwinsCardSaid :=
  Claim7.holds_tied_plain_at .later [] _ _ _ _ said (fun _ h => by cases h) (by kernel_rfl) (fun _ h => by cases h) rackTwins_row_tie rfl ⟨rfl, rfl⟩ (by kernel_rfl) rfl plain (by kernel_rfl)
end rackTwins
theorem RackTwins_holds : Rows.RackTwinsCardSaid := rackTwins.card
end Go.Proofs.YtpnfmbeccjehiabDoor
