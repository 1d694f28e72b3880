/- RackSame: for every int and every two lists the law returns true. -/
import Derived.Test.YtpnfmbeccjehiabDoorZB
import Derived.Test.YtpnfmbeccjehiabDoorZ8
namespace Go.Proofs.YtpnfmbeccjehiabDoor
open Go.RowKit Go.Proofs.YtpnfmbeccjehiabDoorW.PrintWords Go.Proofs.YtpnfmbeccjehiabDoorW.PrintLast Go.Proofs.YtpnfmbeccjehiabDoorW.PrintMore
attribute [local go_sem ↓] Go.wp_at_zero Go.wp_at_succ

set_option maxRecDepth 100000 in
set_option maxHeartbeats 8000000 in
theorem RackSame_walk (o : Int) (a : Value) (xs : List Int) (b : Value) (ys : List Int) (w : World) (ht : Tab w) (ho : -9223372036854775808 ≤ o ∧ o ≤ 9223372036854775807) (ha : LI w a xs) (hr : ∀ x ∈ xs, -9223372036854775808 ≤ x ∧ x ≤ 9223372036854775807) (hb : LI w b ys) (hs : ∀ x ∈ ys, -9223372036854775808 ≤ x ∧ x ≤ 9223372036854775807) :
    Calls Tryd.prog 5 #[.int .i64 o, a, b] w fun e w' => e = .returned (.bool true) ∧ Below w.heap.size w w' := by
  have HT := Lib.hid ht
  have HFL := Lib.hid (filled_any o a xs w ho ha hr)
  obtain ⟨A, c, rfl⟩ := hb.len
  have HA := Lib.hid hb
  have hlen : ys.length ≤ 9223372036854775807 := by obtain ⟨_, _, _, _, h⟩ := hb; exact h.2.1
  have HX := Lib.hid hs
  clear ht ha hr ho hb hs
  go_enter Tryd.func5, Tryd.ntmps5
  go_wp2_with fail
  refine (HFL.out).mono ?_
  rintro e w1 ⟨k, rb, v, F, sv, rfl, -, hk, hB, B1⟩
  obtain ⟨m, hm⟩ : ∃ m, RK.fil k (xs.take 256) = m := ⟨_, rfl⟩
  rw [hm] at hB
  have hR := RK.R_le hk
  have hR0 := RK.R_pos k
  have hlm : (RK.lst k m).length ≤ 256 := by have := RK.lst_len k m; omega
  have hl6 : (zs (RK.lst k m)).length ≤ 1000000 := by rw [zs_len]; omega
  have HPL := Lib.hid (fun wx => refPlaces k wx hk)
  have HM := Lib.hid (fun (x : Int) wx h1 h2 => mod_any x (RK.R k) wx (by omega) (by omega) h1 h2)
  have HS0 := Lib.hid (own_below hB.set (Below.refl _ _))
  have HQ1 := Lib.hid hB.mine
  have HSUP := Lib.hid hB.rack.2.1.supp
  obtain ⟨p1, p2, p3, rfl⟩ := own_form hB.set
  obtain ⟨A2, c2, e2⟩ := (LI.own HS0.out).len
  obtain ⟨rfl, rfl, rfl⟩ : p1 = A2 ∧ p2 = (zs (RK.lst k m)).length ∧ p3 = c2 := by simpa using e2
  clear e2
  rw [zs_len] at HS0
  simp only [zs_len]
  obtain ⟨n2, hn2⟩ : ∃ n, (RK.lst k m).length = n := ⟨_, rfl⟩
  have HN2 := Lib.hid hn2
  rw [hn2] at hlm
  rw [hn2]
  have HS1 := Lib.hid (show w1.ownsRow w.heap.size 3 1 (.slice p1 n2 p3) (RK.lst k m).length (ints (RK.lst k m)) by have := HS0.out; rw [hn2] at this; rw [hn2]; exact this)
  obtain ⟨s, hst⟩ : ∃ s : ByteArray, s = ⟨(RK.shT k m).toArray⟩ := ⟨_, rfl⟩
  have HST := Lib.hid hst
  clear hm hB HFL hst hn2 HS0
  go_wp2_with fail
  refine (pair_new (w0 := w1) k hk (Below.refl _ _)).mono ?_
  rintro e w3 ⟨rq, rfl, hp, b3⟩
  have HQ3 := Lib.hid hp.mine
  clear hp
  obtain ⟨p, hp⟩ : ∃ p, RK.R k = p := ⟨_, rfl⟩
  have HP := Lib.hid hp
  rw [hp] at HPL HM hR hR0
  clear hp
  obtain ⟨n, hn⟩ : ∃ n, ys.length = n := ⟨_, rfl⟩
  have HNn := Lib.hid hn
  simp only [hn] at HA hlen ⊢
  clear hn
  obtain ⟨f, hf⟩ : ∃ f, RK.fil k (ys.take 256) = f := ⟨_, rfl⟩
  have HF := Lib.hid hf
  clear hf
  go_upto_region 4 with fail
  go_loopw [11] (fun i wr => ∃ j : Nat, i = .int .i64 j ∧ j ≤ n ∧ j ≤ 256 ∧ Hid (Mine w1.heap.size wr rq k (RK.fil k (ys.take j))) ∧ Below w1.heap.size w1 wr) (fun i _ => n - (intOf i).toNat)
  case atStart => exact ⟨0, (by simp), by omega, by omega, HQ3, b3⟩
  case round =>
    obtain ⟨j, rfl, hj, hj2, HQR, b⟩ := hrel
    have B : Below w.heap.size w wr := bl_call B1 b B1.size
    have zr := B.size
    by_cases hjl : j < n
    · by_cases hj3 : j < 256
      · obtain ⟨x, hx⟩ : ∃ x, ys[j]? = some x := ⟨ys[j]'(by have := HNn.out; omega), by have := HNn.out; simp [show j < ys.length by omega]⟩
        obtain ⟨ad, rfl, -⟩ := (HA.out.below B).cell hx
        obtain ⟨hx1, hx2⟩ := HX.out x (List.mem_of_getElem? hx)
        have HMX := Lib.hid (fun wx => HM.out x wx hx1 hx2)
        have hmb := modZ_bd x p (by omega)
        obtain ⟨y, hy⟩ : ∃ y : Nat, modZ x p = y := ⟨(modZ x p).toNat, by omega⟩
        rw [hy] at HMX hmb
        have HY := Lib.hid (show y < RK.R k by rw [HP.out]; omega)
        have HTK := Lib.hid (show RK.fil k (ys.take (j + 1)) = RK.ins (RK.fil k (ys.take j)) y by
          rw [List.take_add_one, hx, Option.toList_some, RK.fil_snoc, HP.out, hy, Int.toNat_natCast])
        have HC := Lib.hid (show ∀ wx, Below w1.heap.size w1 wx → wx.cell? (ad.add j) = some (.int .i64 x) from fun wx hb => by
          obtain ⟨ad', e, hc'⟩ := (HA.out.below (bl_call B1 hb B1.size)).cell hx
          cases e; exact hc')
        obtain ⟨M, hM⟩ : ∃ M, RK.fil k (ys.take j) = M := ⟨_, rfl⟩
        rw [hM] at HQR HTK
        clear hx hx1 hx2 hy hM
        have HJ0 := Lib.hid (show Below w1.heap.size w1 wr.drew ∧ Mine w1.heap.size wr.drew rq k M from ⟨bl_call b (bl_drw wr) b.size, HQR.out.below (bl_drw wr)⟩)
        clear HQR
        go_upto_region 6 with fail
        refine with_act fun a0 ha0 => ?_
        have hsz0 : a0.tmps.size = 120 := by rw [ha0]; rfl
        have hJsx3 : ∀ (b : Bool) (wa wb : World), (fun (b : Bool) (wx : World) => Below w1.heap.size w1 wx ∧ Mine w1.heap.size wx rq k (if b = true then RK.ins M y else M)) b wa → Below wa.heap.size wa wb → (fun (b : Bool) (wx : World) => Below w1.heap.size w1 wx ∧ Mine w1.heap.size wx rq k (if b = true then RK.ins M y else M)) b wb := fun b wa wb h hb => ⟨bl_call h.1 hb h.1.size, h.2.below hb⟩
        refine wp_region_inv2 (by kernel_rfl) (by kernel_rfl) (fun (b : Bool) (wx : World) => Below w1.heap.size w1 wx ∧ Mine w1.heap.size wx rq k (if b = true then RK.ins M y else M)) [(41, .pointer (some ⟨rq, 0, none⟩)), (42, .slice (some ad) n c), (43, .int .i64 j), (44, .pointer (some (ad.add j))), (45, .int .i64 x), (46, .int .i64 k), (47, .int .i64 p), (48, .int .i64 y), (49, .tuple #[.bool (!M y), .int .i64 0]), (40, .tuple #[.bool (!M y), .int .i64 0]), (50, .bool (!M y)), (51, .int .i64 0), (12, .bool (!M y)), (13, .int .i64 0)] 8 rfl rfl (by show ([41, 42, 43, 44, 45, 46, 47, 48, 49, 40, 50, 51, 12, 13] : List Nat).Nodup; decide) _ hsz0 (by kernel_rfl) HJ0.out ⟨⟨rfl, ?x3v0⟩, ⟨rfl, ?x3v1⟩, ⟨rfl, ?x3v2⟩, ⟨rfl, ?x3v3⟩, ⟨rfl, ?x3v4⟩, ⟨rfl, ?x3v5⟩, ⟨rfl, ?x3v6⟩, ⟨rfl, ?x3v7⟩, ⟨rfl, ?x3v8⟩, ⟨rfl, ?x3v9⟩, ⟨rfl, ?x3v10⟩, ⟨rfl, ?x3v11⟩, ⟨rfl, ?x3v12⟩, ⟨rfl, ?x3v13⟩, trivial⟩ ?x3done
        case x3v0 =>
          rw [if_neg (by decide)]
          intro b a' w' hA hdep hJ K hK
          have r10 : a'.eval (.tmp 10) = .pointer (some ⟨rq, 0, none⟩) := (hA.out 10 (by kernel_rfl)).trans (by rw [ha0]; rfl)
          have q10 := eval_get r10
          clear hdep ha0 hA
          refine StepG.value (w' := w') (v := .pointer (some ⟨rq, 0, none⟩)) (wanted_none rfl) rfl ?_ (hK _ hJ)
          clear hJ hK
          simp [go_sem, *]
        case x3v1 =>
          rw [if_neg (by decide)]
          intro b a' w' hA hdep hJ K hK
          have r2 : a'.eval (.tmp 2) = .slice (some ad) n c := (hA.out 2 (by kernel_rfl)).trans (by rw [ha0]; rfl)
          have q2 := eval_get r2
          clear hdep ha0 hA
          refine StepG.value (w' := w') (v := .slice (some ad) n c) (wanted_none rfl) rfl ?_ (hK _ hJ)
          clear hJ hK
          simp [go_sem, *]
        case x3v2 =>
          rw [if_neg (by decide)]
          intro b a' w' hA hdep hJ K hK
          have r11 : a'.eval (.tmp 11) = .int .i64 j := (hA.out 11 (by kernel_rfl)).trans (by rw [ha0]; rfl)
          have q11 := eval_get r11
          clear hdep ha0 hA
          refine StepG.value (w' := w') (v := .int .i64 j) (wanted_none rfl) rfl ?_ (hK _ hJ)
          clear hJ hK
          simp [go_sem, *]
        case x3v3 =>
          rw [if_neg (by decide)]
          intro b a' w' hA hdep hJ K hK
          have r42 : a'.eval (.tmp 42) = .slice (some ad) n c := hdep ⟨1, .data⟩ (by simp) rfl (42, .slice (some ad) n c) rfl
          have r43 : a'.eval (.tmp 43) = .int .i64 j := hdep ⟨2, .data⟩ (by simp) rfl (43, .int .i64 j) rfl
          have q42 := eval_get r42
          have q43 := eval_get r43
          clear hdep ha0 hA
          refine StepG.value (w' := w') (v := .pointer (some (ad.add j))) (wanted_none rfl) rfl ?_ (hK _ hJ)
          clear hJ hK
          simp [go_sem, *]
        case x3v4 =>
          rw [if_neg (by decide)]
          intro b a' w' hA hdep hJ K hK
          have r44 : a'.eval (.tmp 44) = .pointer (some (ad.add j)) := hdep ⟨3, .data⟩ (by simp) rfl (44, .pointer (some (ad.add j))) rfl
          have kx0 := HC.out w' hJ.1
          have q44 := eval_get r44
          clear hdep ha0 hA
          refine StepG.value (w' := w') (v := .int .i64 x) (wanted_none rfl) rfl ?_ (hK _ hJ)
          clear hJ hK
          simp [go_sem, *]
        case x3v5 =>
          rw [if_neg (by decide)]
          intro b a' w' hA hdep hJ K hK
          have r8 : a'.eval (.tmp 8) = .int .i64 k := (hA.out 8 (by kernel_rfl)).trans (by rw [ha0]; rfl)
          have q8 := eval_get r8
          clear hdep ha0 hA
          refine StepG.value (w' := w') (v := .int .i64 k) (wanted_none rfl) rfl ?_ (hK _ hJ)
          clear hJ hK
          simp [go_sem, *]
        case x3v6 =>
          rw [if_neg (by decide)]
          intro b a' w' hA hdep hJ K hK
          have r46 : a'.eval (.tmp 46) = .int .i64 k := hdep ⟨5, .data⟩ (by simp) rfl (46, .int .i64 k) rfl
          have q46 := eval_get r46
          clear hdep ha0 hA
          refine StepG.call (v := .int .i64 p) (wanted_none rfl) rfl ?_ ((HPL.out _)) (fun w2 hb => hK _ (hJsx3 b w' w2 hJ hb))
          clear hJ hK
          simp [go_sem, *]
        case x3v7 =>
          rw [if_neg (by decide)]
          intro b a' w' hA hdep hJ K hK
          have r45 : a'.eval (.tmp 45) = .int .i64 x := hdep ⟨4, .data⟩ (by simp) rfl (45, .int .i64 x) rfl
          have r47 : a'.eval (.tmp 47) = .int .i64 p := hdep ⟨6, .data⟩ (by simp) rfl (47, .int .i64 p) rfl
          have q45 := eval_get r45
          have q47 := eval_get r47
          clear hdep ha0 hA
          refine StepG.call (v := .int .i64 y) (wanted_none rfl) rfl ?_ ((HMX.out _)) (fun w2 hb => hK _ (hJsx3 b w' w2 hJ hb))
          clear hJ hK
          simp [go_sem, *]
        case x3v8 =>
          rw [if_pos rfl]
          intro a' w' hA hdep hJ K hK
          have r41 : a'.eval (.tmp 41) = .pointer (some ⟨rq, 0, none⟩) := hdep ⟨0, .data⟩ (by simp) rfl (41, .pointer (some ⟨rq, 0, none⟩)) rfl
          have r48 : a'.eval (.tmp 48) = .int .i64 y := hdep ⟨7, .data⟩ (by simp) rfl (48, .int .i64 y) rfl
          have q41 := eval_get r41
          have q48 := eval_get r48
          clear hdep ha0 hA
          refine StepG.callW (v := .tuple #[.bool (!M y), .int .i64 0]) (wanted_none rfl) rfl ?_ (((mine_insert (w0 := w1) hk hJ.2 hJ.1 HY.out).mono fun _ _ h => ⟨h.1, h.2.2, h.2.1⟩)) hK
          clear hJ hK
          simp [go_sem, *]
        case x3v9 =>
          rw [if_neg (by decide)]
          intro b a' w' hA hdep hJ K hK
          have r49 : a'.eval (.tmp 49) = .tuple #[.bool (!M y), .int .i64 0] := hdep ⟨8, .data⟩ (by simp) rfl (49, .tuple #[.bool (!M y), .int .i64 0]) rfl
          have q49 := eval_get r49
          clear hdep ha0 hA
          refine StepG.value (w' := w') (v := .tuple #[.bool (!M y), .int .i64 0]) (wanted_none rfl) rfl ?_ (hK _ hJ)
          clear hJ hK
          simp [go_sem, *]
        case x3v10 =>
          rw [if_neg (by decide)]
          intro b a' w' hA hdep hJ K hK
          have r40 : a'.eval (.tmp 40) = .tuple #[.bool (!M y), .int .i64 0] := hdep ⟨9, .data⟩ (by simp) rfl (40, .tuple #[.bool (!M y), .int .i64 0]) rfl
          have q40 := eval_get r40
          clear hdep ha0 hA
          refine StepG.value (w' := w') (v := .bool (!M y)) (wanted_none rfl) rfl ?_ (hK _ hJ)
          clear hJ hK
          simp [go_sem, *]
        case x3v11 =>
          rw [if_neg (by decide)]
          intro b a' w' hA hdep hJ K hK
          have r40 : a'.eval (.tmp 40) = .tuple #[.bool (!M y), .int .i64 0] := hdep ⟨9, .data⟩ (by simp) rfl (40, .tuple #[.bool (!M y), .int .i64 0]) rfl
          have q40 := eval_get r40
          clear hdep ha0 hA
          refine StepG.value (w' := w') (v := .int .i64 0) (wanted_none rfl) rfl ?_ (hK _ hJ)
          clear hJ hK
          simp [go_sem, *]
        case x3v12 =>
          rw [if_neg (by decide)]
          intro b a' w' hA hdep hJ K hK
          have r50 : a'.eval (.tmp 50) = .bool (!M y) := hdep ⟨10, .data⟩ (by simp) rfl (50, .bool (!M y)) rfl
          have q50 := eval_get r50
          clear hdep ha0 hA
          refine StepG.value (w' := w') (v := .bool (!M y)) (wanted_none rfl) rfl ?_ (hK _ hJ)
          clear hJ hK
          simp [go_sem, *]
        case x3v13 =>
          rw [if_neg (by decide)]
          intro b a' w' hA hdep hJ K hK
          have r51 : a'.eval (.tmp 51) = .int .i64 0 := hdep ⟨11, .data⟩ (by simp) rfl (51, .int .i64 0) rfl
          have q51 := eval_get r51
          clear hdep ha0 hA
          refine StepG.value (w' := w') (v := .int .i64 0) (wanted_none rfl) rfl ?_ (hK _ hJ)
          clear hJ hK
          simp [go_sem, *]
        intro w4 hJ4
        rw [ha0]; simp only [putL, Act.put, List.setIfInBounds_toArray, List.set_cons_zero, List.set_cons_succ]
        clear ha0 hsz0 hJsx3
        have b4 := hJ4.1
        have HQ4 := Lib.hid (show Mine w1.heap.size w4 rq k (RK.fil k (ys.take (j + 1))) by rw [HTK.out]; exact hJ4.2)
        clear hJ4 HJ0 HTK
        go_wp2_with fail
        go_roundw
        case rel => exact ⟨j + 1, (by simp), by omega, by omega, HQ4, b4⟩
        case measure => simp [intOf] <;> omega
      · obtain rfl : j = 256 := by omega
        have HQA := Lib.hid (show Mine w1.heap.size wr rq k f from by rw [← HF.out]; exact HQR.out)
        have ba := b
        have Ba := B
        clear HQR b B
        go_upto_region 10 with fail
        clear hj2 hjl
        go_loopw [14] (fun i wr => ∃ (j : Nat), i = .int .i64 ((j : Int) - 1) ∧ j ≤ n2 ∧ Hid (Mine w1.heap.size wr rq k (RK.uni f ((RK.lst k m).drop j))) ∧ Below w1.heap.size w1 wr) (fun i _ => (intOf i + 1).toNat)
        case atStart => exact ⟨n2, (by simp), by omega, (by rw [List.drop_of_length_le (by have := HN2.out; omega), RK.uni_nil]; exact HQA), ba⟩
        case round =>
          clear HQA ba Ba zr
          obtain ⟨j, rfl, hj, HQR, b⟩ := hrel
          have B : Below w.heap.size w wr := bl_call B1 b B1.size
          have zr := B.size
          by_cases hj0 : j = 0
          · subst hj0
            have e0 : ((0 : Nat) : Int) - 1 = -1 := rfl
            rw [e0]
            clear e0
            have HQB := Lib.hid (show Mine w1.heap.size wr rq k (RK.uni f (RK.lst k m)) from HQR.out)
            clear HQR hj
            have HQC := Lib.hid (show Mine w1.heap.size wr rq k (RK.mix m f (fun _ => false)) by rw [← RK.uni_lst HSUP.out]; exact HQB.out)
            have bc := b
            have Bc := B
            clear HQB b B
            go_upto_region 16 with fail
            go_loopw [17] (fun i wr => ∃ j : Nat, i = .int .i64 j ∧ j ≤ n ∧ j ≤ 256 ∧ Hid (Mine w1.heap.size wr rq k (RK.mix m f (RK.fil k (ys.take j)))) ∧ Below w1.heap.size w1 wr) (fun i _ => n - (intOf i).toNat)
            case atStart => exact ⟨0, (by simp), by omega, by omega, (by rw [List.take_zero]; exact HQC), bc⟩
            case round =>
              clear HQC bc Bc zr
              obtain ⟨j, rfl, hj, hj2, HQR, b⟩ := hrel
              have B : Below w.heap.size w wr := bl_call B1 b B1.size
              have zr := B.size
              by_cases hjl : j < n
              · by_cases hj3 : j < 256
                · obtain ⟨x, hx⟩ : ∃ x, ys[j]? = some x := ⟨ys[j]'(by have := HNn.out; omega), by have := HNn.out; simp [show j < ys.length by omega]⟩
                  obtain ⟨ad, rfl, hc⟩ := (HA.out.below B).cell hx
                  obtain ⟨hx1, hx2⟩ := HX.out x (List.mem_of_getElem? hx)
                  have HMX := Lib.hid (fun wx => HM.out x wx hx1 hx2)
                  have hmb := modZ_bd x p (by omega)
                  obtain ⟨y, hy⟩ : ∃ y : Nat, modZ x p = y := ⟨(modZ x p).toNat, by omega⟩
                  rw [hy] at HMX hmb
                  have HY := Lib.hid (show y < RK.R k by rw [HP.out]; omega)
                  have HTK := Lib.hid (show RK.fil k (ys.take (j + 1)) = RK.ins (RK.fil k (ys.take j)) y by
                    rw [List.take_add_one, hx, Option.toList_some, RK.fil_snoc, HP.out, hy, Int.toNat_natCast])
                  clear hx hx1 hx2 hy
                  go_upto_region 18 with fail
                  refine with_act fun a0 ha0 => ?_
                  have hsz0 : a0.tmps.size = 120 := by rw [ha0]; rfl
                  refine wp_region_vals (W0 := wr) (by kernel_rfl) (by kernel_rfl) [(82, .slice (some ad) n c), (83, .int .i64 j), (84, .pointer (some (ad.add j))), (85, .int .i64 x), (86, .int .i64 k), (87, .int .i64 p), (88, .int .i64 y), (18, .int .i64 y)] rfl (by show ([82, 83, 84, 85, 86, 87, 88, 18] : List Nat).Nodup; decide) _ hsz0 (by kernel_rfl) (BelX.start _ _) ⟨⟨rfl, ?y1v0⟩, ⟨rfl, ?y1v1⟩, ⟨rfl, ?y1v2⟩, ⟨rfl, ?y1v3⟩, ⟨rfl, ?y1v4⟩, ⟨rfl, ?y1v5⟩, ⟨rfl, ?y1v6⟩, ⟨rfl, ?y1v7⟩, trivial⟩ ?y1done
                  case y1v0 =>
                    intro a' w' hA hdep hX K hK
                    have r2 : a'.eval (.tmp 2) = .slice (some ad) n c := (hA.out 2 (by kernel_rfl)).trans (by rw [ha0]; rfl)
                    have kx0 := (World.cell?_of_block (hX.block _ (block_lt_of_cell hc) (by simp))).trans hc
                    have q2 := eval_get r2
                    clear hdep ha0 hA
                    refine StepG.value (w' := w') (v := .slice (some ad) n c) (wanted_none rfl) rfl ?_ (hK _ hX)
                    simp [go_sem, *]
                  case y1v1 =>
                    intro a' w' hA hdep hX K hK
                    have r17 : a'.eval (.tmp 17) = .int .i64 j := (hA.out 17 (by kernel_rfl)).trans (by rw [ha0]; rfl)
                    have kx0 := (World.cell?_of_block (hX.block _ (block_lt_of_cell hc) (by simp))).trans hc
                    have q17 := eval_get r17
                    clear hdep ha0 hA
                    refine StepG.value (w' := w') (v := .int .i64 j) (wanted_none rfl) rfl ?_ (hK _ hX)
                    simp [go_sem, *]
                  case y1v2 =>
                    intro a' w' hA hdep hX K hK
                    have r82 : a'.eval (.tmp 82) = .slice (some ad) n c := hdep ⟨0, .data⟩ (by simp) rfl (82, .slice (some ad) n c) rfl
                    have r83 : a'.eval (.tmp 83) = .int .i64 j := hdep ⟨1, .data⟩ (by simp) rfl (83, .int .i64 j) rfl
                    have kx0 := (World.cell?_of_block (hX.block _ (block_lt_of_cell hc) (by simp))).trans hc
                    have q82 := eval_get r82
                    have q83 := eval_get r83
                    clear hdep ha0 hA
                    refine StepG.value (w' := w') (v := .pointer (some (ad.add j))) (wanted_none rfl) rfl ?_ (hK _ hX)
                    simp [go_sem, *]
                  case y1v3 =>
                    intro a' w' hA hdep hX K hK
                    have r84 : a'.eval (.tmp 84) = .pointer (some (ad.add j)) := hdep ⟨2, .data⟩ (by simp) rfl (84, .pointer (some (ad.add j))) rfl
                    have kx0 := (World.cell?_of_block (hX.block _ (block_lt_of_cell hc) (by simp))).trans hc
                    have q84 := eval_get r84
                    clear hdep ha0 hA
                    refine StepG.value (w' := w') (v := .int .i64 x) (wanted_none rfl) rfl ?_ (hK _ hX)
                    simp [go_sem, *]
                  case y1v4 =>
                    intro a' w' hA hdep hX K hK
                    have r8 : a'.eval (.tmp 8) = .int .i64 k := (hA.out 8 (by kernel_rfl)).trans (by rw [ha0]; rfl)
                    have kx0 := (World.cell?_of_block (hX.block _ (block_lt_of_cell hc) (by simp))).trans hc
                    have q8 := eval_get r8
                    clear hdep ha0 hA
                    refine StepG.value (w' := w') (v := .int .i64 k) (wanted_none rfl) rfl ?_ (hK _ hX)
                    simp [go_sem, *]
                  case y1v5 =>
                    intro a' w' hA hdep hX K hK
                    have r86 : a'.eval (.tmp 86) = .int .i64 k := hdep ⟨4, .data⟩ (by simp) rfl (86, .int .i64 k) rfl
                    have kx0 := (World.cell?_of_block (hX.block _ (block_lt_of_cell hc) (by simp))).trans hc
                    have q86 := eval_get r86
                    clear hdep ha0 hA
                    refine StepG.call (v := .int .i64 p) (wanted_none rfl) rfl ?_ ((HPL.out _)) (fun w2 hb => hK _ (hX.call hb))
                    simp [go_sem, *]
                  case y1v6 =>
                    intro a' w' hA hdep hX K hK
                    have r85 : a'.eval (.tmp 85) = .int .i64 x := hdep ⟨3, .data⟩ (by simp) rfl (85, .int .i64 x) rfl
                    have r87 : a'.eval (.tmp 87) = .int .i64 p := hdep ⟨5, .data⟩ (by simp) rfl (87, .int .i64 p) rfl
                    have kx0 := (World.cell?_of_block (hX.block _ (block_lt_of_cell hc) (by simp))).trans hc
                    have q85 := eval_get r85
                    have q87 := eval_get r87
                    clear hdep ha0 hA
                    refine StepG.call (v := .int .i64 y) (wanted_none rfl) rfl ?_ ((HMX.out _)) (fun w2 hb => hK _ (hX.call hb))
                    simp [go_sem, *]
                  case y1v7 =>
                    intro a' w' hA hdep hX K hK
                    have r88 : a'.eval (.tmp 88) = .int .i64 y := hdep ⟨6, .data⟩ (by simp) rfl (88, .int .i64 y) rfl
                    have kx0 := (World.cell?_of_block (hX.block _ (block_lt_of_cell hc) (by simp))).trans hc
                    have q88 := eval_get r88
                    clear hdep ha0 hA
                    refine StepG.value (w' := w') (v := .int .i64 y) (wanted_none rfl) rfl ?_ (hK _ hX)
                    simp [go_sem, *]
                  intro w4 hXR
                  rw [ha0]; simp only [putL, Act.put, List.setIfInBounds_toArray, List.set_cons_zero, List.set_cons_succ]
                  clear ha0 hsz0
                  have hb4 : Below wr.heap.size wr w4 := belX_toBelow hXR
                  have b4 : Below w1.heap.size w1 w4 := bl_call b hb4 b.size
                  have HQ4 := Lib.hid (HQR.out.below hb4)
                  clear hXR hb4 hc HQR
                  have HS4 := Lib.hid (LI.own (own_below HS1.out b4))
                  go_wp2_with fail
                  refine (refHas _ _ (y : Int) w4 HS4.out hl6).mono ?_
                  rintro e w5 ⟨rfl, hb⟩
                  have b5 : Below w1.heap.size w1 w5 := bl_call b4 hb b4.size
                  have HQ5 := Lib.hid (HQ4.out.below hb)
                  clear hb HQ4 HS4
                  by_cases hmy : m y = true
                  · have hd : decide ((y : Int) ∈ zs (RK.lst k m)) = true := decide_eq_true (mem_zs.2 ((RK.mem_lst HSUP.out y).2 hmy))
                    rw [hd]
                    have HQ6 := Lib.hid (show Mine w1.heap.size w5 rq k (RK.mix m f (RK.fil k (ys.take (j + 1)))) by rw [HTK.out, RK.mix_old hmy]; exact HQ5.out)
                    clear hd hmy HQ5
                    go_wp2_with fail
                    go_roundw
                    case rel => exact ⟨j + 1, (by simp), by omega, by omega, HQ6, b5⟩
                    case measure => simp [intOf] <;> omega
                  · have hd : decide ((y : Int) ∈ zs (RK.lst k m)) = false := decide_eq_false (fun h => hmy ((RK.mem_lst HSUP.out y).1 (mem_zs.1 h)))
                    rw [hd]
                    have hmf : m y = false := by simpa using hmy
                    clear hd hmy
                    go_wp2_with fail
                    refine (mine_delete (w0 := w1) hk HQ5.out b5 HY.out).mono ?_
                    rintro e w6 ⟨rfl, hq, b6⟩
                    have HQ6 := Lib.hid (show Mine w1.heap.size w6 rq k (RK.mix m f (RK.fil k (ys.take (j + 1)))) by rw [HTK.out, RK.mix_new hmf]; exact hq)
                    clear hq hmf HQ5
                    go_wp2_with fail
                    go_roundw
                    case rel => exact ⟨j + 1, (by simp), by omega, by omega, HQ6, b6⟩
                    case measure => simp [intOf] <;> omega
                · obtain rfl : j = 256 := by omega
                  have HQF := Lib.hid (show Mine w1.heap.size wr rq k m by have := HQR.out; rw [HF.out, RK.mix_end] at this; exact this)
                  clear HQR HA HX HM HPL HNn HF
                  have HS4 := Lib.hid (own_below HS1.out b)
                  have HQ4 := Lib.hid (HQ1.out.below b)
                  go_wp2_with fail
                  refine (mine_shape hk HQF.out (HT.out.below B)).mono ?_
                  rintro e w7 ⟨rfl, hb⟩
                  rw [← HST.out]
                  have B7 : Below w.heap.size w w7 := bl_call B hb B.size
                  have HQ7 := Lib.hid (HQ4.out.below hb)
                  have HS7 := Lib.hid (own_below HS4.out hb)
                  have HF7 := Lib.hid (HQF.out.below hb)
                  clear hb HQ4 HS4 HQF
                  go_wp2_with fail
                  refine (mine_shape hk HQ7.out (HT.out.below B7)).mono ?_
                  rintro e w8 ⟨rfl, hb⟩
                  rw [← HST.out]
                  have B8 : Below w.heap.size w w8 := bl_call B7 hb B7.size
                  have HQ8 := Lib.hid (HQ7.out.below hb)
                  have HS8 := Lib.hid (own_below HS7.out hb)
                  have HF8 := Lib.hid (HF7.out.below hb)
                  clear hb HQ7 HS7 HF7
                  go_wp2_with fail
                  refine (mine_list hk HF8.out).mono ?_
                  rintro e w9 ⟨l1, l2, l3, rfl, hO, hb⟩
                  have B9 : Below w.heap.size w w9 := bl_call B8 hb B8.size
                  have HO9 := Lib.hid (LI.own hO)
                  have HS9 := Lib.hid (own_below HS8.out hb)
                  have HQ9 := Lib.hid (HQ8.out.below hb)
                  clear hb hO HQ8 HS8 HF8
                  go_wp2_with fail
                  refine (ints_any _ _ _ _ w9 HO9.out (LI.own HS9.out) hl6).mono ?_
                  rintro e w10 ⟨rfl, hb⟩
                  rw [decide_eq_true rfl]
                  have B10 : Below w.heap.size w w10 := bl_call B9 hb B9.size
                  have HS10 := Lib.hid (own_below HS9.out hb)
                  have HQ10 := Lib.hid (HQ9.out.below hb)
                  clear hb HO9 HS9 HQ9
                  go_wp2_with fail
                  refine (mine_list hk HQ10.out).mono ?_
                  rintro e w11 ⟨l4, l5, l6, rfl, hO, hb⟩
                  have B11 : Below w.heap.size w w11 := bl_call B10 hb B10.size
                  have HO11 := Lib.hid (LI.own hO)
                  have HS11 := Lib.hid (LI.own (own_below HS10.out hb))
                  clear hb hO HQ10 HS10
                  go_wp2_with fail
                  refine (ints_any _ _ _ _ w11 HO11.out HS11.out hl6).mono ?_
                  rintro e w12 ⟨rfl, hb⟩
                  rw [decide_eq_true rfl]
                  have B12 : Below w.heap.size w w12 := bl_call B11 hb B11.size
                  clear hb HO11 HS11
                  go_wp2_with fail
                  refine (awake_any _ (HT.out.below B12)).mono ?_
                  rintro e w13 ⟨rfl, hb⟩
                  have B13 : Below w.heap.size w w13 := bl_call B12 hb B12.size
                  go_wp2_with fail
                  go_ret
                  exact ⟨rfl, B13⟩
              · obtain rfl : j = n := by omega
                have HQF := Lib.hid (show Mine w1.heap.size wr rq k m by
                  have := HQR.out
                  rw [List.take_of_length_le (by have := HNn.out; omega)] at this
                  have e := HF.out
                  rw [List.take_of_length_le (by have := HNn.out; omega)] at e
                  rw [← e, RK.mix_end] at this
                  exact this)
                clear HQR HA HX HM HPL HNn HF
                have HS4 := Lib.hid (own_below HS1.out b)
                have HQ4 := Lib.hid (HQ1.out.below b)
                go_wp2_with fail
                refine (mine_shape hk HQF.out (HT.out.below B)).mono ?_
                rintro e w7 ⟨rfl, hb⟩
                rw [← HST.out]
                have B7 : Below w.heap.size w w7 := bl_call B hb B.size
                have HQ7 := Lib.hid (HQ4.out.below hb)
                have HS7 := Lib.hid (own_below HS4.out hb)
                have HF7 := Lib.hid (HQF.out.below hb)
                clear hb HQ4 HS4 HQF
                go_wp2_with fail
                refine (mine_shape hk HQ7.out (HT.out.below B7)).mono ?_
                rintro e w8 ⟨rfl, hb⟩
                rw [← HST.out]
                have B8 : Below w.heap.size w w8 := bl_call B7 hb B7.size
                have HQ8 := Lib.hid (HQ7.out.below hb)
                have HS8 := Lib.hid (own_below HS7.out hb)
                have HF8 := Lib.hid (HF7.out.below hb)
                clear hb HQ7 HS7 HF7
                go_wp2_with fail
                refine (mine_list hk HF8.out).mono ?_
                rintro e w9 ⟨l1, l2, l3, rfl, hO, hb⟩
                have B9 : Below w.heap.size w w9 := bl_call B8 hb B8.size
                have HO9 := Lib.hid (LI.own hO)
                have HS9 := Lib.hid (own_below HS8.out hb)
                have HQ9 := Lib.hid (HQ8.out.below hb)
                clear hb hO HQ8 HS8 HF8
                go_wp2_with fail
                refine (ints_any _ _ _ _ w9 HO9.out (LI.own HS9.out) hl6).mono ?_
                rintro e w10 ⟨rfl, hb⟩
                rw [decide_eq_true rfl]
                have B10 : Below w.heap.size w w10 := bl_call B9 hb B9.size
                have HS10 := Lib.hid (own_below HS9.out hb)
                have HQ10 := Lib.hid (HQ9.out.below hb)
                clear hb HO9 HS9 HQ9
                go_wp2_with fail
                refine (mine_list hk HQ10.out).mono ?_
                rintro e w11 ⟨l4, l5, l6, rfl, hO, hb⟩
                have B11 : Below w.heap.size w w11 := bl_call B10 hb B10.size
                have HO11 := Lib.hid (LI.own hO)
                have HS11 := Lib.hid (LI.own (own_below HS10.out hb))
                clear hb hO HQ10 HS10
                go_wp2_with fail
                refine (ints_any _ _ _ _ w11 HO11.out HS11.out hl6).mono ?_
                rintro e w12 ⟨rfl, hb⟩
                rw [decide_eq_true rfl]
                have B12 : Below w.heap.size w w12 := bl_call B11 hb B11.size
                clear hb HO11 HS11
                go_wp2_with fail
                refine (awake_any _ (HT.out.below B12)).mono ?_
                rintro e w13 ⟨rfl, hb⟩
                have B13 : Below w.heap.size w w13 := bl_call B12 hb B12.size
                go_wp2_with fail
                go_ret
                exact ⟨rfl, B13⟩
          · obtain ⟨j, rfl⟩ : ∃ i, j = i + 1 := ⟨j - 1, by omega⟩
            obtain ⟨y, hy⟩ : ∃ y, (RK.lst k m)[j]? = some y := ⟨(RK.lst k m)[j]'(by have := HN2.out; omega), by have := HN2.out; simp [show j < (RK.lst k m).length by omega]⟩
            obtain ⟨ad, rfl, hc⟩ := LI.cell ((LI.own HS1.out).below b) (j := j) (x := (y : Int)) (by simp [zs, hy])
            have HY := Lib.hid (HSUP.out y ((RK.mem_lst HSUP.out y).1 (List.mem_of_getElem? hy)))
            have HDR := Lib.hid (show RK.uni f ((RK.lst k m).drop j) = RK.ins (RK.uni f ((RK.lst k m).drop (j + 1))) y by
              have hjl := (List.getElem?_eq_some_iff.1 hy).1
              rw [List.drop_eq_getElem_cons hjl, (List.getElem?_eq_some_iff.1 hy).2, RK.uni_cons])
            have hj1 : ((j + 1 : Nat) : Int) - 1 = (j : Int) := by omega
            rw [hj1]
            clear hy hj0
            go_wp2_with fail
            refine (mine_insert (w0 := w1) hk HQR.out b HY.out).mono ?_
            rintro e w5 ⟨rfl, hq, b5⟩
            have HQ5 := Lib.hid (show Mine w1.heap.size w5 rq k (RK.uni f ((RK.lst k m).drop j)) by rw [HDR.out]; exact hq)
            clear hq HQR
            go_wp2_with fail
            go_roundw
            case rel => exact ⟨j, (by simp), by omega, HQ5, b5⟩
            case measure => simp [intOf] <;> omega
    · obtain rfl : n = j := by omega
      have HQA := Lib.hid (show Mine w1.heap.size wr rq k f from by rw [← HF.out, List.take_of_length_le (show ys.length ≤ 256 by have := HNn.out; omega)]; have := HQR.out; rw [List.take_of_length_le (show ys.length ≤ n by have := HNn.out; omega)] at this; exact this)
      have ba := b
      have Ba := B
      clear HQR b B
      go_upto_region 10 with fail
      clear hj2 hjl
      go_loopw [14] (fun i wr => ∃ (j : Nat), i = .int .i64 ((j : Int) - 1) ∧ j ≤ n2 ∧ Hid (Mine w1.heap.size wr rq k (RK.uni f ((RK.lst k m).drop j))) ∧ Below w1.heap.size w1 wr) (fun i _ => (intOf i + 1).toNat)
      case atStart => exact ⟨n2, (by simp), by omega, (by rw [List.drop_of_length_le (by have := HN2.out; omega), RK.uni_nil]; exact HQA), ba⟩
      case round =>
        clear HQA ba Ba zr
        obtain ⟨j, rfl, hj, HQR, b⟩ := hrel
        have B : Below w.heap.size w wr := bl_call B1 b B1.size
        have zr := B.size
        by_cases hj0 : j = 0
        · subst hj0
          have e0 : ((0 : Nat) : Int) - 1 = -1 := rfl
          rw [e0]
          clear e0
          have HQB := Lib.hid (show Mine w1.heap.size wr rq k (RK.uni f (RK.lst k m)) from HQR.out)
          clear HQR hj
          have HQC := Lib.hid (show Mine w1.heap.size wr rq k (RK.mix m f (fun _ => false)) by rw [← RK.uni_lst HSUP.out]; exact HQB.out)
          have bc := b
          have Bc := B
          clear HQB b B
          go_upto_region 16 with fail
          go_loopw [17] (fun i wr => ∃ j : Nat, i = .int .i64 j ∧ j ≤ n ∧ j ≤ 256 ∧ Hid (Mine w1.heap.size wr rq k (RK.mix m f (RK.fil k (ys.take j)))) ∧ Below w1.heap.size w1 wr) (fun i _ => n - (intOf i).toNat)
          case atStart => exact ⟨0, (by simp), by omega, by omega, (by rw [List.take_zero]; exact HQC), bc⟩
          case round =>
            clear HQC bc Bc zr
            obtain ⟨j, rfl, hj, hj2, HQR, b⟩ := hrel
            have B : Below w.heap.size w wr := bl_call B1 b B1.size
            have zr := B.size
            by_cases hjl : j < n
            · by_cases hj3 : j < 256
              · obtain ⟨x, hx⟩ : ∃ x, ys[j]? = some x := ⟨ys[j]'(by have := HNn.out; omega), by have := HNn.out; simp [show j < ys.length by omega]⟩
                obtain ⟨ad, rfl, hc⟩ := (HA.out.below B).cell hx
                obtain ⟨hx1, hx2⟩ := HX.out x (List.mem_of_getElem? hx)
                have HMX := Lib.hid (fun wx => HM.out x wx hx1 hx2)
                have hmb := modZ_bd x p (by omega)
                obtain ⟨y, hy⟩ : ∃ y : Nat, modZ x p = y := ⟨(modZ x p).toNat, by omega⟩
                rw [hy] at HMX hmb
                have HY := Lib.hid (show y < RK.R k by rw [HP.out]; omega)
                have HTK := Lib.hid (show RK.fil k (ys.take (j + 1)) = RK.ins (RK.fil k (ys.take j)) y by
                  rw [List.take_add_one, hx, Option.toList_some, RK.fil_snoc, HP.out, hy, Int.toNat_natCast])
                clear hx hx1 hx2 hy
                go_upto_region 18 with fail
                refine with_act fun a0 ha0 => ?_
                have hsz0 : a0.tmps.size = 120 := by rw [ha0]; rfl
                refine wp_region_vals (W0 := wr) (by kernel_rfl) (by kernel_rfl) [(82, .slice (some ad) n c), (83, .int .i64 j), (84, .pointer (some (ad.add j))), (85, .int .i64 x), (86, .int .i64 k), (87, .int .i64 p), (88, .int .i64 y), (18, .int .i64 y)] rfl (by show ([82, 83, 84, 85, 86, 87, 88, 18] : List Nat).Nodup; decide) _ hsz0 (by kernel_rfl) (BelX.start _ _) ⟨⟨rfl, ?y2v0⟩, ⟨rfl, ?y2v1⟩, ⟨rfl, ?y2v2⟩, ⟨rfl, ?y2v3⟩, ⟨rfl, ?y2v4⟩, ⟨rfl, ?y2v5⟩, ⟨rfl, ?y2v6⟩, ⟨rfl, ?y2v7⟩, trivial⟩ ?y2done
                case y2v0 =>
                  intro a' w' hA hdep hX K hK
                  have r2 : a'.eval (.tmp 2) = .slice (some ad) n c := (hA.out 2 (by kernel_rfl)).trans (by rw [ha0]; rfl)
                  have kx0 := (World.cell?_of_block (hX.block _ (block_lt_of_cell hc) (by simp))).trans hc
                  have q2 := eval_get r2
                  clear hdep ha0 hA
                  refine StepG.value (w' := w') (v := .slice (some ad) n c) (wanted_none rfl) rfl ?_ (hK _ hX)
                  simp [go_sem, *]
                case y2v1 =>
                  intro a' w' hA hdep hX K hK
                  have r17 : a'.eval (.tmp 17) = .int .i64 j := (hA.out 17 (by kernel_rfl)).trans (by rw [ha0]; rfl)
                  have kx0 := (World.cell?_of_block (hX.block _ (block_lt_of_cell hc) (by simp))).trans hc
                  have q17 := eval_get r17
                  clear hdep ha0 hA
                  refine StepG.value (w' := w') (v := .int .i64 j) (wanted_none rfl) rfl ?_ (hK _ hX)
                  simp [go_sem, *]
                case y2v2 =>
                  intro a' w' hA hdep hX K hK
                  have r82 : a'.eval (.tmp 82) = .slice (some ad) n c := hdep ⟨0, .data⟩ (by simp) rfl (82, .slice (some ad) n c) rfl
                  have r83 : a'.eval (.tmp 83) = .int .i64 j := hdep ⟨1, .data⟩ (by simp) rfl (83, .int .i64 j) rfl
                  have kx0 := (World.cell?_of_block (hX.block _ (block_lt_of_cell hc) (by simp))).trans hc
                  have q82 := eval_get r82
                  have q83 := eval_get r83
                  clear hdep ha0 hA
                  refine StepG.value (w' := w') (v := .pointer (some (ad.add j))) (wanted_none rfl) rfl ?_ (hK _ hX)
                  simp [go_sem, *]
                case y2v3 =>
                  intro a' w' hA hdep hX K hK
                  have r84 : a'.eval (.tmp 84) = .pointer (some (ad.add j)) := hdep ⟨2, .data⟩ (by simp) rfl (84, .pointer (some (ad.add j))) rfl
                  have kx0 := (World.cell?_of_block (hX.block _ (block_lt_of_cell hc) (by simp))).trans hc
                  have q84 := eval_get r84
                  clear hdep ha0 hA
                  refine StepG.value (w' := w') (v := .int .i64 x) (wanted_none rfl) rfl ?_ (hK _ hX)
                  simp [go_sem, *]
                case y2v4 =>
                  intro a' w' hA hdep hX K hK
                  have r8 : a'.eval (.tmp 8) = .int .i64 k := (hA.out 8 (by kernel_rfl)).trans (by rw [ha0]; rfl)
                  have kx0 := (World.cell?_of_block (hX.block _ (block_lt_of_cell hc) (by simp))).trans hc
                  have q8 := eval_get r8
                  clear hdep ha0 hA
                  refine StepG.value (w' := w') (v := .int .i64 k) (wanted_none rfl) rfl ?_ (hK _ hX)
                  simp [go_sem, *]
                case y2v5 =>
                  intro a' w' hA hdep hX K hK
                  have r86 : a'.eval (.tmp 86) = .int .i64 k := hdep ⟨4, .data⟩ (by simp) rfl (86, .int .i64 k) rfl
                  have kx0 := (World.cell?_of_block (hX.block _ (block_lt_of_cell hc) (by simp))).trans hc
                  have q86 := eval_get r86
                  clear hdep ha0 hA
                  refine StepG.call (v := .int .i64 p) (wanted_none rfl) rfl ?_ ((HPL.out _)) (fun w2 hb => hK _ (hX.call hb))
                  simp [go_sem, *]
                case y2v6 =>
                  intro a' w' hA hdep hX K hK
                  have r85 : a'.eval (.tmp 85) = .int .i64 x := hdep ⟨3, .data⟩ (by simp) rfl (85, .int .i64 x) rfl
                  have r87 : a'.eval (.tmp 87) = .int .i64 p := hdep ⟨5, .data⟩ (by simp) rfl (87, .int .i64 p) rfl
                  have kx0 := (World.cell?_of_block (hX.block _ (block_lt_of_cell hc) (by simp))).trans hc
                  have q85 := eval_get r85
                  have q87 := eval_get r87
                  clear hdep ha0 hA
                  refine StepG.call (v := .int .i64 y) (wanted_none rfl) rfl ?_ ((HMX.out _)) (fun w2 hb => hK _ (hX.call hb))
                  simp [go_sem, *]
                case y2v7 =>
                  intro a' w' hA hdep hX K hK
                  have r88 : a'.eval (.tmp 88) = .int .i64 y := hdep ⟨6, .data⟩ (by simp) rfl (88, .int .i64 y) rfl
                  have kx0 := (World.cell?_of_block (hX.block _ (block_lt_of_cell hc) (by simp))).trans hc
                  have q88 := eval_get r88
                  clear hdep ha0 hA
                  refine StepG.value (w' := w') (v := .int .i64 y) (wanted_none rfl) rfl ?_ (hK _ hX)
                  simp [go_sem, *]
                intro w4 hXR
                rw [ha0]; simp only [putL, Act.put, List.setIfInBounds_toArray, List.set_cons_zero, List.set_cons_succ]
                clear ha0 hsz0
                have hb4 : Below wr.heap.size wr w4 := belX_toBelow hXR
                have b4 : Below w1.heap.size w1 w4 := bl_call b hb4 b.size
                have HQ4 := Lib.hid (HQR.out.below hb4)
                clear hXR hb4 hc HQR
                have HS4 := Lib.hid (LI.own (own_below HS1.out b4))
                go_wp2_with fail
                refine (refHas _ _ (y : Int) w4 HS4.out hl6).mono ?_
                rintro e w5 ⟨rfl, hb⟩
                have b5 : Below w1.heap.size w1 w5 := bl_call b4 hb b4.size
                have HQ5 := Lib.hid (HQ4.out.below hb)
                clear hb HQ4 HS4
                by_cases hmy : m y = true
                · have hd : decide ((y : Int) ∈ zs (RK.lst k m)) = true := decide_eq_true (mem_zs.2 ((RK.mem_lst HSUP.out y).2 hmy))
                  rw [hd]
                  have HQ6 := Lib.hid (show Mine w1.heap.size w5 rq k (RK.mix m f (RK.fil k (ys.take (j + 1)))) by rw [HTK.out, RK.mix_old hmy]; exact HQ5.out)
                  clear hd hmy HQ5
                  go_wp2_with fail
                  go_roundw
                  case rel => exact ⟨j + 1, (by simp), by omega, by omega, HQ6, b5⟩
                  case measure => simp [intOf] <;> omega
                · have hd : decide ((y : Int) ∈ zs (RK.lst k m)) = false := decide_eq_false (fun h => hmy ((RK.mem_lst HSUP.out y).1 (mem_zs.1 h)))
                  rw [hd]
                  have hmf : m y = false := by simpa using hmy
                  clear hd hmy
                  go_wp2_with fail
                  refine (mine_delete (w0 := w1) hk HQ5.out b5 HY.out).mono ?_
                  rintro e w6 ⟨rfl, hq, b6⟩
                  have HQ6 := Lib.hid (show Mine w1.heap.size w6 rq k (RK.mix m f (RK.fil k (ys.take (j + 1)))) by rw [HTK.out, RK.mix_new hmf]; exact hq)
                  clear hq hmf HQ5
                  go_wp2_with fail
                  go_roundw
                  case rel => exact ⟨j + 1, (by simp), by omega, by omega, HQ6, b6⟩
                  case measure => simp [intOf] <;> omega
              · obtain rfl : j = 256 := by omega
                have HQF := Lib.hid (show Mine w1.heap.size wr rq k m by have := HQR.out; rw [HF.out, RK.mix_end] at this; exact this)
                clear HQR HA HX HM HPL HNn HF
                have HS4 := Lib.hid (own_below HS1.out b)
                have HQ4 := Lib.hid (HQ1.out.below b)
                go_wp2_with fail
                refine (mine_shape hk HQF.out (HT.out.below B)).mono ?_
                rintro e w7 ⟨rfl, hb⟩
                rw [← HST.out]
                have B7 : Below w.heap.size w w7 := bl_call B hb B.size
                have HQ7 := Lib.hid (HQ4.out.below hb)
                have HS7 := Lib.hid (own_below HS4.out hb)
                have HF7 := Lib.hid (HQF.out.below hb)
                clear hb HQ4 HS4 HQF
                go_wp2_with fail
                refine (mine_shape hk HQ7.out (HT.out.below B7)).mono ?_
                rintro e w8 ⟨rfl, hb⟩
                rw [← HST.out]
                have B8 : Below w.heap.size w w8 := bl_call B7 hb B7.size
                have HQ8 := Lib.hid (HQ7.out.below hb)
                have HS8 := Lib.hid (own_below HS7.out hb)
                have HF8 := Lib.hid (HF7.out.below hb)
                clear hb HQ7 HS7 HF7
                go_wp2_with fail
                refine (mine_list hk HF8.out).mono ?_
                rintro e w9 ⟨l1, l2, l3, rfl, hO, hb⟩
                have B9 : Below w.heap.size w w9 := bl_call B8 hb B8.size
                have HO9 := Lib.hid (LI.own hO)
                have HS9 := Lib.hid (own_below HS8.out hb)
                have HQ9 := Lib.hid (HQ8.out.below hb)
                clear hb hO HQ8 HS8 HF8
                go_wp2_with fail
                refine (ints_any _ _ _ _ w9 HO9.out (LI.own HS9.out) hl6).mono ?_
                rintro e w10 ⟨rfl, hb⟩
                rw [decide_eq_true rfl]
                have B10 : Below w.heap.size w w10 := bl_call B9 hb B9.size
                have HS10 := Lib.hid (own_below HS9.out hb)
                have HQ10 := Lib.hid (HQ9.out.below hb)
                clear hb HO9 HS9 HQ9
                go_wp2_with fail
                refine (mine_list hk HQ10.out).mono ?_
                rintro e w11 ⟨l4, l5, l6, rfl, hO, hb⟩
                have B11 : Below w.heap.size w w11 := bl_call B10 hb B10.size
                have HO11 := Lib.hid (LI.own hO)
                have HS11 := Lib.hid (LI.own (own_below HS10.out hb))
                clear hb hO HQ10 HS10
                go_wp2_with fail
                refine (ints_any _ _ _ _ w11 HO11.out HS11.out hl6).mono ?_
                rintro e w12 ⟨rfl, hb⟩
                rw [decide_eq_true rfl]
                have B12 : Below w.heap.size w w12 := bl_call B11 hb B11.size
                clear hb HO11 HS11
                go_wp2_with fail
                refine (awake_any _ (HT.out.below B12)).mono ?_
                rintro e w13 ⟨rfl, hb⟩
                have B13 : Below w.heap.size w w13 := bl_call B12 hb B12.size
                go_wp2_with fail
                go_ret
                exact ⟨rfl, B13⟩
            · obtain rfl : j = n := by omega
              have HQF := Lib.hid (show Mine w1.heap.size wr rq k m by
                have := HQR.out
                rw [List.take_of_length_le (by have := HNn.out; omega)] at this
                have e := HF.out
                rw [List.take_of_length_le (by have := HNn.out; omega)] at e
                rw [← e, RK.mix_end] at this
                exact this)
              clear HQR HA HX HM HPL HNn HF
              have HS4 := Lib.hid (own_below HS1.out b)
              have HQ4 := Lib.hid (HQ1.out.below b)
              go_wp2_with fail
              refine (mine_shape hk HQF.out (HT.out.below B)).mono ?_
              rintro e w7 ⟨rfl, hb⟩
              rw [← HST.out]
              have B7 : Below w.heap.size w w7 := bl_call B hb B.size
              have HQ7 := Lib.hid (HQ4.out.below hb)
              have HS7 := Lib.hid (own_below HS4.out hb)
              have HF7 := Lib.hid (HQF.out.below hb)
              clear hb HQ4 HS4 HQF
              go_wp2_with fail
              refine (mine_shape hk HQ7.out (HT.out.below B7)).mono ?_
              rintro e w8 ⟨rfl, hb⟩
              rw [← HST.out]
              have B8 : Below w.heap.size w w8 := bl_call B7 hb B7.size
              have HQ8 := Lib.hid (HQ7.out.below hb)
              have HS8 := Lib.hid (own_below HS7.out hb)
              have HF8 := Lib.hid (HF7.out.below hb)
              clear hb HQ7 HS7 HF7
              go_wp2_with fail
              refine (mine_list hk HF8.out).mono ?_
              rintro e w9 ⟨l1, l2, l3, rfl, hO, hb⟩
              have B9 : Below w.heap.size w w9 := bl_call B8 hb B8.size
              have HO9 := Lib.hid (LI.own hO)
              have HS9 := Lib.hid (own_below HS8.out hb)
              have HQ9 := Lib.hid (HQ8.out.below hb)
              clear hb hO HQ8 HS8 HF8
              go_wp2_with fail
              refine (ints_any _ _ _ _ w9 HO9.out (LI.own HS9.out) hl6).mono ?_
              rintro e w10 ⟨rfl, hb⟩
              rw [decide_eq_true rfl]
              have B10 : Below w.heap.size w w10 := bl_call B9 hb B9.size
              have HS10 := Lib.hid (own_below HS9.out hb)
              have HQ10 := Lib.hid (HQ9.out.below hb)
              clear hb HO9 HS9 HQ9
              go_wp2_with fail
              refine (mine_list hk HQ10.out).mono ?_
              rintro e w11 ⟨l4, l5, l6, rfl, hO, hb⟩
              have B11 : Below w.heap.size w w11 := bl_call B10 hb B10.size
              have HO11 := Lib.hid (LI.own hO)
              have HS11 := Lib.hid (LI.own (own_below HS10.out hb))
              clear hb hO HQ10 HS10
              go_wp2_with fail
              refine (ints_any _ _ _ _ w11 HO11.out HS11.out hl6).mono ?_
              rintro e w12 ⟨rfl, hb⟩
              rw [decide_eq_true rfl]
              have B12 : Below w.heap.size w w12 := bl_call B11 hb B11.size
              clear hb HO11 HS11
              go_wp2_with fail
              refine (awake_any _ (HT.out.below B12)).mono ?_
              rintro e w13 ⟨rfl, hb⟩
              have B13 : Below w.heap.size w w13 := bl_call B12 hb B12.size
              go_wp2_with fail
              go_ret
              exact ⟨rfl, B13⟩
        · obtain ⟨j, rfl⟩ : ∃ i, j = i + 1 := ⟨j - 1, by omega⟩
          obtain ⟨y, hy⟩ : ∃ y, (RK.lst k m)[j]? = some y := ⟨(RK.lst k m)[j]'(by have := HN2.out; omega), by have := HN2.out; simp [show j < (RK.lst k m).length by omega]⟩
          obtain ⟨ad, rfl, hc⟩ := LI.cell ((LI.own HS1.out).below b) (j := j) (x := (y : Int)) (by simp [zs, hy])
          have HY := Lib.hid (HSUP.out y ((RK.mem_lst HSUP.out y).1 (List.mem_of_getElem? hy)))
          have HDR := Lib.hid (show RK.uni f ((RK.lst k m).drop j) = RK.ins (RK.uni f ((RK.lst k m).drop (j + 1))) y by
            have hjl := (List.getElem?_eq_some_iff.1 hy).1
            rw [List.drop_eq_getElem_cons hjl, (List.getElem?_eq_some_iff.1 hy).2, RK.uni_cons])
          have hj1 : ((j + 1 : Nat) : Int) - 1 = (j : Int) := by omega
          rw [hj1]
          clear hy hj0
          go_wp2_with fail
          refine (mine_insert (w0 := w1) hk HQR.out b HY.out).mono ?_
          rintro e w5 ⟨rfl, hq, b5⟩
          have HQ5 := Lib.hid (show Mine w1.heap.size w5 rq k (RK.uni f ((RK.lst k m).drop j)) by rw [HDR.out]; exact hq)
          clear hq HQR
          go_wp2_with fail
          go_roundw
          case rel => exact ⟨j, (by simp), by omega, HQ5, b5⟩
          case measure => simp [intOf] <;> omega
namespace rackSame
open Go.ChangeShapes Go.WideShapes Go.ChangeAt Go.RowKit
open Go.Lib Go.Joins
set_option maxRecDepth 100000 in
theorem contract (H : Type) (enc : TypeId × Value → H) (W : World) (base : Nat) (args : Array Value) (ds gs : List (DataW H)) (before : List MemPlace)
    (hval : ∀ (j : Nat) t v, Tryd.f5.params[j]? = some t → args[j]? = some v → Value.okWide Tryd.prog W .any base t v)
    (hW : DataW.Whole enc Tryd.prog Tryd.f5.params.toList Rows.rackSameSpec.vars false W args.toList ds gs before) (hL : laidMetH Tryd.prog tabs W) :
    Calls Tryd.prog 5 args W fun e W' => ∃ v, e = .returned v ∧ Rows.rackSameSpec.post enc Tryd.prog Tryd.f5 false true false false W args v W' := by
  have hW' := hW
  obtain ⟨p, q, hA0, hV, rfl, hfz, hnd⟩ := hW
  have hA : DataW.TrodAll enc Tryd.prog W 0 (fun _ => true) true Tryd.f5.params.toList args.toList ds p := hA0
  rw [Tryd.params5] at hA hval
  obtain ⟨v0, vs0, d0, ds0, p0, q0, hargs, rfl, rfl, h0, r0⟩ := trodAll_cons hA
  obtain ⟨v1, vs1, d1, ds1, p1, q1, rfl, rfl, rfl, h1, r1⟩ := trodAll_cons r0
  obtain ⟨v2, vs2, d2, ds2, p2, q2, rfl, rfl, rfl, h2, r2⟩ := trodAll_cons r1
  obtain ⟨rfl, rfl, rfl⟩ := trodAll_nil r2
  obtain rfl : args = #[v0, v1, v2] := by cases args; simp_all
  obtain ⟨rfl, rfl⟩ := trodVars_none hV
  obtain ⟨x0, rfl, rfl, rfl, wx0⟩ := open_int Tryd.underlying3 (hval 0 3 v0 rfl rfl) h0
  obtain ⟨x1, li1, wx1⟩ := LI_of (hval 1 22 v1 rfl rfl) h1
  have lt1 : ∀ x ∈ p1, x.block < W.heap.size := by obtain ⟨fuel, hf⟩ := h1; exact DataW.trod_lt fuel _ _ _ hf
  obtain ⟨x2, li2, wx2⟩ := LI_of (hval 2 22 v2 rfl rfl) h2
  have lt2 : ∀ x ∈ p2, x.block < W.heap.size := by obtain ⟨fuel, hf⟩ := h2; exact DataW.trod_lt fuel _ _ _ hf
  clear hA0
  try simp only [List.append_nil] at hW'
  refine (show Calls Tryd.prog 5 _ W _ from (RackSame_walk x0 v1 x1 v2 x2 W (tab_of hL) (inI wx0) li1 wx1 li2 wx2)).mono fun e W' ⟨he, hb⟩ => ?_
  subst he
  exact ⟨_, rfl, _, _, _, _, _, _, hW', trodAll_mk1 (shut_bool Tryd.underlying4 _), trodAll_cons_mk (shut_int Tryd.underlying3 wx0) (trodAll_cons_mk (Below.trod laidOut (by kernel_rfl) (of_decide_eq_true (by kernel_rfl)) h1 hb lt1) (trodAll_cons_mk (Below.trod laidOut (by kernel_rfl) (of_decide_eq_true (by kernel_rfl)) h2 hb lt2) (trodAll_mk0))), rfl, hb.frame _, fun h => by cases h⟩
theorem reads (os : Os) {H : Type} (enc : TypeId × Value → H) : ∃ places, DataW.whole enc Tryd.prog ((laidWorld os).forCall (fun _ _ => 0) ⟨#[], #[.int .i64 0, .slice none 0 0, .slice none 0 0], []⟩).memory Tryd.f5.params.toList Rows.rackSameSpec.vars false (#[.int .i64 0, .slice none 0 0, .slice none 0 0] : Array Value).toList 8 = some ([.lit (.int .i64 0), .nil, .nil], [], places) :=
  ⟨[], by kernel_rfl⟩
set_option maxRecDepth 100000 in
theorem lifted (os : Os) (started : os.Started) (H : Type) (enc : TypeId × Value → H) (F : Stop.Interp) :
    ReturnsInHanded {} Tryd.checked os 5 .any ((OpenSpec.ofChange Rows.rackSameSpec).preRow enc Tryd.prog Tryd.f5 Rows.rackSameRow.domain false Rows.rackSameRow.laid) (((OpenSpec.ofChange Rows.rackSameSpec).at F).post enc Tryd.prog Tryd.f5 false true false false) := by
  obtain ⟨places, hx⟩ := reads os enc
  refine returnsInHanded_of_row (C := Tryd.checked) (s := OpenSpec.ofChange Rows.rackSameSpec) own started (by kernel_rfl) Tryd.func5
    (witness_row_at (enc := enc) (C := Tryd.checked) false (laidWorld os) #[.int .i64 0, .slice none 0 0, .slice none 0 0] rfl (by kernel_rfl) (by kernel_rfl) (by kernel_rfl)
      (OpenSpec.preRow_of_cond 8 hx (by kernel_rfl) (fun k hk => by cases hk) (by kernel_rfl) (laid_met os _))) ?_
  intro W base args ds gs before hval hW _ _ _ hL _ _
  exact contract H enc W base args ds gs before hval hW hL
theorem said : Rows.RackSameSaid :=
  OpenClaim.holds_of_cond 5 Tryd.f5 rfl rfl rfl rfl rfl rfl rfl ⟨rfl, rfl, rfl, rfl, rfl⟩ rfl rfl rfl rfl rfl (by kernel_rfl) Tryd.func5 (by kernel_rfl)
    (of_decide_eq_true (by kernel_rfl)) (by unfold Func.isWrapper; first | (rw [if_pos (by decide +kernel)]; kernel_rfl) | (rw [if_neg (by decide +kernel)]; exact ⟨rfl, rfl⟩))
    (fun os started H enc _ F => by rw [OpenClaim.pre_eq_preRow]; exact lifted os started H enc F)
theorem plain (f : FuncId) (fn : Func) (hf : Tryd.pinned.checked.prog.funcNamed "remould/remouldlaw07.RackSame" = some f) (hfn : Tryd.pinned.checked.prog.funcs[f]? = some fn) :
    true = Tryd.pinned.checked.prog.looks [] ∧ ∀ (j : Nat) t, fn.params[j]? = some t → Tryd.pinned.checked.prog.wantsStandIn t = false := by
  obtain rfl : f = 5 := Option.some.inj ((show Tryd.prog.funcNamed "remould/remouldlaw07.RackSame" = some 5 by kernel_rfl).symm.trans hf) |>.symm
  obtain rfl : fn = Tryd.f5 := (Option.some.inj (Tryd.func5.symm.trans hfn)).symm
  refine ⟨by kernel_rfl, fun j t ht => ?_⟩
  rw [Tryd.params5] at ht
  have hm : t ∈ [3, 22, 22] := by simpa using Array.mem_of_getElem? ht
  have hall : ([3, 22, 22].all fun u => !Tryd.prog.wantsStandIn u) = true := by kernel_rfl
  exact (show Tryd.prog.wantsStandIn t = false by simpa using List.all_eq_true.1 hall t (by simpa using hm))
theorem card : Rows.RackSameCardSaid :=
  Claim7.holds_tied_plain_at .later [] _ _ _ _ said (fun _ h => by cases h) (by kernel_rfl) (fun _ h => by cases h) rackSame_row_tie rfl ⟨rfl, rfl⟩ (by kernel_rfl) rfl plain (by kernel_rfl)
end rackSame
theorem RackSame_holds : Rows.RackSameCardSaid := rackSame.card
end Go.Proofs.YtpnfmbeccjehiabDoor
