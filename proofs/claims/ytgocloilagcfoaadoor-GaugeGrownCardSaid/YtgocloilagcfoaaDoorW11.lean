/- GaugeGrown: for every int the law returns true. -/
import Derived.Test.YtgocloilagcfoaaDoorL1
import Derived.Test.YtgocloilagcfoaaDoorL2
import Derived.Test.YtgocloilagcfoaaDoorM10
import Derived.Test.YtgocloilagcfoaaDoorF1
namespace Go.Proofs.YtgocloilagcfoaaDoor
open Go.RowKit
attribute [local go_sem ↓] Go.wp_at_zero Go.wp_at_succ

theorem str_app2 (a b : List UInt8) : (⟨a.toArray⟩ : ByteArray) ++ ⟨b.toArray⟩ = ⟨(a ++ b).toArray⟩ := by
  have h : ((⟨a.toArray⟩ : ByteArray) ++ ⟨b.toArray⟩).data = (a ++ b).toArray := by simp [ByteArray.data_append]
  exact congrArg ByteArray.mk h
theorem sgn_isInt (a b : Int) : GM.sgn a b = 1 ∨ GM.sgn a b = 0 ∨ GM.sgn a b = -1 := GM.sgn_tri a b
set_option maxRecDepth 100000 in
set_option maxHeartbeats 8000000 in
theorem GaugeGrown_walk (q : Int) (w : World) (hq : -9223372036854775808 ≤ q ∧ q ≤ 9223372036854775807) :
    Calls Tryd.prog 5 #[.int .i64 q] w fun e w' => e = .returned (.bool true) ∧ Below w.heap.size w w' := by
  have hM := fun wx => mod_any q 1001 wx (by omega) (by omega) hq.1 hq.2
  have bM := modZ_bd q 1001 (by decide)
  obtain ⟨n, hn⟩ : ∃ n : Nat, modZ q 1001 = n := ⟨(modZ q 1001).toNat, by omega⟩
  rw [hn] at hM bM
  clear hn hq
  have hn1 : n ≤ 1000 := by omega
  have hG := fun wx => Gaps_yes n wx hn1
  have hoff := GM.off_bounds n hn1
  obtain ⟨S, hS⟩ : ∃ S : Nat → Int, S = fun k => (GM.gr 34 (k : Nat)).2 := ⟨_, rfl⟩
  have hSn : (GM.gr 34 (n : Nat)).2 = S n := by rw [hS]
  have HS0 : Hid (S 0 = 0) := Lib.hid (by rw [hS]; dsimp only; rw [show ((0 : Nat) : Int) = 0 from rfl, GM.gr_zero])
  have hSb : 0 ≤ S n ∧ S n ≤ n := by
    have r := GM.gr_isRung (n : Nat) (by omega) (by omega)
    have b := r.bounds (by omega)
    rw [hS]; dsimp only; omega
  have HSb : Hid (∀ k, k ≤ 1000 → 0 ≤ S k ∧ S k ≤ k) := Lib.hid (fun k hk => by
    have r := GM.gr_isRung (k : Nat) (by omega) (by omega)
    have b := r.bounds (by omega)
    rw [hS]; dsimp only; omega)
  have HSt : Hid (∀ k, k < 1000 → (GM.gap k = 76 ∧ S (k + 1) = S k ∧ GM.np (k + 1) = GM.np k + 2) ∨ (GM.gap k = 83 ∧ S (k + 1) = S k + 1 ∧ GM.np (k + 1) = GM.np k + 1)) := Lib.hid (fun k hk => by
    rw [hS]; dsimp only
    rcases GM.gap_step k (by omega) with ⟨h1, h2, h3⟩ | ⟨h1, h2, h3⟩
    · exact .inl ⟨h1, h3, (GM.grow_L k (by omega) h1).1⟩
    · exact .inr ⟨h1, h3, (GM.grow_S k (by omega) h1).1⟩)
  rw [hSn] at hoff
  clear hS hSn
  obtain ⟨U, hU⟩ : ∃ U : Nat → ByteArray, U = fun k => ⟨(GM.gaps k).toArray⟩ := ⟨_, rfl⟩
  have hUn : (⟨(GM.gaps n).toArray⟩ : ByteArray) = U n := by rw [hU]
  have HUz : Hid (∀ k, (U k).size = k) := Lib.hid (fun k => by rw [hU]; dsimp only; rw [str_size, GM.gaps_len])
  have HU0 : Hid (U 0 = ⟨#[]⟩) := Lib.hid (by rw [hU]; rfl)
  have HUL : Hid (∀ k, k < 1000 → GM.gap k = 76 → U (GM.np k) ++ ⟨#[76, 83]⟩ = U (GM.np k + 2)) := Lib.hid (fun k hk h => by
    have e := GM.grow_L k (by omega) h
    rw [← e.1]
    rw [hU]; dsimp only
    rw [e.2]
    exact str_app2 _ [76, 83])
  have HUS : Hid (∀ k, k < 1000 → GM.gap k = 83 → U (GM.np k) ++ ⟨#[76]⟩ = U (GM.np k + 1)) := Lib.hid (fun k hk h => by
    have e := GM.grow_S k (by omega) h
    rw [← e.1]
    rw [hU]; dsimp only
    rw [e.2]
    exact str_app2 _ [76])
  have HUx : Hid (∀ m, n ≤ m → (U m).extract 0 n = U n) := Lib.hid (fun m hm => by
    rw [hU]; dsimp only
    rw [Lib.extract_mk, List.drop_zero, Nat.sub_zero, GM.gaps_take n m hm])
  have HUg : Hid (∀ k (h : k < (U n).size), (U n)[k]'h = GM.gap k) := Lib.hid (fun k h => by
    have hz := HUz.out n
    have hk : k < (GM.gaps n).length := by rw [GM.gaps_len]; omega
    have h2 : (GM.gaps n)[k]? = some (GM.gap k) := by unfold GM.gaps; rw [List.getElem?_map, List.getElem?_range (by omega)]; rfl
    rw [List.getElem?_eq_getElem hk] at h2
    have := Option.some.inj h2
    subst hU
    exact this)
  rw [hUn] at hG
  clear hUn hU
  have hA := fun wx => refMinus (S n - 2 * n) n 1 0 wx (by omega) (by omega) (by omega) (by omega)
  have hB := fun wx => refPlus (S n - 2 * n) n 1 0 wx (by omega) (by omega) (by omega) (by omega)
  have hSA := fun wx => refSign (S n - 2 * n - 1) n wx (by omega) (by omega) (by omega) (by omega)
  have hSB := fun wx => refSign (S n - 2 * n + 1) n wx (by omega) (by omega) (by omega) (by omega)
  obtain ⟨o1, o2⟩ := hoff
  obtain ⟨T1, e1⟩ : ∃ x, GM.sgn (S n - 2 * n - 1) n = x := ⟨_, rfl⟩
  obtain ⟨T2, e2⟩ : ∃ x, GM.sgn (S n - 2 * n + 1) n = x := ⟨_, rfl⟩
  rw [e1] at hSA o1
  rw [e2] at hSB o2
  rw [Int.sub_zero] at hA
  rw [Int.add_zero] at hB
  clear e1 e2
  have HM := Lib.hid hM
  have HG := Lib.hid hG
  have HA := Lib.hid hA
  have HB := Lib.hid hB
  have HSA := Lib.hid hSA
  have HSB := Lib.hid hSB
  have hzn := HUz.out n
  clear hM hG hA hB hSA hSB
  go_enter Tryd.func5, Tryd.ntmps5
  go_wp2_with fail
  refine (HM.out _).mono ?_
  rintro e w1 ⟨rfl, hb1⟩
  have B1 : Below w.heap.size w w1 := bl_call (by repeat (first | exact Below.refl _ _ | exact Nat.le_refl _ | refine Below.alloc ?_ ?_ _ | refine Below.setCell ?_ ?_ _ | refine Below.drew ?_ | refine bl_drewN ?_ _ | (assumption) | refine bl_call ?_ (by assumption) ?_ | omega | (simp <;> omega))) hb1 (by first | assumption | (simp; done) | (simp; omega) | omega)
  clear hb1
  have hsz_1 := B1.size
  go_wp2_with fail
  refine (HG.out _).mono ?_
  rintro e w2 ⟨rfl, hb2⟩
  have B2 : Below w.heap.size w w2 := bl_call (by repeat (first | exact Below.refl _ _ | exact Nat.le_refl _ | refine Below.alloc ?_ ?_ _ | refine Below.setCell ?_ ?_ _ | refine Below.drew ?_ | refine bl_drewN ?_ _ | (assumption) | refine bl_call ?_ (by assumption) ?_ | omega | (simp <;> omega))) hb2 (by first | assumption | (simp; done) | (simp; omega) | omega)
  clear hb2
  have hsz_2 := B2.size
  clear HM HG
  go_upto_region 7 with fail
  go_loopw [5, 6, 7] (fun x g y wr => ∃ k m : Nat, y = .int .i64 k ∧ k ≤ n ∧ x = .int .i64 (S k) ∧ g = .string (U m) ∧ w2 = wr ∧ m ≤ n + 1 ∧ (m = GM.np k ∨ n ≤ m)) (fun _ _ y _ => n - (intOf y).toNat)
  case atStart => exact ⟨0, 0, rfl, by omega, by rw [HS0.out], by rw [HU0.out], rfl, by omega, .inl GM.np_zero.symm⟩
  case round =>
    obtain ⟨k, m, rfl, hk, rfl, rfl, rfl, hm, hnp⟩ := hrel
    have hzm := HUz.out m
    by_cases hkn : k < n
    · obtain ⟨c, hc⟩ : ∃ c, GM.gap k = c := ⟨_, rfl⟩
      have hit : k < (U n).size := by omega
      have htc : (U n)[k]'hit = c := (HUg.out k hit).trans hc
      have hsb := HSb.out k (by omega)
      have hst := HSt.out k (by omega)
      have hul := HUL.out k (by omega)
      have hus := HUS.out k (by omega)
      rw [hc] at hst hul hus
      have HUl := Lib.hid hul
      have HUs := Lib.hid hus
      have HNP := Lib.hid hnp
      clear hc hul hus hnp
      rcases hst with ⟨rfl, hs, hp⟩ | ⟨rfl, hs, hp⟩
      · have HSS := Lib.hid hs
        have HPP := Lib.hid hp
        clear hs hp
        by_cases hmn : m < n
        · have hj : U m ++ ⟨#[76, 83]⟩ = U (m + 2) := by
            rcases HNP.out with h | h
            · rw [h]; exact HUl.out rfl
            · omega
          go_wp2_with fail
          go_roundw
          case rel =>
            refine ⟨k + 1, m + 2, by simp, by omega, by rw [HSS.out], by first | rfl | rw [hj], by first | rfl | trivial, by omega, ?_⟩
            rcases HNP.out with h | h
            · left; rw [HPP.out, h]
            · omega
          case measure => simp [intOf]; omega
        · go_wp2_with fail
          go_roundw
          case rel => exact ⟨k + 1, m, by simp, by omega, by rw [HSS.out], rfl, by first | rfl | trivial, by omega, .inr (by omega)⟩
          case measure => simp [intOf]; omega
      · have HSS := Lib.hid hs
        have HPP := Lib.hid hp
        clear hs hp
        by_cases hmn : m < n
        · have hj : U m ++ ⟨#[76]⟩ = U (m + 1) := by
            rcases HNP.out with h | h
            · rw [h]; exact HUs.out rfl
            · omega
          go_wp2_with fail
          go_roundw
          case rel =>
            refine ⟨k + 1, m + 1, by simp, by omega, by rw [HSS.out], by first | rfl | rw [hj], by first | rfl | trivial, by omega, ?_⟩
            rcases HNP.out with h | h
            · left; rw [HPP.out, h]
            · omega
          case measure => simp [intOf]; omega
        · go_wp2_with fail
          go_roundw
          case rel => exact ⟨k + 1, m, by simp, by omega, by rw [HSS.out], rfl, by first | rfl | trivial, by omega, .inr (by omega)⟩
          case measure => simp [intOf]; omega
    · obtain rfl : k = n := by omega
      have hkm : k ≤ m := by
        rcases hnp with h | h
        · have := (GM.np_eq k (by omega)).2.1; omega
        · exact h
      have x1 := HUx.out m hkm
      have hmin : min (k : Int) (m : Int) = k := by omega
      clear HUg HUL HUS HSt HSb HU0 HS0 HUx hnp
      go_wp2_with fail
      refine (HA.out _).mono ?_
      rintro e w3 ⟨rfl, hb3⟩
      have cew2_heap_size3_0 : w3.cell? ⟨w2.heap.size, 0, none⟩ = some (.int .i64 (S k - 2 * k)) := keep_cell hb3 (by first | assumption | (go_simp; done) | (simp; done) | simp [*])
      have zew2_heap_size3 : w2.heap.size < w3.heap.size := block_lt_of_cell cew2_heap_size3_0
      have cew2_heap_size3_1 : w3.cell? ⟨w2.heap.size, 1, none⟩ = some (.int .i64 k) := keep_cell hb3 (by first | assumption | (go_simp; done) | (simp; done) | simp [*])
      have B3 : Below w.heap.size w w3 := bl_call (by repeat (first | exact Below.refl _ _ | exact Nat.le_refl _ | refine Below.alloc ?_ ?_ _ | refine Below.setCell ?_ ?_ _ | refine Below.drew ?_ | refine bl_drewN ?_ _ | (assumption) | refine bl_call ?_ (by assumption) ?_ | omega | (simp <;> omega))) hb3 (by first | assumption | (simp; done) | (simp; omega) | omega)
      clear hb3
      have hsz_3 := B3.size
      go_wp2_with fail
      refine (HSA.out _).mono ?_
      rintro e w4 ⟨rfl, hb4⟩
      have cew2_heap_size4_0 : w4.cell? ⟨w2.heap.size, 0, none⟩ = some (.int .i64 (S k - 2 * k)) := keep_cell hb4 (by first | assumption | (go_simp; done) | (simp; done) | simp [*])
      have zew2_heap_size4 : w2.heap.size < w4.heap.size := block_lt_of_cell cew2_heap_size4_0
      have cew2_heap_size4_1 : w4.cell? ⟨w2.heap.size, 1, none⟩ = some (.int .i64 k) := keep_cell hb4 (by first | assumption | (go_simp; done) | (simp; done) | simp [*])
      have B4 : Below w.heap.size w w4 := bl_call (by repeat (first | exact Below.refl _ _ | exact Nat.le_refl _ | refine Below.alloc ?_ ?_ _ | refine Below.setCell ?_ ?_ _ | refine Below.drew ?_ | refine bl_drewN ?_ _ | (assumption) | refine bl_call ?_ (by assumption) ?_ | omega | (simp <;> omega))) hb4 (by first | assumption | (simp; done) | (simp; omega) | omega)
      clear hb4
      have hsz_4 := B4.size
      go_wp2_with fail
      refine (HB.out _).mono ?_
      rintro e w5 ⟨rfl, hb5⟩
      have cew2_heap_size5_0 : w5.cell? ⟨w2.heap.size, 0, none⟩ = some (.int .i64 (S k - 2 * k)) := keep_cell hb5 (by first | assumption | (go_simp; done) | (simp; done) | simp [*])
      have zew2_heap_size5 : w2.heap.size < w5.heap.size := block_lt_of_cell cew2_heap_size5_0
      have cew2_heap_size5_1 : w5.cell? ⟨w2.heap.size, 1, none⟩ = some (.int .i64 k) := keep_cell hb5 (by first | assumption | (go_simp; done) | (simp; done) | simp [*])
      have B5 : Below w.heap.size w w5 := bl_call (by repeat (first | exact Below.refl _ _ | exact Nat.le_refl _ | refine Below.alloc ?_ ?_ _ | refine Below.setCell ?_ ?_ _ | refine Below.drew ?_ | refine bl_drewN ?_ _ | (assumption) | refine bl_call ?_ (by assumption) ?_ | omega | (simp <;> omega))) hb5 (by first | assumption | (simp; done) | (simp; omega) | omega)
      clear hb5
      have hsz_5 := B5.size
      go_wp2_with fail
      refine (HSB.out _).mono ?_
      rintro e w6 ⟨rfl, hb6⟩
      have cew2_heap_size6_0 : w6.cell? ⟨w2.heap.size, 0, none⟩ = some (.int .i64 (S k - 2 * k)) := keep_cell hb6 (by first | assumption | (go_simp; done) | (simp; done) | simp [*])
      have zew2_heap_size6 : w2.heap.size < w6.heap.size := block_lt_of_cell cew2_heap_size6_0
      have cew2_heap_size6_1 : w6.cell? ⟨w2.heap.size, 1, none⟩ = some (.int .i64 k) := keep_cell hb6 (by first | assumption | (go_simp; done) | (simp; done) | simp [*])
      have B6 : Below w.heap.size w w6 := bl_call (by repeat (first | exact Below.refl _ _ | exact Nat.le_refl _ | refine Below.alloc ?_ ?_ _ | refine Below.setCell ?_ ?_ _ | refine Below.drew ?_ | refine bl_drewN ?_ _ | (assumption) | refine bl_call ?_ (by assumption) ?_ | omega | (simp <;> omega))) hb6 (by first | assumption | (simp; done) | (simp; omega) | omega)
      clear hb6
      have hsz_6 := B6.size
      go_wp2_with fail
      refine (awake_any _).mono ?_
      rintro e w7 ⟨rfl, hb7⟩
      have cew2_heap_size7_0 : w7.cell? ⟨w2.heap.size, 0, none⟩ = some (.int .i64 (S k - 2 * k)) := keep_cell hb7 (by first | assumption | (go_simp; done) | (simp; done) | simp [*])
      have zew2_heap_size7 : w2.heap.size < w7.heap.size := block_lt_of_cell cew2_heap_size7_0
      have cew2_heap_size7_1 : w7.cell? ⟨w2.heap.size, 1, none⟩ = some (.int .i64 k) := keep_cell hb7 (by first | assumption | (go_simp; done) | (simp; done) | simp [*])
      have B7 : Below w.heap.size w w7 := bl_call (by repeat (first | exact Below.refl _ _ | exact Nat.le_refl _ | refine Below.alloc ?_ ?_ _ | refine Below.setCell ?_ ?_ _ | refine Below.drew ?_ | refine bl_drewN ?_ _ | (assumption) | refine bl_call ?_ (by assumption) ?_ | omega | (simp <;> omega))) hb7 (by first | assumption | (simp; done) | (simp; omega) | omega)
      clear hb7
      have hsz_7 := B7.size
      go_wp2_with fail
      go_ret
      exact ⟨rfl, (by repeat (first | exact Below.refl _ _ | exact Nat.le_refl _ | refine Below.alloc ?_ ?_ _ | refine Below.setCell ?_ ?_ _ | refine Below.drew ?_ | refine bl_drewN ?_ _ | (assumption) | refine bl_call ?_ (by assumption) ?_ | omega | (simp <;> omega)))⟩
namespace gaugeGrown
open Go.ChangeShapes Go.WideShapes Go.ChangeAt Go.RowKit
open Go.Lib Go.Joins
set_option maxRecDepth 100000 in
theorem contract (H : Type) (enc : TypeId × Value → H) (W : World) (base : Nat) (args : Array Value) (ds gs : List (DataW H)) (before : List MemPlace)
    (hval : ∀ (j : Nat) t v, Tryd.f5.params[j]? = some t → args[j]? = some v → Value.okWide Tryd.prog W .any base t v)
    (hW : DataW.Whole enc Tryd.prog Tryd.f5.params.toList Rows.gaugeGrownSpec.vars false W args.toList ds gs before) :
    Calls Tryd.prog 5 args W fun e W' => ∃ v, e = .returned v ∧ Rows.gaugeGrownSpec.post enc Tryd.prog Tryd.f5 false true false false W args v W' := by
  have hW' := hW
  obtain ⟨p, q, hA0, hV, rfl, hfz, hnd⟩ := hW
  have hA : DataW.TrodAll enc Tryd.prog W 0 (fun _ => true) true Tryd.f5.params.toList args.toList ds p := hA0
  rw [Tryd.params5] at hA hval
  obtain ⟨v0, vs0, d0, ds0, p0, q0, hargs, rfl, rfl, h0, r0⟩ := trodAll_cons hA
  obtain ⟨rfl, rfl, rfl⟩ := trodAll_nil r0
  obtain rfl : args = #[v0] := by cases args; simp_all
  obtain ⟨rfl, rfl⟩ := trodVars_none hV
  obtain ⟨x0, rfl, rfl, rfl, wx0⟩ := open_int Tryd.underlying3 (hval 0 3 v0 rfl rfl) h0
  clear hA0
  simp only [List.append_nil] at hW'
  refine (show Calls Tryd.prog 5 _ W _ from (GaugeGrown_walk x0 W (inI wx0))).mono fun e W' ⟨he, hb⟩ => ?_
  subst he
  exact ⟨_, rfl, _, _, _, [], [], [], hW', trodAll_mk1 (shut_bool Tryd.underlying4 _), trodAll_cons_mk (shut_int Tryd.underlying3 wx0) (trodAll_mk0), rfl, hb.frame _, fun h => by cases h⟩
theorem reads (os : Os) {H : Type} (enc : TypeId × Value → H) : ∃ places, DataW.whole enc Tryd.prog ((laidWorld os).forCall (fun _ _ => 0) ⟨#[], #[.int .i64 0], []⟩).memory Tryd.f5.params.toList Rows.gaugeGrownSpec.vars false (#[.int .i64 0] : Array Value).toList 8 = some ([.lit (.int .i64 0)], [], places) :=
  ⟨[], by kernel_rfl⟩
set_option maxRecDepth 100000 in
theorem lifted (os : Os) (started : os.Started) (H : Type) (enc : TypeId × Value → H) (F : Stop.Interp) :
    ReturnsInHanded {} Tryd.checked os 5 .any ((OpenSpec.ofChange Rows.gaugeGrownSpec).preRow enc Tryd.prog Tryd.f5 Rows.gaugeGrownRow.domain false Rows.gaugeGrownRow.laid) (((OpenSpec.ofChange Rows.gaugeGrownSpec).at F).post enc Tryd.prog Tryd.f5 false true false false) := by
  obtain ⟨places, hx⟩ := reads os enc
  refine returnsInHanded_of_row (C := Tryd.checked) (s := OpenSpec.ofChange Rows.gaugeGrownSpec) own started (by kernel_rfl) Tryd.func5
    (witness_row_at (enc := enc) (C := Tryd.checked) false (laidWorld os) #[.int .i64 0] rfl (by kernel_rfl) (by kernel_rfl) (by kernel_rfl)
      (OpenSpec.preRow_of_cond 8 hx (by kernel_rfl) (fun k hk => by cases hk) (by kernel_rfl) (laid_met os _))) ?_
  intro W base args ds gs before hval hW _ _ _ _ _ _
  exact contract H enc W base args ds gs before hval hW
theorem said : Rows.GaugeGrownSaid :=
  OpenClaim.holds_of_cond 5 Tryd.f5 rfl rfl rfl rfl rfl rfl rfl ⟨rfl, rfl, rfl, rfl, rfl⟩ rfl rfl rfl rfl rfl (by kernel_rfl) Tryd.func5 (by kernel_rfl)
    (of_decide_eq_true (by kernel_rfl)) (by unfold Func.isWrapper; first | (rw [if_pos (by decide +kernel)]; kernel_rfl) | (rw [if_neg (by decide +kernel)]; exact ⟨rfl, rfl⟩))
    (fun os started H enc _ F => by rw [OpenClaim.pre_eq_preRow]; exact lifted os started H enc F)
theorem plain (f : FuncId) (fn : Func) (hf : Tryd.pinned.checked.prog.funcNamed "remould/remouldlaw04.GaugeGrown" = some f) (hfn : Tryd.pinned.checked.prog.funcs[f]? = some fn) :
    true = Tryd.pinned.checked.prog.looks [] ∧ ∀ (j : Nat) t, fn.params[j]? = some t → Tryd.pinned.checked.prog.wantsStandIn t = false := by
  obtain rfl : f = 5 := Option.some.inj ((show Tryd.prog.funcNamed "remould/remouldlaw04.GaugeGrown" = some 5 by kernel_rfl).symm.trans hf) |>.symm
  obtain rfl : fn = Tryd.f5 := (Option.some.inj (Tryd.func5.symm.trans hfn)).symm
  refine ⟨by kernel_rfl, fun j t ht => ?_⟩
  rw [Tryd.params5] at ht
  have hm : t ∈ [3] := by simpa using Array.mem_of_getElem? ht
  have hall : ([3].all fun u => !Tryd.prog.wantsStandIn u) = true := by kernel_rfl
  exact (show Tryd.prog.wantsStandIn t = false by simpa using List.all_eq_true.1 hall t (by simpa using hm))
theorem card : Rows.GaugeGrownCardSaid :=
  Claim7.holds_tied_plain_at .later [] _ _ _ _ said (fun _ h => by cases h) (by kernel_rfl) (fun _ h => by cases h) gaugeGrown_row_tie rfl ⟨rfl, rfl⟩ (by kernel_rfl) rfl plain (by kernel_rfl)
end gaugeGrown
theorem GaugeGrown_holds : Rows.GaugeGrownCardSaid := gaugeGrown.card
end Go.Proofs.YtgocloilagcfoaaDoor
