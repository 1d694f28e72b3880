/- GaugeWhole: for every number and int the law returns true. -/
import Derived.Test.YtgocloilagcfoabDoorL1
import Derived.Test.YtgocloilagcfoabDoorL2
import Derived.Test.YtgocloilagcfoabDoorC5
import Derived.Test.YtgocloilagcfoabDoorM3
import Derived.Test.YtgocloilagcfoabDoorF1
namespace Go.Proofs.YtgocloilagcfoabDoor
open Go.RowKit
attribute [local go_sem ↓] Go.wp_at_zero Go.wp_at_succ

theorem floor_bd {a b n : Int} (h : FloorIs a b n) (b1 : -1000000 ≤ b) (b2 : b ≤ 1000000) : 23416728348467685 * (a - n - 1) + 37889062373143906 * b < 0 ∧ 0 ≤ 23416728348467685 * (a - n) + 37889062373143906 * b := by
  have h1 := GM.sgn_nonneg_lin h.1 (by omega) (by omega)
  have h2 := GM.sgn_neg_lin h.2 (by omega) (by omega)
  unfold GM.lin at h1 h2
  exact ⟨h2, h1⟩
set_option maxRecDepth 100000 in
set_option maxHeartbeats 8000000 in
theorem GaugeWhole_walk (a b k0 : Int) (w : World) (ha : -9223372036854775808 ≤ a ∧ a ≤ 9223372036854775807) (hb : -9223372036854775808 ≤ b ∧ b ≤ 9223372036854775807) (hk : -9223372036854775808 ≤ k0 ∧ k0 ≤ 9223372036854775807) :
    Calls Tryd.prog 9 #[.agg #[.int .i64 a, .int .i64 b], .int .i64 k0] w fun e w' => e = .returned (.bool true) ∧ Below w.heap.size w w' := by
  have hX := fun wx => tame_any a b 250000 wx (by omega) (by omega) ha.1 ha.2 hb.1 hb.2
  have hK := fun wx => mod_any k0 1000000 wx (by omega) (by omega) hk.1 hk.2
  have bX1 := modZ_bd a (2 * 250000 + 1) (by decide)
  have bX2 := modZ_bd b (2 * 250000 + 1) (by decide)
  have bK := modZ_bd k0 1000000 (by decide)
  obtain ⟨X1, e1⟩ : ∃ x, modZ a (2 * 250000 + 1) - 250000 = x := ⟨_, rfl⟩
  obtain ⟨X2, e2⟩ : ∃ x, modZ b (2 * 250000 + 1) - 250000 = x := ⟨_, rfl⟩
  obtain ⟨K, e3⟩ : ∃ x, modZ k0 1000000 = x := ⟨_, rfl⟩
  rw [e1, e2] at hX
  rw [e3] at hK bK
  have x1 : -250000 ≤ X1 ∧ X1 ≤ 250000 := by omega
  have x2 : -250000 ≤ X2 ∧ X2 ≤ 250000 := by omega
  clear e1 e2 e3 bX1 bX2 ha hb hk
  have num : ∀ p q : Int, -1000000 ≤ p → p ≤ 1000000 → -1000000 ≤ q → q ≤ 1000000 → isN p q = true := fun p q h1 h2 h3 h4 => (isN_iff p q).2 ⟨h1, h2, h3, h4⟩
  have hN := fun wx => Floor_yes X1 X2 wx (num _ _ (by omega) (by omega) (by omega) (by omega))
  have hM := fun wx => Floor_yes (X1 + (K - 500000)) X2 wx (num _ _ (by omega) (by omega) (by omega) (by omega))
  have HX := Lib.hid hX
  have HK := Lib.hid hK
  have HN := Lib.hid hN
  have HM := Lib.hid hM
  have NUM := Lib.hid num
  clear hX hK hN hM num
  go_enter Tryd.func9, Tryd.ntmps9
  go_wp2_with fail
  refine (HX.out _).mono ?_
  rintro e w1 ⟨rfl, hb1⟩
  have z1_0 : w.heap.size < w1.heap.size := by have := hb1.size; (try simp at this); omega
  have c1_0_0 : w1.cell? ⟨w.heap.size, 0, none⟩ = some (.int .i64 a) := keep_cell hb1 (by first | assumption | (go_simp; done) | (simp; done) | simp [*])
  have c1_0_1 : w1.cell? ⟨w.heap.size, 1, none⟩ = some (.int .i64 b) := keep_cell hb1 (by first | assumption | (go_simp; done) | (simp; done) | simp [*])
  have f1_0 : ∀ o, w1.frozen? ⟨w.heap.size, o, none⟩ = false := fun o => (hb1.frozen (p := ⟨w.heap.size, o, none⟩) (by first | assumption | (simp; done) | (simp; omega))).trans (by first | (simp; done) | (go_simp; done) | simp [*])
  have B1 : Below w.heap.size w w1 := bl_call (by repeat (first | exact Below.refl _ _ | exact Nat.le_refl _ | refine Below.alloc ?_ ?_ _ | refine Below.setCell ?_ ?_ _ | refine Below.drew ?_ | refine bl_drewN ?_ _ | (assumption) | refine bl_call ?_ (by assumption) ?_ | omega | (simp <;> omega))) hb1 (by first | assumption | (simp; done) | (simp; omega) | omega)
  clear hb1
  have hsz_1 := B1.size
  go_wp2_with fail
  refine (HK.out _).mono ?_
  rintro e w2 ⟨rfl, hb2⟩
  have z2_0 : w.heap.size < w2.heap.size := by have := hb2.size; (try simp at this); omega
  have cew_heap_size2_0 : w2.cell? ⟨w.heap.size, 0, none⟩ = some (.int .i64 X1) := keep_cell hb2 (by first | assumption | (go_simp; done) | (simp; done) | simp [*])
  have zew_heap_size2 : w.heap.size < w2.heap.size := block_lt_of_cell cew_heap_size2_0
  have cew_heap_size2_1 : w2.cell? ⟨w.heap.size, 1, none⟩ = some (.int .i64 X2) := keep_cell hb2 (by first | assumption | (go_simp; done) | (simp; done) | simp [*])
  have B2 : Below w.heap.size w w2 := bl_call (by repeat (first | exact Below.refl _ _ | exact Nat.le_refl _ | refine Below.alloc ?_ ?_ _ | refine Below.setCell ?_ ?_ _ | refine Below.drew ?_ | refine bl_drewN ?_ _ | (assumption) | refine bl_call ?_ (by assumption) ?_ | omega | (simp <;> omega))) hb2 (by first | assumption | (simp; done) | (simp; omega) | omega)
  clear hb2
  have hsz_2 := B2.size
  go_wp2_with fail
  refine (HN.out _).mono ?_
  rintro e w3 ⟨n, rfl, hF, n1, n2, hb3⟩
  have z3_0 : w.heap.size < w3.heap.size := by have := hb3.size; (try simp at this); omega
  have cew_heap_size3_0 : w3.cell? ⟨w.heap.size, 0, none⟩ = some (.int .i64 X1) := keep_cell hb3 (by first | assumption | (go_simp; done) | (simp; done) | simp [*])
  have zew_heap_size3 : w.heap.size < w3.heap.size := block_lt_of_cell cew_heap_size3_0
  have cew_heap_size3_1 : w3.cell? ⟨w.heap.size, 1, none⟩ = some (.int .i64 X2) := keep_cell hb3 (by first | assumption | (go_simp; done) | (simp; done) | simp [*])
  have B3 : Below w.heap.size w w3 := bl_call (by repeat (first | exact Below.refl _ _ | exact Nat.le_refl _ | refine Below.alloc ?_ ?_ _ | refine Below.setCell ?_ ?_ _ | refine Below.drew ?_ | refine bl_drewN ?_ _ | (assumption) | refine bl_call ?_ (by assumption) ?_ | omega | (simp <;> omega))) hb3 (by first | assumption | (simp; done) | (simp; omega) | omega)
  clear hb3
  have hsz_3 := B3.size
  go_wp2_with fail
  refine (HM.out _).mono ?_
  rintro e w4 ⟨m, rfl, hG, m1, m2, hb4⟩
  have z4_0 : w.heap.size < w4.heap.size := by have := hb4.size; (try simp at this); omega
  have cew_heap_size4_0 : w4.cell? ⟨w.heap.size, 0, none⟩ = some (.int .i64 X1) := keep_cell hb4 (by first | assumption | (go_simp; done) | (simp; done) | simp [*])
  have zew_heap_size4 : w.heap.size < w4.heap.size := block_lt_of_cell cew_heap_size4_0
  have cew_heap_size4_1 : w4.cell? ⟨w.heap.size, 1, none⟩ = some (.int .i64 X2) := keep_cell hb4 (by first | assumption | (go_simp; done) | (simp; done) | simp [*])
  have B4 : Below w.heap.size w w4 := bl_call (by repeat (first | exact Below.refl _ _ | exact Nat.le_refl _ | refine Below.alloc ?_ ?_ _ | refine Below.setCell ?_ ?_ _ | refine Below.drew ?_ | refine bl_drewN ?_ _ | (assumption) | refine bl_call ?_ (by assumption) ?_ | omega | (simp <;> omega))) hb4 (by first | assumption | (simp; done) | (simp; omega) | omega)
  clear hb4
  have hsz_4 := B4.size
  obtain ⟨u1, u2⟩ := floor_bd hF (by omega) (by omega)
  have hG' : FloorIs (X1 + (K - 500000)) X2 (n + (K - 500000)) := by
    unfold FloorIs
    rw [show X1 + (K - 500000) - (n + (K - 500000)) = X1 - n by omega]
    exact hF
  obtain rfl : m = n + (K - 500000) := GM.floor_unique hG.1 hG.2 hG'.1 hG'.2
  have hA := fun wx => Compare_yes n 0 X1 X2 wx (NUM.out _ _ (by omega) (by omega) (by omega) (by omega)) (NUM.out _ _ (by omega) (by omega) (by omega) (by omega))
  have hB := fun wx => Compare_yes X1 X2 (n + 1) 0 wx (NUM.out _ _ (by omega) (by omega) (by omega) (by omega)) (NUM.out _ _ (by omega) (by omega) (by omega) (by omega))
  rw [sgn_flip] at hA
  rw [show X1 - (n + 1) = X1 - n - 1 by omega, Int.sub_zero] at hB
  have gF1 := hF.1
  have gF2 := hF.2
  obtain ⟨S, eS⟩ : ∃ x, GM.sgn (X1 - n) X2 = x := ⟨_, rfl⟩
  obtain ⟨T, eT⟩ : ∃ x, GM.sgn (X1 - n - 1) X2 = x := ⟨_, rfl⟩
  rw [eS] at hA gF1
  rw [eT] at hB gF2
  have gS : -S ≤ 0 := by omega
  clear eS eT hF hG hG' gF1
  have HA := Lib.hid hA
  have HB := Lib.hid hB
  clear hA hB
  have i1 : ¬ n < -1000000 := by omega
  have i2 : ¬ 1000000 ≤ n := by omega
  go_wp2_with fail
  refine (HA.out _).mono ?_
  rintro e w5 ⟨rfl, hb5⟩
  have z5_0 : w.heap.size < w5.heap.size := by have := hb5.size; (try simp at this); omega
  have cew_heap_size5_0 : w5.cell? ⟨w.heap.size, 0, none⟩ = some (.int .i64 X1) := keep_cell hb5 (by first | assumption | (go_simp; done) | (simp; done) | simp [*])
  have zew_heap_size5 : w.heap.size < w5.heap.size := block_lt_of_cell cew_heap_size5_0
  have cew_heap_size5_1 : w5.cell? ⟨w.heap.size, 1, none⟩ = some (.int .i64 X2) := keep_cell hb5 (by first | assumption | (go_simp; done) | (simp; done) | simp [*])
  have B5 : Below w.heap.size w w5 := bl_call (by repeat (first | exact Below.refl _ _ | exact Nat.le_refl _ | refine Below.alloc ?_ ?_ _ | refine Below.setCell ?_ ?_ _ | refine Below.drew ?_ | refine bl_drewN ?_ _ | (assumption) | refine bl_call ?_ (by assumption) ?_ | omega | (simp <;> omega))) hb5 (by first | assumption | (simp; done) | (simp; omega) | omega)
  clear hb5
  have hsz_5 := B5.size
  go_wp2_with fail
  refine (HB.out _).mono ?_
  rintro e w6 ⟨rfl, hb6⟩
  have z6_0 : w.heap.size < w6.heap.size := by have := hb6.size; (try simp at this); omega
  have cew_heap_size6_0 : w6.cell? ⟨w.heap.size, 0, none⟩ = some (.int .i64 X1) := keep_cell hb6 (by first | assumption | (go_simp; done) | (simp; done) | simp [*])
  have zew_heap_size6 : w.heap.size < w6.heap.size := block_lt_of_cell cew_heap_size6_0
  have cew_heap_size6_1 : w6.cell? ⟨w.heap.size, 1, none⟩ = some (.int .i64 X2) := keep_cell hb6 (by first | assumption | (go_simp; done) | (simp; done) | simp [*])
  have B6 : Below w.heap.size w w6 := bl_call (by repeat (first | exact Below.refl _ _ | exact Nat.le_refl _ | refine Below.alloc ?_ ?_ _ | refine Below.setCell ?_ ?_ _ | refine Below.drew ?_ | refine bl_drewN ?_ _ | (assumption) | refine bl_call ?_ (by assumption) ?_ | omega | (simp <;> omega))) hb6 (by first | assumption | (simp; done) | (simp; omega) | omega)
  clear hb6
  have hsz_6 := B6.size
  go_wp2_with fail
  refine (awake_any _).mono ?_
  rintro e w7 ⟨rfl, hb7⟩
  have z7_0 : w.heap.size < w7.heap.size := by have := hb7.size; (try simp at this); omega
  have cew_heap_size7_0 : w7.cell? ⟨w.heap.size, 0, none⟩ = some (.int .i64 X1) := keep_cell hb7 (by first | assumption | (go_simp; done) | (simp; done) | simp [*])
  have zew_heap_size7 : w.heap.size < w7.heap.size := block_lt_of_cell cew_heap_size7_0
  have cew_heap_size7_1 : w7.cell? ⟨w.heap.size, 1, none⟩ = some (.int .i64 X2) := keep_cell hb7 (by first | assumption | (go_simp; done) | (simp; done) | simp [*])
  have B7 : Below w.heap.size w w7 := bl_call (by repeat (first | exact Below.refl _ _ | exact Nat.le_refl _ | refine Below.alloc ?_ ?_ _ | refine Below.setCell ?_ ?_ _ | refine Below.drew ?_ | refine bl_drewN ?_ _ | (assumption) | refine bl_call ?_ (by assumption) ?_ | omega | (simp <;> omega))) hb7 (by first | assumption | (simp; done) | (simp; omega) | omega)
  clear hb7
  have hsz_7 := B7.size
  go_wp2_with fail
  go_ret
  exact ⟨rfl, (by repeat (first | exact Below.refl _ _ | exact Nat.le_refl _ | refine Below.alloc ?_ ?_ _ | refine Below.setCell ?_ ?_ _ | refine Below.drew ?_ | refine bl_drewN ?_ _ | (assumption) | refine bl_call ?_ (by assumption) ?_ | omega | (simp <;> omega)))⟩
namespace gaugeWhole
open Go.ChangeShapes Go.WideShapes Go.ChangeAt Go.RowKit
open Go.Lib Go.Joins
set_option maxRecDepth 100000 in
theorem contract (H : Type) (enc : TypeId × Value → H) (W : World) (base : Nat) (args : Array Value) (ds gs : List (DataW H)) (before : List MemPlace)
    (hval : ∀ (j : Nat) t v, Tryd.f9.params[j]? = some t → args[j]? = some v → Value.okWide Tryd.prog W .any base t v)
    (hW : DataW.Whole enc Tryd.prog Tryd.f9.params.toList Rows.gaugeWholeSpec.vars false W args.toList ds gs before) :
    Calls Tryd.prog 9 args W fun e W' => ∃ v, e = .returned v ∧ Rows.gaugeWholeSpec.post enc Tryd.prog Tryd.f9 false true false false W args v W' := by
  have hW' := hW
  obtain ⟨p, q, hA0, hV, rfl, hfz, hnd⟩ := hW
  have hA : DataW.TrodAll enc Tryd.prog W 0 (fun _ => true) true Tryd.f9.params.toList args.toList ds p := hA0
  rw [Tryd.params9] at hA hval
  obtain ⟨v0, vs0, d0, ds0, p0, q0, hargs, rfl, rfl, h0, r0⟩ := trodAll_cons hA
  obtain ⟨v1, vs1, d1, ds1, p1, q1, rfl, rfl, rfl, h1, r1⟩ := trodAll_cons r0
  obtain ⟨rfl, rfl, rfl⟩ := trodAll_nil r1
  obtain rfl : args = #[v0, v1] := by cases args; simp_all
  obtain ⟨rfl, rfl⟩ := trodVars_none hV
  obtain ⟨u0, t0, y0, z0, n0, rfl, rfl, rfl, tu0, tt0⟩ := open_agg2 Tryd.underlying23 (by kernel_rfl) (by kernel_rfl) (hval 0 23 v0 rfl rfl) h0
  obtain ⟨a0, ea0, rfl, wa0⟩ := DataW.trod_int Tryd.underlying3 tu0
  obtain ⟨b0, eb0, rfl, wb0⟩ := DataW.trod_int Tryd.underlying3 tt0
  obtain rfl : u0 = .int .i64 a0 := by simpa using ea0
  obtain rfl : t0 = .int .i64 b0 := by simpa using eb0
  obtain ⟨x1, rfl, rfl, rfl, wx1⟩ := open_int Tryd.underlying3 (hval 1 3 v1 rfl rfl) h1
  clear hA0
  simp only [List.append_nil] at hW'
  refine (show Calls Tryd.prog 9 _ W _ from (GaugeWhole_walk a0 b0 x1 W (inI wa0) (inI wb0) (inI wx1))).mono fun e W' ⟨he, hb⟩ => ?_
  subst he
  exact ⟨_, rfl, _, _, _, [], [], [], hW', trodAll_mk1 (shut_bool Tryd.underlying4 _), trodAll_cons_mk (shut_agg2 (y0 := (.lit (.int .i64 a0), [])) (y1 := (.lit (.int .i64 b0), [])) Tryd.underlying23 (by kernel_rfl) (by kernel_rfl) ⟨1, by simp [DataW.trod, Tryd.underlying3, wa0]⟩ ⟨1, by simp [DataW.trod, Tryd.underlying3, wb0]⟩) (trodAll_cons_mk (shut_int Tryd.underlying3 wx1) (trodAll_mk0)), rfl, hb.frame _, fun h => by cases h⟩
theorem reads (os : Os) {H : Type} (enc : TypeId × Value → H) : ∃ places, DataW.whole enc Tryd.prog ((laidWorld os).forCall (fun _ _ => 0) ⟨#[], #[.agg #[.int .i64 0, .int .i64 0], .int .i64 0], []⟩).memory Tryd.f9.params.toList Rows.gaugeWholeSpec.vars false (#[.agg #[.int .i64 0, .int .i64 0], .int .i64 0] : Array Value).toList 8 = some ([.agg [.lit (.int .i64 0), .lit (.int .i64 0)], .lit (.int .i64 0)], [], places) :=
  ⟨[], by kernel_rfl⟩
set_option maxRecDepth 100000 in
theorem lifted (os : Os) (started : os.Started) (H : Type) (enc : TypeId × Value → H) (F : Stop.Interp) :
    ReturnsInHanded {} Tryd.checked os 9 .any ((OpenSpec.ofChange Rows.gaugeWholeSpec).preRow enc Tryd.prog Tryd.f9 Rows.gaugeWholeRow.domain false Rows.gaugeWholeRow.laid) (((OpenSpec.ofChange Rows.gaugeWholeSpec).at F).post enc Tryd.prog Tryd.f9 false true false false) := by
  obtain ⟨places, hx⟩ := reads os enc
  refine returnsInHanded_of_row (C := Tryd.checked) (s := OpenSpec.ofChange Rows.gaugeWholeSpec) own started (by kernel_rfl) Tryd.func9
    (witness_row_at (enc := enc) (C := Tryd.checked) false (laidWorld os) #[.agg #[.int .i64 0, .int .i64 0], .int .i64 0] rfl (by kernel_rfl) (by kernel_rfl) (by kernel_rfl)
      (OpenSpec.preRow_of_cond 8 hx (by kernel_rfl) (fun k hk => by cases hk) (by kernel_rfl) (laid_met os _))) ?_
  intro W base args ds gs before hval hW _ _ _ _ _ _
  exact contract H enc W base args ds gs before hval hW
theorem said : Rows.GaugeWholeSaid :=
  OpenClaim.holds_of_cond 9 Tryd.f9 rfl rfl rfl rfl rfl rfl rfl ⟨rfl, rfl, rfl, rfl, rfl⟩ rfl rfl rfl rfl rfl (by kernel_rfl) Tryd.func9 (by kernel_rfl)
    (of_decide_eq_true (by kernel_rfl)) (by unfold Func.isWrapper; first | (rw [if_pos (by decide +kernel)]; kernel_rfl) | (rw [if_neg (by decide +kernel)]; exact ⟨rfl, rfl⟩))
    (fun os started H enc _ F => by rw [OpenClaim.pre_eq_preRow]; exact lifted os started H enc F)
theorem plain (f : FuncId) (fn : Func) (hf : Tryd.pinned.checked.prog.funcNamed "remould/remouldlaw04.GaugeWhole" = some f) (hfn : Tryd.pinned.checked.prog.funcs[f]? = some fn) :
    true = Tryd.pinned.checked.prog.looks [] ∧ ∀ (j : Nat) t, fn.params[j]? = some t → Tryd.pinned.checked.prog.wantsStandIn t = false := by
  obtain rfl : f = 9 := Option.some.inj ((show Tryd.prog.funcNamed "remould/remouldlaw04.GaugeWhole" = some 9 by kernel_rfl).symm.trans hf) |>.symm
  obtain rfl : fn = Tryd.f9 := (Option.some.inj (Tryd.func9.symm.trans hfn)).symm
  refine ⟨by kernel_rfl, fun j t ht => ?_⟩
  rw [Tryd.params9] at ht
  have hm : t ∈ [23, 3] := by simpa using Array.mem_of_getElem? ht
  have hall : ([23, 3].all fun u => !Tryd.prog.wantsStandIn u) = true := by kernel_rfl
  exact (show Tryd.prog.wantsStandIn t = false by simpa using List.all_eq_true.1 hall t (by simpa using hm))
theorem card : Rows.GaugeWholeCardSaid :=
  Claim7.holds_tied_plain_at .later [] _ _ _ _ said (fun _ h => by cases h) (by kernel_rfl) (fun _ h => by cases h) gaugeWhole_row_tie rfl ⟨rfl, rfl⟩ (by kernel_rfl) rfl plain (by kernel_rfl)
end gaugeWhole
theorem GaugeWhole_holds : Rows.GaugeWholeCardSaid := gaugeWhole.card
end Go.Proofs.YtgocloilagcfoabDoor
