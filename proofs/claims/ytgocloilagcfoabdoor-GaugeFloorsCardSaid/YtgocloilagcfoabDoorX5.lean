/- GaugeFloors: for every number the law returns true. -/
import Derived.Test.YtgocloilagcfoabDoorL1
import Derived.Test.YtgocloilagcfoabDoorC5
import Derived.Test.YtgocloilagcfoabDoorR4
import Derived.Test.YtgocloilagcfoabDoorF1
namespace Go.Proofs.YtgocloilagcfoabDoor
open Go.RowKit
attribute [local go_sem ↓] Go.wp_at_zero Go.wp_at_succ

set_option maxRecDepth 100000 in
set_option maxHeartbeats 8000000 in
theorem GaugeFloors_walk (a b : Int) (w : World) (_ : -9223372036854775808 ≤ a ∧ a ≤ 9223372036854775807) (_ : -9223372036854775808 ≤ b ∧ b ≤ 9223372036854775807) :
    Calls Tryd.prog 13 #[.agg #[.int .i64 a, .int .i64 b]] w fun e w' => e = .returned (.bool true) ∧ Below w.heap.size w w' := by
  by_cases h1 : isN a b = true
  · obtain ⟨x1, x2, x3, x4⟩ := (isN_iff a b).1 h1
    simp only [] at x1 x2 x3 x4
    have HF := Lib.hid (fun wx => Floor_yes a b wx h1)
    have hN := fun wx => Norm_yes a b wx h1
    have hM := fun wx => Mate_yes a b wx h1
    have HFR := Lib.hid (fun wx => refFloor a b wx x1 x2 x3 x4)
    have hNR := fun wx => refNorm a b wx (by omega) (by omega) (by omega) (by omega)
    have HMR := Lib.hid (fun wx => refMate a b wx (by omega) (by omega) (by omega) (by omega))
    obtain ⟨N, eN⟩ : ∃ x, a * a + a * b - b * b = x := ⟨_, rfl⟩
    rw [eN] at hN hNR
    clear eN
    have HN := Lib.hid hN
    have HNR := Lib.hid hNR
    have H1 := Lib.hid h1
    clear hN hNR h1
    by_cases k1 : isN (a + b) (-b) = true
    · have HM := Lib.hid (fun wx => by have := hM wx; rw [show smallV (a + b) (-b) = .tuple #[.agg #[.int .i64 (a + b), .int .i64 (-b)], .int .i64 0] from if_pos k1] at this; exact this)
      have K1 := Lib.hid k1
      clear hM k1
      go_enter Tryd.func13, Tryd.ntmps13
      go_wp2_with fail
      refine (HF.out _).mono ?_
      rintro e w1 ⟨n, rfl, hF, n1, n2, hb1⟩
      have z1_0 : w.heap.size < w1.heap.size := by have := hb1.size; (try simp at this); omega
      have cew_heap_size1_0 : w1.cell? ⟨w.heap.size, 0, none⟩ = some (.int .i64 a) := keep_cell hb1 (by first | assumption | (go_simp; done) | (simp; done) | simp [*])
      have zew_heap_size1 : w.heap.size < w1.heap.size := block_lt_of_cell cew_heap_size1_0
      have cew_heap_size1_1 : w1.cell? ⟨w.heap.size, 1, none⟩ = some (.int .i64 b) := keep_cell hb1 (by first | assumption | (go_simp; done) | (simp; done) | simp [*])
      have B1 : Below w.heap.size w w1 := bl_call (by repeat (first | exact Below.refl _ _ | exact Nat.le_refl _ | refine Below.alloc ?_ ?_ _ | refine Below.setCell ?_ ?_ _ | refine Below.drew ?_ | refine bl_drewN ?_ _ | (assumption) | refine bl_call ?_ (by assumption) ?_ | omega | (simp <;> omega))) hb1 (by first | assumption | (simp; done) | (simp; omega) | omega)
      clear hb1
      have hsz_1 := B1.size
      go_wp2_with fail
      refine (HN.out _).mono ?_
      rintro e w2 ⟨rfl, hb2⟩
      have z2_0 : w.heap.size < w2.heap.size := by have := hb2.size; (try simp at this); omega
      have cew_heap_size2_0 : w2.cell? ⟨w.heap.size, 0, none⟩ = some (.int .i64 a) := keep_cell hb2 (by first | assumption | (go_simp; done) | (simp; done) | simp [*])
      have zew_heap_size2 : w.heap.size < w2.heap.size := block_lt_of_cell cew_heap_size2_0
      have cew_heap_size2_1 : w2.cell? ⟨w.heap.size, 1, none⟩ = some (.int .i64 b) := keep_cell hb2 (by first | assumption | (go_simp; done) | (simp; done) | simp [*])
      have B2 : Below w.heap.size w w2 := bl_call (by repeat (first | exact Below.refl _ _ | exact Nat.le_refl _ | refine Below.alloc ?_ ?_ _ | refine Below.setCell ?_ ?_ _ | refine Below.drew ?_ | refine bl_drewN ?_ _ | (assumption) | refine bl_call ?_ (by assumption) ?_ | omega | (simp <;> omega))) hb2 (by first | assumption | (simp; done) | (simp; omega) | omega)
      clear hb2
      have hsz_2 := B2.size
      go_wp2_with fail
      refine (HM.out _).mono ?_
      rintro e w3 ⟨rfl, hb3⟩
      have z3_0 : w.heap.size < w3.heap.size := by have := hb3.size; (try simp at this); omega
      have cew_heap_size3_0 : w3.cell? ⟨w.heap.size, 0, none⟩ = some (.int .i64 a) := keep_cell hb3 (by first | assumption | (go_simp; done) | (simp; done) | simp [*])
      have zew_heap_size3 : w.heap.size < w3.heap.size := block_lt_of_cell cew_heap_size3_0
      have cew_heap_size3_1 : w3.cell? ⟨w.heap.size, 1, none⟩ = some (.int .i64 b) := keep_cell hb3 (by first | assumption | (go_simp; done) | (simp; done) | simp [*])
      have B3 : Below w.heap.size w w3 := bl_call (by repeat (first | exact Below.refl _ _ | exact Nat.le_refl _ | refine Below.alloc ?_ ?_ _ | refine Below.setCell ?_ ?_ _ | refine Below.drew ?_ | refine bl_drewN ?_ _ | (assumption) | refine bl_call ?_ (by assumption) ?_ | omega | (simp <;> omega))) hb3 (by first | assumption | (simp; done) | (simp; omega) | omega)
      clear hb3
      have hsz_3 := B3.size
      go_wp2_with fail
      refine (refNumber _ _ _).mono ?_
      rintro e w4 ⟨rfl, hb4⟩
      have z4_0 : w.heap.size < w4.heap.size := by have := hb4.size; (try simp at this); omega
      have cew_heap_size4_0 : w4.cell? ⟨w.heap.size, 0, none⟩ = some (.int .i64 a) := keep_cell hb4 (by first | assumption | (go_simp; done) | (simp; done) | simp [*])
      have zew_heap_size4 : w.heap.size < w4.heap.size := block_lt_of_cell cew_heap_size4_0
      have cew_heap_size4_1 : w4.cell? ⟨w.heap.size, 1, none⟩ = some (.int .i64 b) := keep_cell hb4 (by first | assumption | (go_simp; done) | (simp; done) | simp [*])
      have cew3_heap_size4_0 : w4.cell? ⟨w3.heap.size, 0, none⟩ = some (.int .i64 (a + b)) := keep_cell hb4 (by first | assumption | (go_simp; done) | (simp; done) | simp [*])
      have zew3_heap_size4 : w3.heap.size < w4.heap.size := block_lt_of_cell cew3_heap_size4_0
      have cew3_heap_size4_1 : w4.cell? ⟨w3.heap.size, 1, none⟩ = some (.int .i64 (-b)) := keep_cell hb4 (by first | assumption | (go_simp; done) | (simp; done) | simp [*])
      have B4 : Below w.heap.size w w4 := bl_call (by repeat (first | exact Below.refl _ _ | exact Nat.le_refl _ | refine Below.alloc ?_ ?_ _ | refine Below.setCell ?_ ?_ _ | refine Below.drew ?_ | refine bl_drewN ?_ _ | (assumption) | refine bl_call ?_ (by assumption) ?_ | omega | (simp <;> omega))) hb4 (by first | assumption | (simp; done) | (simp; omega) | omega)
      clear hb4
      have hsz_4 := B4.size
      rw [H1.out]
      go_wp2_with fail
      refine (HFR.out _).mono ?_
      rintro e w5 ⟨m, rfl, hG, hb5⟩
      have z5_0 : w.heap.size < w5.heap.size := by have := hb5.size; (try simp at this); omega
      have cew_heap_size5_0 : w5.cell? ⟨w.heap.size, 0, none⟩ = some (.int .i64 a) := keep_cell hb5 (by first | assumption | (go_simp; done) | (simp; done) | simp [*])
      have zew_heap_size5 : w.heap.size < w5.heap.size := block_lt_of_cell cew_heap_size5_0
      have cew_heap_size5_1 : w5.cell? ⟨w.heap.size, 1, none⟩ = some (.int .i64 b) := keep_cell hb5 (by first | assumption | (go_simp; done) | (simp; done) | simp [*])
      have cew3_heap_size5_0 : w5.cell? ⟨w3.heap.size, 0, none⟩ = some (.int .i64 (a + b)) := keep_cell hb5 (by first | assumption | (go_simp; done) | (simp; done) | simp [*])
      have zew3_heap_size5 : w3.heap.size < w5.heap.size := block_lt_of_cell cew3_heap_size5_0
      have cew3_heap_size5_1 : w5.cell? ⟨w3.heap.size, 1, none⟩ = some (.int .i64 (-b)) := keep_cell hb5 (by first | assumption | (go_simp; done) | (simp; done) | simp [*])
      have B5 : Below w.heap.size w w5 := bl_call (by repeat (first | exact Below.refl _ _ | exact Nat.le_refl _ | refine Below.alloc ?_ ?_ _ | refine Below.setCell ?_ ?_ _ | refine Below.drew ?_ | refine bl_drewN ?_ _ | (assumption) | refine bl_call ?_ (by assumption) ?_ | omega | (simp <;> omega))) hb5 (by first | assumption | (simp; done) | (simp; omega) | omega)
      clear hb5
      have hsz_5 := B5.size
      obtain rfl : n = m := GM.floor_unique hF.1 hF.2 hG.1 hG.2
      clear hF hG
      go_wp2_with fail
      refine (HNR.out _).mono ?_
      rintro e w6 ⟨rfl, hb6⟩
      have z6_0 : w.heap.size < w6.heap.size := by have := hb6.size; (try simp at this); omega
      have cew_heap_size6_0 : w6.cell? ⟨w.heap.size, 0, none⟩ = some (.int .i64 a) := keep_cell hb6 (by first | assumption | (go_simp; done) | (simp; done) | simp [*])
      have zew_heap_size6 : w.heap.size < w6.heap.size := block_lt_of_cell cew_heap_size6_0
      have cew_heap_size6_1 : w6.cell? ⟨w.heap.size, 1, none⟩ = some (.int .i64 b) := keep_cell hb6 (by first | assumption | (go_simp; done) | (simp; done) | simp [*])
      have cew3_heap_size6_0 : w6.cell? ⟨w3.heap.size, 0, none⟩ = some (.int .i64 (a + b)) := keep_cell hb6 (by first | assumption | (go_simp; done) | (simp; done) | simp [*])
      have zew3_heap_size6 : w3.heap.size < w6.heap.size := block_lt_of_cell cew3_heap_size6_0
      have cew3_heap_size6_1 : w6.cell? ⟨w3.heap.size, 1, none⟩ = some (.int .i64 (-b)) := keep_cell hb6 (by first | assumption | (go_simp; done) | (simp; done) | simp [*])
      have B6 : Below w.heap.size w w6 := bl_call (by repeat (first | exact Below.refl _ _ | exact Nat.le_refl _ | refine Below.alloc ?_ ?_ _ | refine Below.setCell ?_ ?_ _ | refine Below.drew ?_ | refine bl_drewN ?_ _ | (assumption) | refine bl_call ?_ (by assumption) ?_ | omega | (simp <;> omega))) hb6 (by first | assumption | (simp; done) | (simp; omega) | omega)
      clear hb6
      have hsz_6 := B6.size
      go_wp2_with fail
      refine (HMR.out _).mono ?_
      rintro e w7 ⟨rfl, hb7⟩
      have z7_0 : w.heap.size < w7.heap.size := by have := hb7.size; (try simp at this); omega
      have cew_heap_size7_0 : w7.cell? ⟨w.heap.size, 0, none⟩ = some (.int .i64 a) := keep_cell hb7 (by first | assumption | (go_simp; done) | (simp; done) | simp [*])
      have zew_heap_size7 : w.heap.size < w7.heap.size := block_lt_of_cell cew_heap_size7_0
      have cew_heap_size7_1 : w7.cell? ⟨w.heap.size, 1, none⟩ = some (.int .i64 b) := keep_cell hb7 (by first | assumption | (go_simp; done) | (simp; done) | simp [*])
      have cew3_heap_size7_0 : w7.cell? ⟨w3.heap.size, 0, none⟩ = some (.int .i64 (a + b)) := keep_cell hb7 (by first | assumption | (go_simp; done) | (simp; done) | simp [*])
      have zew3_heap_size7 : w3.heap.size < w7.heap.size := block_lt_of_cell cew3_heap_size7_0
      have cew3_heap_size7_1 : w7.cell? ⟨w3.heap.size, 1, none⟩ = some (.int .i64 (-b)) := keep_cell hb7 (by first | assumption | (go_simp; done) | (simp; done) | simp [*])
      have B7 : Below w.heap.size w w7 := bl_call (by repeat (first | exact Below.refl _ _ | exact Nat.le_refl _ | refine Below.alloc ?_ ?_ _ | refine Below.setCell ?_ ?_ _ | refine Below.drew ?_ | refine bl_drewN ?_ _ | (assumption) | refine bl_call ?_ (by assumption) ?_ | omega | (simp <;> omega))) hb7 (by first | assumption | (simp; done) | (simp; omega) | omega)
      clear hb7
      have hsz_7 := B7.size
      go_wp2_with fail
      refine (refNumber _ _ _).mono ?_
      rintro e w8 ⟨rfl, hb8⟩
      have z8_0 : w.heap.size < w8.heap.size := by have := hb8.size; (try simp at this); omega
      have cew_heap_size8_0 : w8.cell? ⟨w.heap.size, 0, none⟩ = some (.int .i64 a) := keep_cell hb8 (by first | assumption | (go_simp; done) | (simp; done) | simp [*])
      have zew_heap_size8 : w.heap.size < w8.heap.size := block_lt_of_cell cew_heap_size8_0
      have cew_heap_size8_1 : w8.cell? ⟨w.heap.size, 1, none⟩ = some (.int .i64 b) := keep_cell hb8 (by first | assumption | (go_simp; done) | (simp; done) | simp [*])
      have cew3_heap_size8_0 : w8.cell? ⟨w3.heap.size, 0, none⟩ = some (.int .i64 (a + b)) := keep_cell hb8 (by first | assumption | (go_simp; done) | (simp; done) | simp [*])
      have zew3_heap_size8 : w3.heap.size < w8.heap.size := block_lt_of_cell cew3_heap_size8_0
      have cew3_heap_size8_1 : w8.cell? ⟨w3.heap.size, 1, none⟩ = some (.int .i64 (-b)) := keep_cell hb8 (by first | assumption | (go_simp; done) | (simp; done) | simp [*])
      have B8 : Below w.heap.size w w8 := bl_call (by repeat (first | exact Below.refl _ _ | exact Nat.le_refl _ | refine Below.alloc ?_ ?_ _ | refine Below.setCell ?_ ?_ _ | refine Below.drew ?_ | refine bl_drewN ?_ _ | (assumption) | refine bl_call ?_ (by assumption) ?_ | omega | (simp <;> omega))) hb8 (by first | assumption | (simp; done) | (simp; omega) | omega)
      clear hb8
      have hsz_8 := B8.size
      rw [K1.out]
      go_upto_region 10 with fail
      refine with_act fun a0 ha0 => ?_
      refine wp_region_inv (by kernel_rfl) (by kernel_rfl) (fun s a' w' => ∃ v85 v86 v87 v88 v89 v90 v91 v92 v93 v94 v95 v2 : Value, a' = putL a0 [(85, v85), (86, v86), (87, v87), (88, v88), (89, v89), (90, v90), (91, v91), (92, v92), (93, v93), (94, v94), (95, v95), (2, v2)] ∧ Hid ((s 0 = true → v85 = .agg #[.int .i64 (a + b), .int .i64 (-b)]) ∧ (s 1 = true → v86 = .agg #[.int .i64 a, .int .i64 b]) ∧ (s 2 = true → v87 = .agg #[.int .i64 (a + b), .int .i64 (-b)]) ∧ (s 3 = true → v88 = .bool true) ∧ (s 4 = true → v89 = .bool true) ∧ (s 5 = true → v90 = .int .i64 0) ∧ (s 6 = true → v91 = .bool true) ∧ (s 7 = true → v92 = .bool true) ∧ (s 8 = true → v93 = .bool true) ∧ (s 9 = true → v94 = .bool true) ∧ (s 10 = true → v95 = .bool true) ∧ (s 11 = true → v2 = .bool true) ∧ True) ∧ BelX [] w8 w' ∧ True) ?x1hzero ⟨?x1hs0, ?x1hs1, ?x1hs2, ?x1hs3, ?x1hs4, ?x1hs5, ?x1hs6, ?x1hs7, ?x1hs8, ?x1hs9, ?x1hs10, ?x1hs11, trivial⟩ ?x1hdone
      case x1hzero =>
        refine ⟨a0.tmps.getD 85 undef, a0.tmps.getD 86 undef, a0.tmps.getD 87 undef, a0.tmps.getD 88 undef, a0.tmps.getD 89 undef, a0.tmps.getD 90 undef, a0.tmps.getD 91 undef, a0.tmps.getD 92 undef, a0.tmps.getD 93 undef, a0.tmps.getD 94 undef, a0.tmps.getD 95 undef, a0.tmps.getD 2 undef, ?_, ?_, ?_, trivial⟩
        · simp only [putL, put_self]
        · exact Lib.hid ⟨fun h => (by simp at h), fun h => (by simp at h), fun h => (by simp at h), fun h => (by simp at h), fun h => (by simp at h), fun h => (by simp at h), fun h => (by simp at h), fun h => (by simp at h), fun h => (by simp at h), fun h => (by simp at h), fun h => (by simp at h), fun h => (by simp at h), trivial⟩
        · exact BelX.start _ _
      case x1hs0 =>
        intro s a' w' hsk hdep hI K hK
        try dsimp only at hI hK
        obtain ⟨v85, v86, v87, v88, v89, v90, v91, v92, v93, v94, v95, v2, hact, hR, hX, _⟩ := hI
        subst hact
        have HK := Lib.hid hK
        clear hK
        have kc0 : w'.cell? ⟨w.heap.size, 0, none⟩ = some (.int .i64 a) := hX.cell (by first | (simp; done) | (simp; omega)) (by first | assumption | (go_simp; done) | (simp; done))
        have kc1 : w'.cell? ⟨w.heap.size, 1, none⟩ = some (.int .i64 b) := hX.cell (by first | (simp; done) | (simp; omega)) (by first | assumption | (go_simp; done) | (simp; done))
        have kc2 : w'.cell? ⟨w3.heap.size, 0, none⟩ = some (.int .i64 (a + b)) := hX.cell (by first | (simp; done) | (simp; omega)) (by first | assumption | (go_simp; done) | (simp; done))
        have kc3 : w'.cell? ⟨w3.heap.size, 1, none⟩ = some (.int .i64 (-b)) := hX.cell (by first | (simp; done) | (simp; omega)) (by first | assumption | (go_simp; done) | (simp; done))
        clear hdep
        refine StepG.mk rfl ?_; rw [ha0]; simp only [putL, Act.put, List.setIfInBounds_toArray, List.set_cons_zero, List.set_cons_succ]
        go_wp2_with fail
        refine HK.out _ _ ?_
        refine ⟨(.agg #[.int .i64 (a + b), .int .i64 (-b)]), v86, v87, v88, v89, v90, v91, v92, v93, v94, v95, v2, (by rw [ha0]; simp only [putL, Act.put, List.setIfInBounds_toArray, List.set_cons_zero, List.set_cons_succ]), ?_, ?_, trivial⟩
        · obtain ⟨h85, h86, h87, h88, h89, h90, h91, h92, h93, h94, h95, h2, _⟩ := hR.out
          exact Lib.hid ⟨fun _ => rfl, fun h => h86 (by simpa using h), fun h => h87 (by simpa using h), fun h => h88 (by simpa using h), fun h => h89 (by simpa using h), fun h => h90 (by simpa using h), fun h => h91 (by simpa using h), fun h => h92 (by simpa using h), fun h => h93 (by simpa using h), fun h => h94 (by simpa using h), fun h => h95 (by simpa using h), fun h => h2 (by simpa using h), trivial⟩
        · exact hX
      case x1hs1 =>
        intro s a' w' hsk hdep hI K hK
        try dsimp only at hI hK
        obtain ⟨v85, v86, v87, v88, v89, v90, v91, v92, v93, v94, v95, v2, hact, hR, hX, _⟩ := hI
        subst hact
        have HK := Lib.hid hK
        clear hK
        have kc0 : w'.cell? ⟨w.heap.size, 0, none⟩ = some (.int .i64 a) := hX.cell (by first | (simp; done) | (simp; omega)) (by first | assumption | (go_simp; done) | (simp; done))
        have kc1 : w'.cell? ⟨w.heap.size, 1, none⟩ = some (.int .i64 b) := hX.cell (by first | (simp; done) | (simp; omega)) (by first | assumption | (go_simp; done) | (simp; done))
        have kc2 : w'.cell? ⟨w3.heap.size, 0, none⟩ = some (.int .i64 (a + b)) := hX.cell (by first | (simp; done) | (simp; omega)) (by first | assumption | (go_simp; done) | (simp; done))
        have kc3 : w'.cell? ⟨w3.heap.size, 1, none⟩ = some (.int .i64 (-b)) := hX.cell (by first | (simp; done) | (simp; omega)) (by first | assumption | (go_simp; done) | (simp; done))
        clear hdep
        refine StepG.mk rfl ?_; rw [ha0]; simp only [putL, Act.put, List.setIfInBounds_toArray, List.set_cons_zero, List.set_cons_succ]
        go_wp2_with fail
        refine HK.out _ _ ?_
        refine ⟨v85, (.agg #[.int .i64 a, .int .i64 b]), v87, v88, v89, v90, v91, v92, v93, v94, v95, v2, (by rw [ha0]; simp only [putL, Act.put, List.setIfInBounds_toArray, List.set_cons_zero, List.set_cons_succ]), ?_, ?_, trivial⟩
        · obtain ⟨h85, h86, h87, h88, h89, h90, h91, h92, h93, h94, h95, h2, _⟩ := hR.out
          exact Lib.hid ⟨fun h => h85 (by simpa using h), fun _ => rfl, fun h => h87 (by simpa using h), fun h => h88 (by simpa using h), fun h => h89 (by simpa using h), fun h => h90 (by simpa using h), fun h => h91 (by simpa using h), fun h => h92 (by simpa using h), fun h => h93 (by simpa using h), fun h => h94 (by simpa using h), fun h => h95 (by simpa using h), fun h => h2 (by simpa using h), trivial⟩
        · exact hX
      case x1hs2 =>
        intro s a' w' hsk hdep hI K hK
        try dsimp only at hI hK
        obtain ⟨v85, v86, v87, v88, v89, v90, v91, v92, v93, v94, v95, v2, hact, hR, hX, _⟩ := hI
        subst hact
        have HK := Lib.hid hK
        clear hK
        have e86 : v86 = .agg #[.int .i64 a, .int .i64 b] := by obtain ⟨h85, h86, h87, h88, h89, h90, h91, h92, h93, h94, h95, h2, _⟩ := hR.out; exact h86 (hdep ⟨1, .data⟩ (by simp) rfl)
        subst e86
        have kc0 : w'.cell? ⟨w.heap.size, 0, none⟩ = some (.int .i64 a) := hX.cell (by first | (simp; done) | (simp; omega)) (by first | assumption | (go_simp; done) | (simp; done))
        have kc1 : w'.cell? ⟨w.heap.size, 1, none⟩ = some (.int .i64 b) := hX.cell (by first | (simp; done) | (simp; omega)) (by first | assumption | (go_simp; done) | (simp; done))
        have kc2 : w'.cell? ⟨w3.heap.size, 0, none⟩ = some (.int .i64 (a + b)) := hX.cell (by first | (simp; done) | (simp; omega)) (by first | assumption | (go_simp; done) | (simp; done))
        have kc3 : w'.cell? ⟨w3.heap.size, 1, none⟩ = some (.int .i64 (-b)) := hX.cell (by first | (simp; done) | (simp; omega)) (by first | assumption | (go_simp; done) | (simp; done))
        clear hdep
        refine StepG.mk rfl ?_; rw [ha0]; simp only [putL, Act.put, List.setIfInBounds_toArray, List.set_cons_zero, List.set_cons_succ]
        go_wp2_with fail
        refine ((HMR.out _)).mono ?_
        rintro e wn ⟨rfl, hb⟩
        go_wp2_with fail
        refine HK.out _ _ ?_
        refine ⟨v85, (.agg #[.int .i64 a, .int .i64 b]), (.agg #[.int .i64 (a + b), .int .i64 (-b)]), v88, v89, v90, v91, v92, v93, v94, v95, v2, (by rw [ha0]; simp only [putL, Act.put, List.setIfInBounds_toArray, List.set_cons_zero, List.set_cons_succ]), ?_, ?_, trivial⟩
        · obtain ⟨h85, h86, h87, h88, h89, h90, h91, h92, h93, h94, h95, h2, _⟩ := hR.out
          exact Lib.hid ⟨fun h => h85 (by simpa using h), fun _ => rfl, fun _ => rfl, fun h => h88 (by simpa using h), fun h => h89 (by simpa using h), fun h => h90 (by simpa using h), fun h => h91 (by simpa using h), fun h => h92 (by simpa using h), fun h => h93 (by simpa using h), fun h => h94 (by simpa using h), fun h => h95 (by simpa using h), fun h => h2 (by simpa using h), trivial⟩
        · exact hX.call hb
      case x1hs3 =>
        intro s a' w' hsk hdep hI K hK
        try dsimp only at hI hK
        obtain ⟨v85, v86, v87, v88, v89, v90, v91, v92, v93, v94, v95, v2, hact, hR, hX, _⟩ := hI
        subst hact
        have HK := Lib.hid hK
        clear hK
        have e85 : v85 = .agg #[.int .i64 (a + b), .int .i64 (-b)] := by obtain ⟨h85, h86, h87, h88, h89, h90, h91, h92, h93, h94, h95, h2, _⟩ := hR.out; exact h85 (hdep ⟨0, .data⟩ (by simp) rfl)
        subst e85
        have e87 : v87 = .agg #[.int .i64 (a + b), .int .i64 (-b)] := by obtain ⟨h85, h86, h87, h88, h89, h90, h91, h92, h93, h94, h95, h2, _⟩ := hR.out; exact h87 (hdep ⟨2, .data⟩ (by simp) rfl)
        subst e87
        have kc0 : w'.cell? ⟨w.heap.size, 0, none⟩ = some (.int .i64 a) := hX.cell (by first | (simp; done) | (simp; omega)) (by first | assumption | (go_simp; done) | (simp; done))
        have kc1 : w'.cell? ⟨w.heap.size, 1, none⟩ = some (.int .i64 b) := hX.cell (by first | (simp; done) | (simp; omega)) (by first | assumption | (go_simp; done) | (simp; done))
        have kc2 : w'.cell? ⟨w3.heap.size, 0, none⟩ = some (.int .i64 (a + b)) := hX.cell (by first | (simp; done) | (simp; omega)) (by first | assumption | (go_simp; done) | (simp; done))
        have kc3 : w'.cell? ⟨w3.heap.size, 1, none⟩ = some (.int .i64 (-b)) := hX.cell (by first | (simp; done) | (simp; omega)) (by first | assumption | (go_simp; done) | (simp; done))
        clear hdep
        refine StepG.mk rfl ?_; rw [ha0]; simp only [putL, Act.put, List.setIfInBounds_toArray, List.set_cons_zero, List.set_cons_succ]
        go_wp2_with fail
        refine HK.out _ _ ?_
        refine ⟨(.agg #[.int .i64 (a + b), .int .i64 (-b)]), v86, (.agg #[.int .i64 (a + b), .int .i64 (-b)]), (.bool true), v89, v90, v91, v92, v93, v94, v95, v2, (by rw [ha0]; simp only [putL, Act.put, List.setIfInBounds_toArray, List.set_cons_zero, List.set_cons_succ]), ?_, ?_, trivial⟩
        · obtain ⟨h85, h86, h87, h88, h89, h90, h91, h92, h93, h94, h95, h2, _⟩ := hR.out
          exact Lib.hid ⟨fun _ => rfl, fun h => h86 (by simpa using h), fun _ => rfl, fun _ => rfl, fun h => h89 (by simpa using h), fun h => h90 (by simpa using h), fun h => h91 (by simpa using h), fun h => h92 (by simpa using h), fun h => h93 (by simpa using h), fun h => h94 (by simpa using h), fun h => h95 (by simpa using h), fun h => h2 (by simpa using h), trivial⟩
        · exact hX
      case x1hs4 =>
        intro s a' w' hsk hdep hI K hK
        try dsimp only at hI hK
        obtain ⟨v85, v86, v87, v88, v89, v90, v91, v92, v93, v94, v95, v2, hact, hR, hX, _⟩ := hI
        subst hact
        have HK := Lib.hid hK
        clear hK
        have e88 : v88 = .bool true := by obtain ⟨h85, h86, h87, h88, h89, h90, h91, h92, h93, h94, h95, h2, _⟩ := hR.out; exact h88 (hdep ⟨3, .data⟩ (by simp) rfl)
        subst e88
        have kc0 : w'.cell? ⟨w.heap.size, 0, none⟩ = some (.int .i64 a) := hX.cell (by first | (simp; done) | (simp; omega)) (by first | assumption | (go_simp; done) | (simp; done))
        have kc1 : w'.cell? ⟨w.heap.size, 1, none⟩ = some (.int .i64 b) := hX.cell (by first | (simp; done) | (simp; omega)) (by first | assumption | (go_simp; done) | (simp; done))
        have kc2 : w'.cell? ⟨w3.heap.size, 0, none⟩ = some (.int .i64 (a + b)) := hX.cell (by first | (simp; done) | (simp; omega)) (by first | assumption | (go_simp; done) | (simp; done))
        have kc3 : w'.cell? ⟨w3.heap.size, 1, none⟩ = some (.int .i64 (-b)) := hX.cell (by first | (simp; done) | (simp; omega)) (by first | assumption | (go_simp; done) | (simp; done))
        clear hdep
        refine StepG.mk rfl ?_; rw [ha0]; simp only [putL, Act.put, List.setIfInBounds_toArray, List.set_cons_zero, List.set_cons_succ]
        go_wp2_with fail
        refine HK.out _ _ ?_
        refine ⟨v85, v86, v87, (.bool true), (.bool true), v90, v91, v92, v93, v94, v95, v2, (by rw [ha0]; simp only [putL, Act.put, List.setIfInBounds_toArray, List.set_cons_zero, List.set_cons_succ]), ?_, ?_, trivial⟩
        · obtain ⟨h85, h86, h87, h88, h89, h90, h91, h92, h93, h94, h95, h2, _⟩ := hR.out
          exact Lib.hid ⟨fun h => h85 (by simpa using h), fun h => h86 (by simpa using h), fun h => h87 (by simpa using h), fun _ => rfl, fun _ => rfl, fun h => h90 (by simpa using h), fun h => h91 (by simpa using h), fun h => h92 (by simpa using h), fun h => h93 (by simpa using h), fun h => h94 (by simpa using h), fun h => h95 (by simpa using h), fun h => h2 (by simpa using h), trivial⟩
        · exact hX
      case x1hs5 =>
        intro s a' w' hsk hdep hI K hK
        try dsimp only at hI hK
        obtain ⟨v85, v86, v87, v88, v89, v90, v91, v92, v93, v94, v95, v2, hact, hR, hX, _⟩ := hI
        subst hact
        have HK := Lib.hid hK
        clear hK
        have e89 : v89 = .bool true := by obtain ⟨h85, h86, h87, h88, h89, h90, h91, h92, h93, h94, h95, h2, _⟩ := hR.out; exact h89 (hdep ⟨4, .guard⟩ (by simp) rfl)
        subst e89
        have kc0 : w'.cell? ⟨w.heap.size, 0, none⟩ = some (.int .i64 a) := hX.cell (by first | (simp; done) | (simp; omega)) (by first | assumption | (go_simp; done) | (simp; done))
        have kc1 : w'.cell? ⟨w.heap.size, 1, none⟩ = some (.int .i64 b) := hX.cell (by first | (simp; done) | (simp; omega)) (by first | assumption | (go_simp; done) | (simp; done))
        have kc2 : w'.cell? ⟨w3.heap.size, 0, none⟩ = some (.int .i64 (a + b)) := hX.cell (by first | (simp; done) | (simp; omega)) (by first | assumption | (go_simp; done) | (simp; done))
        have kc3 : w'.cell? ⟨w3.heap.size, 1, none⟩ = some (.int .i64 (-b)) := hX.cell (by first | (simp; done) | (simp; omega)) (by first | assumption | (go_simp; done) | (simp; done))
        clear hdep
        refine StepG.lay ?_; rw [ha0]; simp only [putL, Act.put, List.setIfInBounds_toArray, List.set_cons_zero, List.set_cons_succ]
        go_wp2_with fail
        refine HK.out _ _ ?_
        refine ⟨v85, v86, v87, v88, (.bool true), (.int .i64 0), v91, v92, v93, v94, v95, v2, (by rw [ha0]; simp only [putL, Act.put, List.setIfInBounds_toArray, List.set_cons_zero, List.set_cons_succ]), ?_, ?_, trivial⟩
        · obtain ⟨h85, h86, h87, h88, h89, h90, h91, h92, h93, h94, h95, h2, _⟩ := hR.out
          exact Lib.hid ⟨fun h => h85 (by simpa using h), fun h => h86 (by simpa using h), fun h => h87 (by simpa using h), fun h => h88 (by simpa using h), fun _ => rfl, fun _ => rfl, fun h => h91 (by simpa using h), fun h => h92 (by simpa using h), fun h => h93 (by simpa using h), fun h => h94 (by simpa using h), fun h => h95 (by simpa using h), fun h => h2 (by simpa using h), trivial⟩
        · exact hX
      case x1hs6 =>
        intro s a' w' hsk hdep hI K hK
        try dsimp only at hI hK
        obtain ⟨v85, v86, v87, v88, v89, v90, v91, v92, v93, v94, v95, v2, hact, hR, hX, _⟩ := hI
        subst hact
        have HK := Lib.hid hK
        clear hK
        have e90 : v90 = .int .i64 0 := by obtain ⟨h85, h86, h87, h88, h89, h90, h91, h92, h93, h94, h95, h2, _⟩ := hR.out; exact h90 (hdep ⟨5, .data⟩ (by simp) rfl)
        subst e90
        have e89 : v89 = .bool true := by obtain ⟨h85, h86, h87, h88, h89, h90, h91, h92, h93, h94, h95, h2, _⟩ := hR.out; exact h89 (hdep ⟨4, .guard⟩ (by simp) rfl)
        subst e89
        have kc0 : w'.cell? ⟨w.heap.size, 0, none⟩ = some (.int .i64 a) := hX.cell (by first | (simp; done) | (simp; omega)) (by first | assumption | (go_simp; done) | (simp; done))
        have kc1 : w'.cell? ⟨w.heap.size, 1, none⟩ = some (.int .i64 b) := hX.cell (by first | (simp; done) | (simp; omega)) (by first | assumption | (go_simp; done) | (simp; done))
        have kc2 : w'.cell? ⟨w3.heap.size, 0, none⟩ = some (.int .i64 (a + b)) := hX.cell (by first | (simp; done) | (simp; omega)) (by first | assumption | (go_simp; done) | (simp; done))
        have kc3 : w'.cell? ⟨w3.heap.size, 1, none⟩ = some (.int .i64 (-b)) := hX.cell (by first | (simp; done) | (simp; omega)) (by first | assumption | (go_simp; done) | (simp; done))
        clear hdep
        refine StepG.lay ?_; rw [ha0]; simp only [putL, Act.put, List.setIfInBounds_toArray, List.set_cons_zero, List.set_cons_succ]
        go_wp2_with fail
        refine HK.out _ _ ?_
        refine ⟨v85, v86, v87, v88, (.bool true), (.int .i64 0), (.bool true), v92, v93, v94, v95, v2, (by rw [ha0]; simp only [putL, Act.put, List.setIfInBounds_toArray, List.set_cons_zero, List.set_cons_succ]), ?_, ?_, trivial⟩
        · obtain ⟨h85, h86, h87, h88, h89, h90, h91, h92, h93, h94, h95, h2, _⟩ := hR.out
          exact Lib.hid ⟨fun h => h85 (by simpa using h), fun h => h86 (by simpa using h), fun h => h87 (by simpa using h), fun h => h88 (by simpa using h), fun _ => rfl, fun _ => rfl, fun _ => rfl, fun h => h92 (by simpa using h), fun h => h93 (by simpa using h), fun h => h94 (by simpa using h), fun h => h95 (by simpa using h), fun h => h2 (by simpa using h), trivial⟩
        · exact hX
      case x1hs7 =>
        intro s a' w' hsk hdep hI K hK
        try dsimp only at hI hK
        obtain ⟨v85, v86, v87, v88, v89, v90, v91, v92, v93, v94, v95, v2, hact, hR, hX, _⟩ := hI
        subst hact
        have HK := Lib.hid hK
        clear hK
        have e89 : v89 = .bool true := by obtain ⟨h85, h86, h87, h88, h89, h90, h91, h92, h93, h94, h95, h2, _⟩ := hR.out; exact h89 (hdep ⟨4, .data⟩ (by simp) rfl)
        subst e89
        have e91 : v91 = .bool true := by obtain ⟨h85, h86, h87, h88, h89, h90, h91, h92, h93, h94, h95, h2, _⟩ := hR.out; exact h91 (hdep ⟨6, .data⟩ (by simp) rfl)
        subst e91
        have kc0 : w'.cell? ⟨w.heap.size, 0, none⟩ = some (.int .i64 a) := hX.cell (by first | (simp; done) | (simp; omega)) (by first | assumption | (go_simp; done) | (simp; done))
        have kc1 : w'.cell? ⟨w.heap.size, 1, none⟩ = some (.int .i64 b) := hX.cell (by first | (simp; done) | (simp; omega)) (by first | assumption | (go_simp; done) | (simp; done))
        have kc2 : w'.cell? ⟨w3.heap.size, 0, none⟩ = some (.int .i64 (a + b)) := hX.cell (by first | (simp; done) | (simp; omega)) (by first | assumption | (go_simp; done) | (simp; done))
        have kc3 : w'.cell? ⟨w3.heap.size, 1, none⟩ = some (.int .i64 (-b)) := hX.cell (by first | (simp; done) | (simp; omega)) (by first | assumption | (go_simp; done) | (simp; done))
        clear hdep
        refine StepG.mk rfl ?_; rw [ha0]; simp only [putL, Act.put, List.setIfInBounds_toArray, List.set_cons_zero, List.set_cons_succ]
        go_wp2_with fail
        refine HK.out _ _ ?_
        refine ⟨v85, v86, v87, v88, (.bool true), v90, (.bool true), (.bool true), v93, v94, v95, v2, (by rw [ha0]; simp only [putL, Act.put, List.setIfInBounds_toArray, List.set_cons_zero, List.set_cons_succ]), ?_, ?_, trivial⟩
        · obtain ⟨h85, h86, h87, h88, h89, h90, h91, h92, h93, h94, h95, h2, _⟩ := hR.out
          exact Lib.hid ⟨fun h => h85 (by simpa using h), fun h => h86 (by simpa using h), fun h => h87 (by simpa using h), fun h => h88 (by simpa using h), fun _ => rfl, fun h => h90 (by simpa using h), fun _ => rfl, fun _ => rfl, fun h => h93 (by simpa using h), fun h => h94 (by simpa using h), fun h => h95 (by simpa using h), fun h => h2 (by simpa using h), trivial⟩
        · exact hX
      case x1hs8 =>
        intro s a' w' hsk hdep hI K hK
        try dsimp only at hI hK
        obtain ⟨v85, v86, v87, v88, v89, v90, v91, v92, v93, v94, v95, v2, hact, hR, hX, _⟩ := hI
        subst hact
        have HK := Lib.hid hK
        clear hK
        have e92 : v92 = .bool true := by obtain ⟨h85, h86, h87, h88, h89, h90, h91, h92, h93, h94, h95, h2, _⟩ := hR.out; exact h92 (hdep ⟨7, .data⟩ (by simp) rfl)
        subst e92
        have kc0 : w'.cell? ⟨w.heap.size, 0, none⟩ = some (.int .i64 a) := hX.cell (by first | (simp; done) | (simp; omega)) (by first | assumption | (go_simp; done) | (simp; done))
        have kc1 : w'.cell? ⟨w.heap.size, 1, none⟩ = some (.int .i64 b) := hX.cell (by first | (simp; done) | (simp; omega)) (by first | assumption | (go_simp; done) | (simp; done))
        have kc2 : w'.cell? ⟨w3.heap.size, 0, none⟩ = some (.int .i64 (a + b)) := hX.cell (by first | (simp; done) | (simp; omega)) (by first | assumption | (go_simp; done) | (simp; done))
        have kc3 : w'.cell? ⟨w3.heap.size, 1, none⟩ = some (.int .i64 (-b)) := hX.cell (by first | (simp; done) | (simp; omega)) (by first | assumption | (go_simp; done) | (simp; done))
        clear hdep
        refine StepG.mk rfl ?_; rw [ha0]; simp only [putL, Act.put, List.setIfInBounds_toArray, List.set_cons_zero, List.set_cons_succ]
        go_wp2_with fail
        refine HK.out _ _ ?_
        refine ⟨v85, v86, v87, v88, v89, v90, v91, (.bool true), (.bool true), v94, v95, v2, (by rw [ha0]; simp only [putL, Act.put, List.setIfInBounds_toArray, List.set_cons_zero, List.set_cons_succ]), ?_, ?_, trivial⟩
        · obtain ⟨h85, h86, h87, h88, h89, h90, h91, h92, h93, h94, h95, h2, _⟩ := hR.out
          exact Lib.hid ⟨fun h => h85 (by simpa using h), fun h => h86 (by simpa using h), fun h => h87 (by simpa using h), fun h => h88 (by simpa using h), fun h => h89 (by simpa using h), fun h => h90 (by simpa using h), fun h => h91 (by simpa using h), fun _ => rfl, fun _ => rfl, fun h => h94 (by simpa using h), fun h => h95 (by simpa using h), fun h => h2 (by simpa using h), trivial⟩
        · exact hX
      case x1hs9 =>
        intro s a' w' hsk hdep hI K hK
        try dsimp only at hI hK
        obtain ⟨v85, v86, v87, v88, v89, v90, v91, v92, v93, v94, v95, v2, hact, hR, hX, _⟩ := hI
        subst hact
        have HK := Lib.hid hK
        clear hK
        have e93 : v93 = .bool true := by obtain ⟨h85, h86, h87, h88, h89, h90, h91, h92, h93, h94, h95, h2, _⟩ := hR.out; exact h93 (hdep ⟨8, .guard⟩ (by simp) rfl)
        subst e93
        have kc0 : w'.cell? ⟨w.heap.size, 0, none⟩ = some (.int .i64 a) := hX.cell (by first | (simp; done) | (simp; omega)) (by first | assumption | (go_simp; done) | (simp; done))
        have kc1 : w'.cell? ⟨w.heap.size, 1, none⟩ = some (.int .i64 b) := hX.cell (by first | (simp; done) | (simp; omega)) (by first | assumption | (go_simp; done) | (simp; done))
        have kc2 : w'.cell? ⟨w3.heap.size, 0, none⟩ = some (.int .i64 (a + b)) := hX.cell (by first | (simp; done) | (simp; omega)) (by first | assumption | (go_simp; done) | (simp; done))
        have kc3 : w'.cell? ⟨w3.heap.size, 1, none⟩ = some (.int .i64 (-b)) := hX.cell (by first | (simp; done) | (simp; omega)) (by first | assumption | (go_simp; done) | (simp; done))
        clear hdep
        refine StepG.lay ?_; rw [ha0]; simp only [putL, Act.put, List.setIfInBounds_toArray, List.set_cons_zero, List.set_cons_succ]
        go_wp2_with fail
        refine ((awake_any _)).mono ?_
        rintro e wn ⟨rfl, hb⟩
        go_wp2_with fail
        refine HK.out _ _ ?_
        refine ⟨v85, v86, v87, v88, v89, v90, v91, v92, (.bool true), (.bool true), v95, v2, (by rw [ha0]; simp only [putL, Act.put, List.setIfInBounds_toArray, List.set_cons_zero, List.set_cons_succ]), ?_, ?_, trivial⟩
        · obtain ⟨h85, h86, h87, h88, h89, h90, h91, h92, h93, h94, h95, h2, _⟩ := hR.out
          exact Lib.hid ⟨fun h => h85 (by simpa using h), fun h => h86 (by simpa using h), fun h => h87 (by simpa using h), fun h => h88 (by simpa using h), fun h => h89 (by simpa using h), fun h => h90 (by simpa using h), fun h => h91 (by simpa using h), fun h => h92 (by simpa using h), fun _ => rfl, fun _ => rfl, fun h => h95 (by simpa using h), fun h => h2 (by simpa using h), trivial⟩
        · exact hX.call hb
      case x1hs10 =>
        intro s a' w' hsk hdep hI K hK
        try dsimp only at hI hK
        obtain ⟨v85, v86, v87, v88, v89, v90, v91, v92, v93, v94, v95, v2, hact, hR, hX, _⟩ := hI
        subst hact
        have HK := Lib.hid hK
        clear hK
        have e93 : v93 = .bool true := by obtain ⟨h85, h86, h87, h88, h89, h90, h91, h92, h93, h94, h95, h2, _⟩ := hR.out; exact h93 (hdep ⟨8, .data⟩ (by simp) rfl)
        subst e93
        have e94 : v94 = .bool true := by obtain ⟨h85, h86, h87, h88, h89, h90, h91, h92, h93, h94, h95, h2, _⟩ := hR.out; exact h94 (hdep ⟨9, .data⟩ (by simp) rfl)
        subst e94
        have kc0 : w'.cell? ⟨w.heap.size, 0, none⟩ = some (.int .i64 a) := hX.cell (by first | (simp; done) | (simp; omega)) (by first | assumption | (go_simp; done) | (simp; done))
        have kc1 : w'.cell? ⟨w.heap.size, 1, none⟩ = some (.int .i64 b) := hX.cell (by first | (simp; done) | (simp; omega)) (by first | assumption | (go_simp; done) | (simp; done))
        have kc2 : w'.cell? ⟨w3.heap.size, 0, none⟩ = some (.int .i64 (a + b)) := hX.cell (by first | (simp; done) | (simp; omega)) (by first | assumption | (go_simp; done) | (simp; done))
        have kc3 : w'.cell? ⟨w3.heap.size, 1, none⟩ = some (.int .i64 (-b)) := hX.cell (by first | (simp; done) | (simp; omega)) (by first | assumption | (go_simp; done) | (simp; done))
        clear hdep
        refine StepG.mk rfl ?_; rw [ha0]; simp only [putL, Act.put, List.setIfInBounds_toArray, List.set_cons_zero, List.set_cons_succ]
        go_wp2_with fail
        refine HK.out _ _ ?_
        refine ⟨v85, v86, v87, v88, v89, v90, v91, v92, (.bool true), (.bool true), (.bool true), v2, (by rw [ha0]; simp only [putL, Act.put, List.setIfInBounds_toArray, List.set_cons_zero, List.set_cons_succ]), ?_, ?_, trivial⟩
        · obtain ⟨h85, h86, h87, h88, h89, h90, h91, h92, h93, h94, h95, h2, _⟩ := hR.out
          exact Lib.hid ⟨fun h => h85 (by simpa using h), fun h => h86 (by simpa using h), fun h => h87 (by simpa using h), fun h => h88 (by simpa using h), fun h => h89 (by simpa using h), fun h => h90 (by simpa using h), fun h => h91 (by simpa using h), fun h => h92 (by simpa using h), fun _ => rfl, fun _ => rfl, fun _ => rfl, fun h => h2 (by simpa using h), trivial⟩
        · exact hX
      case x1hs11 =>
        intro s a' w' hsk hdep hI K hK
        try dsimp only at hI hK
        obtain ⟨v85, v86, v87, v88, v89, v90, v91, v92, v93, v94, v95, v2, hact, hR, hX, _⟩ := hI
        subst hact
        have HK := Lib.hid hK
        clear hK
        have e95 : v95 = .bool true := by obtain ⟨h85, h86, h87, h88, h89, h90, h91, h92, h93, h94, h95, h2, _⟩ := hR.out; exact h95 (hdep ⟨10, .data⟩ (by simp) rfl)
        subst e95
        have kc0 : w'.cell? ⟨w.heap.size, 0, none⟩ = some (.int .i64 a) := hX.cell (by first | (simp; done) | (simp; omega)) (by first | assumption | (go_simp; done) | (simp; done))
        have kc1 : w'.cell? ⟨w.heap.size, 1, none⟩ = some (.int .i64 b) := hX.cell (by first | (simp; done) | (simp; omega)) (by first | assumption | (go_simp; done) | (simp; done))
        have kc2 : w'.cell? ⟨w3.heap.size, 0, none⟩ = some (.int .i64 (a + b)) := hX.cell (by first | (simp; done) | (simp; omega)) (by first | assumption | (go_simp; done) | (simp; done))
        have kc3 : w'.cell? ⟨w3.heap.size, 1, none⟩ = some (.int .i64 (-b)) := hX.cell (by first | (simp; done) | (simp; omega)) (by first | assumption | (go_simp; done) | (simp; done))
        clear hdep
        refine StepG.mk rfl ?_; rw [ha0]; simp only [putL, Act.put, List.setIfInBounds_toArray, List.set_cons_zero, List.set_cons_succ]
        go_wp2_with fail
        refine HK.out _ _ ?_
        refine ⟨v85, v86, v87, v88, v89, v90, v91, v92, v93, v94, (.bool true), (.bool true), (by rw [ha0]; simp only [putL, Act.put, List.setIfInBounds_toArray, List.set_cons_zero, List.set_cons_succ]), ?_, ?_, trivial⟩
        · obtain ⟨h85, h86, h87, h88, h89, h90, h91, h92, h93, h94, h95, h2, _⟩ := hR.out
          exact Lib.hid ⟨fun h => h85 (by simpa using h), fun h => h86 (by simpa using h), fun h => h87 (by simpa using h), fun h => h88 (by simpa using h), fun h => h89 (by simpa using h), fun h => h90 (by simpa using h), fun h => h91 (by simpa using h), fun h => h92 (by simpa using h), fun h => h93 (by simpa using h), fun h => h94 (by simpa using h), fun _ => rfl, fun _ => rfl, trivial⟩
        · exact hX
      intro s a' w9 hall hI
      try dsimp only at hI
      obtain ⟨v85, v86, v87, v88, v89, v90, v91, v92, v93, v94, v95, v2, hact, hR, hXR, _⟩ := hI
      subst hact
      obtain ⟨h85, h86, h87, h88, h89, h90, h91, h92, h93, h94, h95, h2, _⟩ := hR.out
      clear hR
      have e85 := h85 (hall 0 (by decide))
      subst e85
      clear h85
      have e86 := h86 (hall 1 (by decide))
      subst e86
      clear h86
      have e87 := h87 (hall 2 (by decide))
      subst e87
      clear h87
      have e88 := h88 (hall 3 (by decide))
      subst e88
      clear h88
      have e89 := h89 (hall 4 (by decide))
      subst e89
      clear h89
      have e90 := h90 (hall 5 (by decide))
      subst e90
      clear h90
      have e91 := h91 (hall 6 (by decide))
      subst e91
      clear h91
      have e92 := h92 (hall 7 (by decide))
      subst e92
      clear h92
      have e93 := h93 (hall 8 (by decide))
      subst e93
      clear h93
      have e94 := h94 (hall 9 (by decide))
      subst e94
      clear h94
      have e95 := h95 (hall 10 (by decide))
      subst e95
      clear h95
      have e2 := h2 (hall 11 (by decide))
      subst e2
      clear h2
      clear hall
      rw [ha0]; simp only [putL, Act.put, List.setIfInBounds_toArray, List.set_cons_zero, List.set_cons_succ]
      clear ha0
      have B9 : Below w.heap.size w w9 := hXR.below (by first | assumption | exact (by repeat (first | exact Below.refl _ _ | exact Nat.le_refl _ | refine Below.alloc ?_ ?_ _ | refine Below.setCell ?_ ?_ _ | refine Below.drew ?_ | refine bl_drewN ?_ _ | (assumption) | refine bl_call ?_ (by assumption) ?_ | omega | (simp <;> omega)))) (by first | omega | (simp <;> omega)) (by simp <;> omega)
      have cew_heap_size9_0 : w9.cell? ⟨w.heap.size, 0, none⟩ = some (.int .i64 a) := hXR.cell (by first | (simp; done) | (simp; omega)) (by first | assumption | (go_simp; done) | (simp; done))
      have cew_heap_size9_1 : w9.cell? ⟨w.heap.size, 1, none⟩ = some (.int .i64 b) := hXR.cell (by first | (simp; done) | (simp; omega)) (by first | assumption | (go_simp; done) | (simp; done))
      have zew_heap_size9 : w.heap.size < w9.heap.size := block_lt_of_cell cew_heap_size9_0
      have cew3_heap_size9_0 : w9.cell? ⟨w3.heap.size, 0, none⟩ = some (.int .i64 (a + b)) := hXR.cell (by first | (simp; done) | (simp; omega)) (by first | assumption | (go_simp; done) | (simp; done))
      have cew3_heap_size9_1 : w9.cell? ⟨w3.heap.size, 1, none⟩ = some (.int .i64 (-b)) := hXR.cell (by first | (simp; done) | (simp; omega)) (by first | assumption | (go_simp; done) | (simp; done))
      have zew3_heap_size9 : w3.heap.size < w9.heap.size := block_lt_of_cell cew3_heap_size9_0
      have hsz_9 := B9.size
      clear hXR
      go_wp2_with fail
      go_ret
      exact ⟨rfl, (by repeat (first | exact Below.refl _ _ | exact Nat.le_refl _ | refine Below.alloc ?_ ?_ _ | refine Below.setCell ?_ ?_ _ | refine Below.drew ?_ | refine bl_drewN ?_ _ | (assumption) | refine bl_call ?_ (by assumption) ?_ | omega | (simp <;> omega)))⟩
    · have k1' : isN (a + b) (-b) = false := by simpa using k1
      have HM := Lib.hid (fun wx => by have := hM wx; rw [show smallV (a + b) (-b) = .tuple #[.agg #[.int .i64 0, .int .i64 0], .int .i64 5] from if_neg k1] at this; exact this)
      have K1 := Lib.hid k1'
      clear hM k1 k1'
      go_enter Tryd.func13, Tryd.ntmps13
      go_wp2_with fail
      refine (HF.out _).mono ?_
      rintro e w1 ⟨n, rfl, hF, n1, n2, hb1⟩
      have z1_0 : w.heap.size < w1.heap.size := by have := hb1.size; (try simp at this); omega
      have cew_heap_size1_0 : w1.cell? ⟨w.heap.size, 0, none⟩ = some (.int .i64 a) := keep_cell hb1 (by first | assumption | (go_simp; done) | (simp; done) | simp [*])
      have zew_heap_size1 : w.heap.size < w1.heap.size := block_lt_of_cell cew_heap_size1_0
      have cew_heap_size1_1 : w1.cell? ⟨w.heap.size, 1, none⟩ = some (.int .i64 b) := keep_cell hb1 (by first | assumption | (go_simp; done) | (simp; done) | simp [*])
      have B1 : Below w.heap.size w w1 := bl_call (by repeat (first | exact Below.refl _ _ | exact Nat.le_refl _ | refine Below.alloc ?_ ?_ _ | refine Below.setCell ?_ ?_ _ | refine Below.drew ?_ | refine bl_drewN ?_ _ | (assumption) | refine bl_call ?_ (by assumption) ?_ | omega | (simp <;> omega))) hb1 (by first | assumption | (simp; done) | (simp; omega) | omega)
      clear hb1
      have hsz_1 := B1.size
      go_wp2_with fail
      refine (HN.out _).mono ?_
      rintro e w2 ⟨rfl, hb2⟩
      have z2_0 : w.heap.size < w2.heap.size := by have := hb2.size; (try simp at this); omega
      have cew_heap_size2_0 : w2.cell? ⟨w.heap.size, 0, none⟩ = some (.int .i64 a) := keep_cell hb2 (by first | assumption | (go_simp; done) | (simp; done) | simp [*])
      have zew_heap_size2 : w.heap.size < w2.heap.size := block_lt_of_cell cew_heap_size2_0
      have cew_heap_size2_1 : w2.cell? ⟨w.heap.size, 1, none⟩ = some (.int .i64 b) := keep_cell hb2 (by first | assumption | (go_simp; done) | (simp; done) | simp [*])
      have B2 : Below w.heap.size w w2 := bl_call (by repeat (first | exact Below.refl _ _ | exact Nat.le_refl _ | refine Below.alloc ?_ ?_ _ | refine Below.setCell ?_ ?_ _ | refine Below.drew ?_ | refine bl_drewN ?_ _ | (assumption) | refine bl_call ?_ (by assumption) ?_ | omega | (simp <;> omega))) hb2 (by first | assumption | (simp; done) | (simp; omega) | omega)
      clear hb2
      have hsz_2 := B2.size
      go_wp2_with fail
      refine (HM.out _).mono ?_
      rintro e w3 ⟨rfl, hb3⟩
      have z3_0 : w.heap.size < w3.heap.size := by have := hb3.size; (try simp at this); omega
      have cew_heap_size3_0 : w3.cell? ⟨w.heap.size, 0, none⟩ = some (.int .i64 a) := keep_cell hb3 (by first | assumption | (go_simp; done) | (simp; done) | simp [*])
      have zew_heap_size3 : w.heap.size < w3.heap.size := block_lt_of_cell cew_heap_size3_0
      have cew_heap_size3_1 : w3.cell? ⟨w.heap.size, 1, none⟩ = some (.int .i64 b) := keep_cell hb3 (by first | assumption | (go_simp; done) | (simp; done) | simp [*])
      have B3 : Below w.heap.size w w3 := bl_call (by repeat (first | exact Below.refl _ _ | exact Nat.le_refl _ | refine Below.alloc ?_ ?_ _ | refine Below.setCell ?_ ?_ _ | refine Below.drew ?_ | refine bl_drewN ?_ _ | (assumption) | refine bl_call ?_ (by assumption) ?_ | omega | (simp <;> omega))) hb3 (by first | assumption | (simp; done) | (simp; omega) | omega)
      clear hb3
      have hsz_3 := B3.size
      go_wp2_with fail
      refine (refNumber _ _ _).mono ?_
      rintro e w4 ⟨rfl, hb4⟩
      have z4_0 : w.heap.size < w4.heap.size := by have := hb4.size; (try simp at this); omega
      have cew_heap_size4_0 : w4.cell? ⟨w.heap.size, 0, none⟩ = some (.int .i64 a) := keep_cell hb4 (by first | assumption | (go_simp; done) | (simp; done) | simp [*])
      have zew_heap_size4 : w.heap.size < w4.heap.size := block_lt_of_cell cew_heap_size4_0
      have cew_heap_size4_1 : w4.cell? ⟨w.heap.size, 1, none⟩ = some (.int .i64 b) := keep_cell hb4 (by first | assumption | (go_simp; done) | (simp; done) | simp [*])
      have cew3_heap_size4_0 : w4.cell? ⟨w3.heap.size, 0, none⟩ = some (.int .i64 0) := keep_cell hb4 (by first | assumption | (go_simp; done) | (simp; done) | simp [*])
      have zew3_heap_size4 : w3.heap.size < w4.heap.size := block_lt_of_cell cew3_heap_size4_0
      have cew3_heap_size4_1 : w4.cell? ⟨w3.heap.size, 1, none⟩ = some (.int .i64 0) := keep_cell hb4 (by first | assumption | (go_simp; done) | (simp; done) | simp [*])
      have B4 : Below w.heap.size w w4 := bl_call (by repeat (first | exact Below.refl _ _ | exact Nat.le_refl _ | refine Below.alloc ?_ ?_ _ | refine Below.setCell ?_ ?_ _ | refine Below.drew ?_ | refine bl_drewN ?_ _ | (assumption) | refine bl_call ?_ (by assumption) ?_ | omega | (simp <;> omega))) hb4 (by first | assumption | (simp; done) | (simp; omega) | omega)
      clear hb4
      have hsz_4 := B4.size
      rw [H1.out]
      go_wp2_with fail
      refine (HFR.out _).mono ?_
      rintro e w5 ⟨m, rfl, hG, hb5⟩
      have z5_0 : w.heap.size < w5.heap.size := by have := hb5.size; (try simp at this); omega
      have cew_heap_size5_0 : w5.cell? ⟨w.heap.size, 0, none⟩ = some (.int .i64 a) := keep_cell hb5 (by first | assumption | (go_simp; done) | (simp; done) | simp [*])
      have zew_heap_size5 : w.heap.size < w5.heap.size := block_lt_of_cell cew_heap_size5_0
      have cew_heap_size5_1 : w5.cell? ⟨w.heap.size, 1, none⟩ = some (.int .i64 b) := keep_cell hb5 (by first | assumption | (go_simp; done) | (simp; done) | simp [*])
      have cew3_heap_size5_0 : w5.cell? ⟨w3.heap.size, 0, none⟩ = some (.int .i64 0) := keep_cell hb5 (by first | assumption | (go_simp; done) | (simp; done) | simp [*])
      have zew3_heap_size5 : w3.heap.size < w5.heap.size := block_lt_of_cell cew3_heap_size5_0
      have cew3_heap_size5_1 : w5.cell? ⟨w3.heap.size, 1, none⟩ = some (.int .i64 0) := keep_cell hb5 (by first | assumption | (go_simp; done) | (simp; done) | simp [*])
      have B5 : Below w.heap.size w w5 := bl_call (by repeat (first | exact Below.refl _ _ | exact Nat.le_refl _ | refine Below.alloc ?_ ?_ _ | refine Below.setCell ?_ ?_ _ | refine Below.drew ?_ | refine bl_drewN ?_ _ | (assumption) | refine bl_call ?_ (by assumption) ?_ | omega | (simp <;> omega))) hb5 (by first | assumption | (simp; done) | (simp; omega) | omega)
      clear hb5
      have hsz_5 := B5.size
      obtain rfl : n = m := GM.floor_unique hF.1 hF.2 hG.1 hG.2
      clear hF hG
      go_wp2_with fail
      refine (HNR.out _).mono ?_
      rintro e w6 ⟨rfl, hb6⟩
      have z6_0 : w.heap.size < w6.heap.size := by have := hb6.size; (try simp at this); omega
      have cew_heap_size6_0 : w6.cell? ⟨w.heap.size, 0, none⟩ = some (.int .i64 a) := keep_cell hb6 (by first | assumption | (go_simp; done) | (simp; done) | simp [*])
      have zew_heap_size6 : w.heap.size < w6.heap.size := block_lt_of_cell cew_heap_size6_0
      have cew_heap_size6_1 : w6.cell? ⟨w.heap.size, 1, none⟩ = some (.int .i64 b) := keep_cell hb6 (by first | assumption | (go_simp; done) | (simp; done) | simp [*])
      have cew3_heap_size6_0 : w6.cell? ⟨w3.heap.size, 0, none⟩ = some (.int .i64 0) := keep_cell hb6 (by first | assumption | (go_simp; done) | (simp; done) | simp [*])
      have zew3_heap_size6 : w3.heap.size < w6.heap.size := block_lt_of_cell cew3_heap_size6_0
      have cew3_heap_size6_1 : w6.cell? ⟨w3.heap.size, 1, none⟩ = some (.int .i64 0) := keep_cell hb6 (by first | assumption | (go_simp; done) | (simp; done) | simp [*])
      have B6 : Below w.heap.size w w6 := bl_call (by repeat (first | exact Below.refl _ _ | exact Nat.le_refl _ | refine Below.alloc ?_ ?_ _ | refine Below.setCell ?_ ?_ _ | refine Below.drew ?_ | refine bl_drewN ?_ _ | (assumption) | refine bl_call ?_ (by assumption) ?_ | omega | (simp <;> omega))) hb6 (by first | assumption | (simp; done) | (simp; omega) | omega)
      clear hb6
      have hsz_6 := B6.size
      go_wp2_with fail
      refine (HMR.out _).mono ?_
      rintro e w7 ⟨rfl, hb7⟩
      have z7_0 : w.heap.size < w7.heap.size := by have := hb7.size; (try simp at this); omega
      have cew_heap_size7_0 : w7.cell? ⟨w.heap.size, 0, none⟩ = some (.int .i64 a) := keep_cell hb7 (by first | assumption | (go_simp; done) | (simp; done) | simp [*])
      have zew_heap_size7 : w.heap.size < w7.heap.size := block_lt_of_cell cew_heap_size7_0
      have cew_heap_size7_1 : w7.cell? ⟨w.heap.size, 1, none⟩ = some (.int .i64 b) := keep_cell hb7 (by first | assumption | (go_simp; done) | (simp; done) | simp [*])
      have cew3_heap_size7_0 : w7.cell? ⟨w3.heap.size, 0, none⟩ = some (.int .i64 0) := keep_cell hb7 (by first | assumption | (go_simp; done) | (simp; done) | simp [*])
      have zew3_heap_size7 : w3.heap.size < w7.heap.size := block_lt_of_cell cew3_heap_size7_0
      have cew3_heap_size7_1 : w7.cell? ⟨w3.heap.size, 1, none⟩ = some (.int .i64 0) := keep_cell hb7 (by first | assumption | (go_simp; done) | (simp; done) | simp [*])
      have B7 : Below w.heap.size w w7 := bl_call (by repeat (first | exact Below.refl _ _ | exact Nat.le_refl _ | refine Below.alloc ?_ ?_ _ | refine Below.setCell ?_ ?_ _ | refine Below.drew ?_ | refine bl_drewN ?_ _ | (assumption) | refine bl_call ?_ (by assumption) ?_ | omega | (simp <;> omega))) hb7 (by first | assumption | (simp; done) | (simp; omega) | omega)
      clear hb7
      have hsz_7 := B7.size
      go_wp2_with fail
      refine (refNumber _ _ _).mono ?_
      rintro e w8 ⟨rfl, hb8⟩
      have z8_0 : w.heap.size < w8.heap.size := by have := hb8.size; (try simp at this); omega
      have cew_heap_size8_0 : w8.cell? ⟨w.heap.size, 0, none⟩ = some (.int .i64 a) := keep_cell hb8 (by first | assumption | (go_simp; done) | (simp; done) | simp [*])
      have zew_heap_size8 : w.heap.size < w8.heap.size := block_lt_of_cell cew_heap_size8_0
      have cew_heap_size8_1 : w8.cell? ⟨w.heap.size, 1, none⟩ = some (.int .i64 b) := keep_cell hb8 (by first | assumption | (go_simp; done) | (simp; done) | simp [*])
      have cew3_heap_size8_0 : w8.cell? ⟨w3.heap.size, 0, none⟩ = some (.int .i64 0) := keep_cell hb8 (by first | assumption | (go_simp; done) | (simp; done) | simp [*])
      have zew3_heap_size8 : w3.heap.size < w8.heap.size := block_lt_of_cell cew3_heap_size8_0
      have cew3_heap_size8_1 : w8.cell? ⟨w3.heap.size, 1, none⟩ = some (.int .i64 0) := keep_cell hb8 (by first | assumption | (go_simp; done) | (simp; done) | simp [*])
      have B8 : Below w.heap.size w w8 := bl_call (by repeat (first | exact Below.refl _ _ | exact Nat.le_refl _ | refine Below.alloc ?_ ?_ _ | refine Below.setCell ?_ ?_ _ | refine Below.drew ?_ | refine bl_drewN ?_ _ | (assumption) | refine bl_call ?_ (by assumption) ?_ | omega | (simp <;> omega))) hb8 (by first | assumption | (simp; done) | (simp; omega) | omega)
      clear hb8
      have hsz_8 := B8.size
      rw [K1.out]
      go_wp2_with fail
      refine (awake_any _).mono ?_
      rintro e w9 ⟨rfl, hb9⟩
      have z9_0 : w.heap.size < w9.heap.size := by have := hb9.size; (try simp at this); omega
      have cew_heap_size9_0 : w9.cell? ⟨w.heap.size, 0, none⟩ = some (.int .i64 a) := keep_cell hb9 (by first | assumption | (go_simp; done) | (simp; done) | simp [*])
      have zew_heap_size9 : w.heap.size < w9.heap.size := block_lt_of_cell cew_heap_size9_0
      have cew_heap_size9_1 : w9.cell? ⟨w.heap.size, 1, none⟩ = some (.int .i64 b) := keep_cell hb9 (by first | assumption | (go_simp; done) | (simp; done) | simp [*])
      have cew3_heap_size9_0 : w9.cell? ⟨w3.heap.size, 0, none⟩ = some (.int .i64 0) := keep_cell hb9 (by first | assumption | (go_simp; done) | (simp; done) | simp [*])
      have zew3_heap_size9 : w3.heap.size < w9.heap.size := block_lt_of_cell cew3_heap_size9_0
      have cew3_heap_size9_1 : w9.cell? ⟨w3.heap.size, 1, none⟩ = some (.int .i64 0) := keep_cell hb9 (by first | assumption | (go_simp; done) | (simp; done) | simp [*])
      have B9 : Below w.heap.size w w9 := bl_call (by repeat (first | exact Below.refl _ _ | exact Nat.le_refl _ | refine Below.alloc ?_ ?_ _ | refine Below.setCell ?_ ?_ _ | refine Below.drew ?_ | refine bl_drewN ?_ _ | (assumption) | refine bl_call ?_ (by assumption) ?_ | omega | (simp <;> omega))) hb9 (by first | assumption | (simp; done) | (simp; omega) | omega)
      clear hb9
      have hsz_9 := B9.size
      go_wp2_with fail
      go_ret
      exact ⟨rfl, (by repeat (first | exact Below.refl _ _ | exact Nat.le_refl _ | refine Below.alloc ?_ ?_ _ | refine Below.setCell ?_ ?_ _ | refine Below.drew ?_ | refine bl_drewN ?_ _ | (assumption) | refine bl_call ?_ (by assumption) ?_ | omega | (simp <;> omega)))⟩
  · have h1' : isN a b = false := by simpa using h1
    have HF := Lib.hid (fun wx => Floor_no a b wx h1')
    have HN := Lib.hid (fun wx => Norm_no a b wx h1')
    have HM := Lib.hid (fun wx => Mate_no a b wx h1')
    have H1 := Lib.hid h1'
    clear h1 h1'
    go_enter Tryd.func13, Tryd.ntmps13
    go_wp2_with fail
    refine (HF.out _).mono ?_
    rintro e w1 ⟨rfl, hb1⟩
    have z1_0 : w.heap.size < w1.heap.size := by have := hb1.size; (try simp at this); omega
    have cew_heap_size1_0 : w1.cell? ⟨w.heap.size, 0, none⟩ = some (.int .i64 a) := keep_cell hb1 (by first | assumption | (go_simp; done) | (simp; done) | simp [*])
    have zew_heap_size1 : w.heap.size < w1.heap.size := block_lt_of_cell cew_heap_size1_0
    have cew_heap_size1_1 : w1.cell? ⟨w.heap.size, 1, none⟩ = some (.int .i64 b) := keep_cell hb1 (by first | assumption | (go_simp; done) | (simp; done) | simp [*])
    have B1 : Below w.heap.size w w1 := bl_call (by repeat (first | exact Below.refl _ _ | exact Nat.le_refl _ | refine Below.alloc ?_ ?_ _ | refine Below.setCell ?_ ?_ _ | refine Below.drew ?_ | refine bl_drewN ?_ _ | (assumption) | refine bl_call ?_ (by assumption) ?_ | omega | (simp <;> omega))) hb1 (by first | assumption | (simp; done) | (simp; omega) | omega)
    clear hb1
    have hsz_1 := B1.size
    go_wp2_with fail
    refine (HN.out _).mono ?_
    rintro e w2 ⟨rfl, hb2⟩
    have z2_0 : w.heap.size < w2.heap.size := by have := hb2.size; (try simp at this); omega
    have cew_heap_size2_0 : w2.cell? ⟨w.heap.size, 0, none⟩ = some (.int .i64 a) := keep_cell hb2 (by first | assumption | (go_simp; done) | (simp; done) | simp [*])
    have zew_heap_size2 : w.heap.size < w2.heap.size := block_lt_of_cell cew_heap_size2_0
    have cew_heap_size2_1 : w2.cell? ⟨w.heap.size, 1, none⟩ = some (.int .i64 b) := keep_cell hb2 (by first | assumption | (go_simp; done) | (simp; done) | simp [*])
    have B2 : Below w.heap.size w w2 := bl_call (by repeat (first | exact Below.refl _ _ | exact Nat.le_refl _ | refine Below.alloc ?_ ?_ _ | refine Below.setCell ?_ ?_ _ | refine Below.drew ?_ | refine bl_drewN ?_ _ | (assumption) | refine bl_call ?_ (by assumption) ?_ | omega | (simp <;> omega))) hb2 (by first | assumption | (simp; done) | (simp; omega) | omega)
    clear hb2
    have hsz_2 := B2.size
    go_wp2_with fail
    refine (HM.out _).mono ?_
    rintro e w3 ⟨rfl, hb3⟩
    have z3_0 : w.heap.size < w3.heap.size := by have := hb3.size; (try simp at this); omega
    have cew_heap_size3_0 : w3.cell? ⟨w.heap.size, 0, none⟩ = some (.int .i64 a) := keep_cell hb3 (by first | assumption | (go_simp; done) | (simp; done) | simp [*])
    have zew_heap_size3 : w.heap.size < w3.heap.size := block_lt_of_cell cew_heap_size3_0
    have cew_heap_size3_1 : w3.cell? ⟨w.heap.size, 1, none⟩ = some (.int .i64 b) := keep_cell hb3 (by first | assumption | (go_simp; done) | (simp; done) | simp [*])
    have B3 : Below w.heap.size w w3 := bl_call (by repeat (first | exact Below.refl _ _ | exact Nat.le_refl _ | refine Below.alloc ?_ ?_ _ | refine Below.setCell ?_ ?_ _ | refine Below.drew ?_ | refine bl_drewN ?_ _ | (assumption) | refine bl_call ?_ (by assumption) ?_ | omega | (simp <;> omega))) hb3 (by first | assumption | (simp; done) | (simp; omega) | omega)
    clear hb3
    have hsz_3 := B3.size
    go_wp2_with fail
    refine (refNumber _ _ _).mono ?_
    rintro e w4 ⟨rfl, hb4⟩
    have z4_0 : w.heap.size < w4.heap.size := by have := hb4.size; (try simp at this); omega
    have cew_heap_size4_0 : w4.cell? ⟨w.heap.size, 0, none⟩ = some (.int .i64 a) := keep_cell hb4 (by first | assumption | (go_simp; done) | (simp; done) | simp [*])
    have zew_heap_size4 : w.heap.size < w4.heap.size := block_lt_of_cell cew_heap_size4_0
    have cew_heap_size4_1 : w4.cell? ⟨w.heap.size, 1, none⟩ = some (.int .i64 b) := keep_cell hb4 (by first | assumption | (go_simp; done) | (simp; done) | simp [*])
    have cew3_heap_size4_0 : w4.cell? ⟨w3.heap.size, 0, none⟩ = some (.int .i64 0) := keep_cell hb4 (by first | assumption | (go_simp; done) | (simp; done) | simp [*])
    have zew3_heap_size4 : w3.heap.size < w4.heap.size := block_lt_of_cell cew3_heap_size4_0
    have cew3_heap_size4_1 : w4.cell? ⟨w3.heap.size, 1, none⟩ = some (.int .i64 0) := keep_cell hb4 (by first | assumption | (go_simp; done) | (simp; done) | simp [*])
    have B4 : Below w.heap.size w w4 := bl_call (by repeat (first | exact Below.refl _ _ | exact Nat.le_refl _ | refine Below.alloc ?_ ?_ _ | refine Below.setCell ?_ ?_ _ | refine Below.drew ?_ | refine bl_drewN ?_ _ | (assumption) | refine bl_call ?_ (by assumption) ?_ | omega | (simp <;> omega))) hb4 (by first | assumption | (simp; done) | (simp; omega) | omega)
    clear hb4
    have hsz_4 := B4.size
    rw [H1.out]
    go_wp2_with fail
    refine (awake_any _).mono ?_
    rintro e w5 ⟨rfl, hb5⟩
    have z5_0 : w.heap.size < w5.heap.size := by have := hb5.size; (try simp at this); omega
    have cew_heap_size5_0 : w5.cell? ⟨w.heap.size, 0, none⟩ = some (.int .i64 a) := keep_cell hb5 (by first | assumption | (go_simp; done) | (simp; done) | simp [*])
    have zew_heap_size5 : w.heap.size < w5.heap.size := block_lt_of_cell cew_heap_size5_0
    have cew_heap_size5_1 : w5.cell? ⟨w.heap.size, 1, none⟩ = some (.int .i64 b) := keep_cell hb5 (by first | assumption | (go_simp; done) | (simp; done) | simp [*])
    have cew3_heap_size5_0 : w5.cell? ⟨w3.heap.size, 0, none⟩ = some (.int .i64 0) := keep_cell hb5 (by first | assumption | (go_simp; done) | (simp; done) | simp [*])
    have zew3_heap_size5 : w3.heap.size < w5.heap.size := block_lt_of_cell cew3_heap_size5_0
    have cew3_heap_size5_1 : w5.cell? ⟨w3.heap.size, 1, none⟩ = some (.int .i64 0) := keep_cell hb5 (by first | assumption | (go_simp; done) | (simp; done) | simp [*])
    have B5 : Below w.heap.size w w5 := bl_call (by repeat (first | exact Below.refl _ _ | exact Nat.le_refl _ | refine Below.alloc ?_ ?_ _ | refine Below.setCell ?_ ?_ _ | refine Below.drew ?_ | refine bl_drewN ?_ _ | (assumption) | refine bl_call ?_ (by assumption) ?_ | omega | (simp <;> omega))) hb5 (by first | assumption | (simp; done) | (simp; omega) | omega)
    clear hb5
    have hsz_5 := B5.size
    go_wp2_with fail
    go_ret
    exact ⟨rfl, (by repeat (first | exact Below.refl _ _ | exact Nat.le_refl _ | refine Below.alloc ?_ ?_ _ | refine Below.setCell ?_ ?_ _ | refine Below.drew ?_ | refine bl_drewN ?_ _ | (assumption) | refine bl_call ?_ (by assumption) ?_ | omega | (simp <;> omega)))⟩
namespace gaugeFloors
open Go.ChangeShapes Go.WideShapes Go.ChangeAt Go.RowKit
open Go.Lib Go.Joins
set_option maxRecDepth 100000 in
theorem contract (H : Type) (enc : TypeId × Value → H) (W : World) (base : Nat) (args : Array Value) (ds gs : List (DataW H)) (before : List MemPlace)
    (hval : ∀ (j : Nat) t v, Tryd.f13.params[j]? = some t → args[j]? = some v → Value.okWide Tryd.prog W .any base t v)
    (hW : DataW.Whole enc Tryd.prog Tryd.f13.params.toList Rows.gaugeFloorsSpec.vars false W args.toList ds gs before) :
    Calls Tryd.prog 13 args W fun e W' => ∃ v, e = .returned v ∧ Rows.gaugeFloorsSpec.post enc Tryd.prog Tryd.f13 false true false false W args v W' := by
  have hW' := hW
  obtain ⟨p, q, hA0, hV, rfl, hfz, hnd⟩ := hW
  have hA : DataW.TrodAll enc Tryd.prog W 0 (fun _ => true) true Tryd.f13.params.toList args.toList ds p := hA0
  rw [Tryd.params13] at hA hval
  obtain ⟨v0, vs0, d0, ds0, p0, q0, hargs, rfl, rfl, h0, r0⟩ := trodAll_cons hA
  obtain ⟨rfl, rfl, rfl⟩ := trodAll_nil r0
  obtain rfl : args = #[v0] := by cases args; simp_all
  obtain ⟨rfl, rfl⟩ := trodVars_none hV
  obtain ⟨u0, t0, y0, z0, n0, rfl, rfl, rfl, tu0, tt0⟩ := open_agg2 Tryd.underlying23 (by kernel_rfl) (by kernel_rfl) (hval 0 23 v0 rfl rfl) h0
  obtain ⟨a0, ea0, rfl, wa0⟩ := DataW.trod_int Tryd.underlying3 tu0
  obtain ⟨b0, eb0, rfl, wb0⟩ := DataW.trod_int Tryd.underlying3 tt0
  obtain rfl : u0 = .int .i64 a0 := by simpa using ea0
  obtain rfl : t0 = .int .i64 b0 := by simpa using eb0
  clear hA0
  simp only [List.append_nil] at hW'
  refine (show Calls Tryd.prog 13 _ W _ from (GaugeFloors_walk a0 b0 W (inI wa0) (inI wb0))).mono fun e W' ⟨he, hb⟩ => ?_
  subst he
  exact ⟨_, rfl, _, _, _, [], [], [], hW', trodAll_mk1 (shut_bool Tryd.underlying4 _), trodAll_cons_mk (shut_agg2 (y0 := (.lit (.int .i64 a0), [])) (y1 := (.lit (.int .i64 b0), [])) Tryd.underlying23 (by kernel_rfl) (by kernel_rfl) ⟨1, by simp [DataW.trod, Tryd.underlying3, wa0]⟩ ⟨1, by simp [DataW.trod, Tryd.underlying3, wb0]⟩) (trodAll_mk0), rfl, hb.frame _, fun h => by cases h⟩
theorem reads (os : Os) {H : Type} (enc : TypeId × Value → H) : ∃ places, DataW.whole enc Tryd.prog ((laidWorld os).forCall (fun _ _ => 0) ⟨#[], #[.agg #[.int .i64 0, .int .i64 0]], []⟩).memory Tryd.f13.params.toList Rows.gaugeFloorsSpec.vars false (#[.agg #[.int .i64 0, .int .i64 0]] : Array Value).toList 8 = some ([.agg [.lit (.int .i64 0), .lit (.int .i64 0)]], [], places) :=
  ⟨[], by kernel_rfl⟩
set_option maxRecDepth 100000 in
theorem lifted (os : Os) (started : os.Started) (H : Type) (enc : TypeId × Value → H) (F : Stop.Interp) :
    ReturnsInHanded {} Tryd.checked os 13 .any ((OpenSpec.ofChange Rows.gaugeFloorsSpec).preRow enc Tryd.prog Tryd.f13 Rows.gaugeFloorsRow.domain false Rows.gaugeFloorsRow.laid) (((OpenSpec.ofChange Rows.gaugeFloorsSpec).at F).post enc Tryd.prog Tryd.f13 false true false false) := by
  obtain ⟨places, hx⟩ := reads os enc
  refine returnsInHanded_of_row (C := Tryd.checked) (s := OpenSpec.ofChange Rows.gaugeFloorsSpec) own started (by kernel_rfl) Tryd.func13
    (witness_row_at (enc := enc) (C := Tryd.checked) false (laidWorld os) #[.agg #[.int .i64 0, .int .i64 0]] rfl (by kernel_rfl) (by kernel_rfl) (by kernel_rfl)
      (OpenSpec.preRow_of_cond 8 hx (by kernel_rfl) (fun k hk => by cases hk) (by kernel_rfl) (laid_met os _))) ?_
  intro W base args ds gs before hval hW _ _ _ _ _ _
  exact contract H enc W base args ds gs before hval hW
theorem said : Rows.GaugeFloorsSaid :=
  OpenClaim.holds_of_cond 13 Tryd.f13 rfl rfl rfl rfl rfl rfl rfl ⟨rfl, rfl, rfl, rfl, rfl⟩ rfl rfl rfl rfl rfl (by kernel_rfl) Tryd.func13 (by kernel_rfl)
    (of_decide_eq_true (by kernel_rfl)) (by unfold Func.isWrapper; first | (rw [if_pos (by decide +kernel)]; kernel_rfl) | (rw [if_neg (by decide +kernel)]; exact ⟨rfl, rfl⟩))
    (fun os started H enc _ F => by rw [OpenClaim.pre_eq_preRow]; exact lifted os started H enc F)
theorem plain (f : FuncId) (fn : Func) (hf : Tryd.pinned.checked.prog.funcNamed "remould/remouldlaw04.GaugeFloors" = some f) (hfn : Tryd.pinned.checked.prog.funcs[f]? = some fn) :
    true = Tryd.pinned.checked.prog.looks [] ∧ ∀ (j : Nat) t, fn.params[j]? = some t → Tryd.pinned.checked.prog.wantsStandIn t = false := by
  obtain rfl : f = 13 := Option.some.inj ((show Tryd.prog.funcNamed "remould/remouldlaw04.GaugeFloors" = some 13 by kernel_rfl).symm.trans hf) |>.symm
  obtain rfl : fn = Tryd.f13 := (Option.some.inj (Tryd.func13.symm.trans hfn)).symm
  refine ⟨by kernel_rfl, fun j t ht => ?_⟩
  rw [Tryd.params13] at ht
  have hm : t ∈ [23] := by simpa using Array.mem_of_getElem? ht
  have hall : ([23].all fun u => !Tryd.prog.wantsStandIn u) = true := by kernel_rfl
  exact (show Tryd.prog.wantsStandIn t = false by simpa using List.all_eq_true.1 hall t (by simpa using hm))
theorem card : Rows.GaugeFloorsCardSaid :=
  Claim7.holds_tied_plain_at .later [] _ _ _ _ said (fun _ h => by cases h) (by kernel_rfl) (fun _ h => by cases h) gaugeFloors_row_tie rfl ⟨rfl, rfl⟩ (by kernel_rfl) rfl plain (by kernel_rfl)
end gaugeFloors
theorem GaugeFloors_holds : Rows.GaugeFloorsCardSaid := gaugeFloors.card
end Go.Proofs.YtgocloilagcfoabDoor
