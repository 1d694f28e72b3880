/- GaugePowers: for every int the law returns true. -/
import Derived.Test.YtgocloilagcfoabDoorL1
import Derived.Test.YtgocloilagcfoabDoorR3
import Derived.Test.YtgocloilagcfoabDoorF1
namespace Go.Proofs.YtgocloilagcfoabDoor
open Go.RowKit
attribute [local go_sem ↓] Go.wp_at_zero Go.wp_at_succ

set_option maxRecDepth 100000 in
set_option maxHeartbeats 4000000 in
theorem GaugePowers_walk (k : Int) (w : World) (_ : -9223372036854775808 ≤ k ∧ k ≤ 9223372036854775807) :
    Calls Tryd.prog 3 #[.int .i64 k] w fun e w' => e = .returned (.bool true) ∧ Below w.heap.size w w' := by
  by_cases h : -25 ≤ k ∧ k ≤ 25
  · obtain ⟨m, hm⟩ : ∃ m : Nat, 40 + k = m := ⟨(40 + k).toNat, by omega⟩
    have hC := fun wx => Power_yes k m wx h.1 h.2 hm
    have hP := fun wx => refPower k wx (by omega) (by omega)
    rw [show k = (m : Int) - 40 by omega, pw_pt] at hP
    rw [show (m : Int) - 40 = k by omega] at hP
    obtain ⟨⟨x, y⟩, hp⟩ : ∃ p, GM.pt m = p := ⟨_, rfl⟩
    rw [hp] at hC hP
    dsimp only at hC hP
    have HC := Lib.hid hC
    have HP := Lib.hid hP
    clear hC hP hp hm
    have g1 : ¬ k < -25 := by omega
    have g2 : ¬ 25 < k := by omega
    go_enter Tryd.func3, Tryd.ntmps3
    go_wp2_with fail
    refine (HC.out _).mono ?_
    rintro e w1 ⟨rfl, hb1⟩
    have B1 : Below w.heap.size w w1 := bl_call (by repeat (first | exact Below.refl _ _ | exact Nat.le_refl _ | refine Below.alloc ?_ ?_ _ | refine Below.setCell ?_ ?_ _ | refine Below.drew ?_ | refine bl_drewN ?_ _ | (assumption) | refine bl_call ?_ (by assumption) ?_ | omega | (simp <;> omega))) hb1 (by first | assumption | (simp; done) | (simp; omega) | omega)
    clear hb1
    have hsz_1 := B1.size
    go_upto_region 4 with fail
    refine with_act fun a0 ha0 => ?_
    refine wp_region_inv (by kernel_rfl) (by kernel_rfl) (fun s a' w' => ∃ v26 v27 v28 v29 v30 v31 v32 v33 v34 v35 v36 v2 : Value, a' = putL a0 [(26, v26), (27, v27), (28, v28), (29, v29), (30, v30), (31, v31), (32, v32), (33, v33), (34, v34), (35, v35), (36, v36), (2, v2)] ∧ Hid ((s 0 = true → v26 = .agg #[.int .i64 x, .int .i64 y]) ∧ (s 1 = true → v27 = .int .i64 k) ∧ (s 2 = true → v28 = .agg #[.int .i64 x, .int .i64 y]) ∧ (s 3 = true → v29 = .bool true) ∧ (s 4 = true → v30 = .bool true) ∧ (s 5 = true → v31 = .int .i64 0) ∧ (s 6 = true → v32 = .bool true) ∧ (s 7 = true → v33 = .bool true) ∧ (s 8 = true → v34 = .bool true) ∧ (s 9 = true → v35 = .bool true) ∧ (s 10 = true → v36 = .bool true) ∧ (s 11 = true → v2 = .bool true) ∧ True) ∧ BelX [] (w1.alloc (.cells #[.int .i64 x, .int .i64 y] 23)) w' ∧ True) ?x1hzero ⟨?x1hs0, ?x1hs1, ?x1hs2, ?x1hs3, ?x1hs4, ?x1hs5, ?x1hs6, ?x1hs7, ?x1hs8, ?x1hs9, ?x1hs10, ?x1hs11, trivial⟩ ?x1hdone
    case x1hzero =>
      refine ⟨a0.tmps.getD 26 undef, a0.tmps.getD 27 undef, a0.tmps.getD 28 undef, a0.tmps.getD 29 undef, a0.tmps.getD 30 undef, a0.tmps.getD 31 undef, a0.tmps.getD 32 undef, a0.tmps.getD 33 undef, a0.tmps.getD 34 undef, a0.tmps.getD 35 undef, a0.tmps.getD 36 undef, a0.tmps.getD 2 undef, ?_, ?_, ?_, trivial⟩
      · simp only [putL, put_self]
      · exact Lib.hid ⟨fun h => (by simp at h), fun h => (by simp at h), fun h => (by simp at h), fun h => (by simp at h), fun h => (by simp at h), fun h => (by simp at h), fun h => (by simp at h), fun h => (by simp at h), fun h => (by simp at h), fun h => (by simp at h), fun h => (by simp at h), fun h => (by simp at h), trivial⟩
      · exact BelX.start _ _
    case x1hs0 =>
      intro s a' w' hsk hdep hI K hK
      try dsimp only at hI hK
      obtain ⟨v26, v27, v28, v29, v30, v31, v32, v33, v34, v35, v36, v2, hact, hR, hX, _⟩ := hI
      subst hact
      have HK := Lib.hid hK
      clear hK
      have kc0 : w'.cell? ⟨w1.heap.size, 0, none⟩ = some (.int .i64 x) := hX.cell (by first | (simp; done) | (simp; omega)) (by first | assumption | (go_simp; done) | (simp; done))
      have kc1 : w'.cell? ⟨w1.heap.size, 1, none⟩ = some (.int .i64 y) := hX.cell (by first | (simp; done) | (simp; omega)) (by first | assumption | (go_simp; done) | (simp; done))
      clear hdep
      refine StepG.mk rfl ?_; rw [ha0]; simp only [putL, Act.put, List.setIfInBounds_toArray, List.set_cons_zero, List.set_cons_succ]
      go_wp2_with fail
      refine HK.out _ _ ?_
      refine ⟨(.agg #[.int .i64 x, .int .i64 y]), v27, v28, v29, v30, v31, v32, v33, v34, v35, v36, v2, (by rw [ha0]; simp only [putL, Act.put, List.setIfInBounds_toArray, List.set_cons_zero, List.set_cons_succ]), ?_, ?_, trivial⟩
      · obtain ⟨h26, h27, h28, h29, h30, h31, h32, h33, h34, h35, h36, h2, _⟩ := hR.out
        exact Lib.hid ⟨fun _ => rfl, fun h => h27 (by simpa using h), fun h => h28 (by simpa using h), fun h => h29 (by simpa using h), fun h => h30 (by simpa using h), fun h => h31 (by simpa using h), fun h => h32 (by simpa using h), fun h => h33 (by simpa using h), fun h => h34 (by simpa using h), fun h => h35 (by simpa using h), fun h => h36 (by simpa using h), fun h => h2 (by simpa using h), trivial⟩
      · exact hX
    case x1hs1 =>
      intro s a' w' hsk hdep hI K hK
      try dsimp only at hI hK
      obtain ⟨v26, v27, v28, v29, v30, v31, v32, v33, v34, v35, v36, v2, hact, hR, hX, _⟩ := hI
      subst hact
      have HK := Lib.hid hK
      clear hK
      have kc0 : w'.cell? ⟨w1.heap.size, 0, none⟩ = some (.int .i64 x) := hX.cell (by first | (simp; done) | (simp; omega)) (by first | assumption | (go_simp; done) | (simp; done))
      have kc1 : w'.cell? ⟨w1.heap.size, 1, none⟩ = some (.int .i64 y) := hX.cell (by first | (simp; done) | (simp; omega)) (by first | assumption | (go_simp; done) | (simp; done))
      clear hdep
      refine StepG.mk rfl ?_; rw [ha0]; simp only [putL, Act.put, List.setIfInBounds_toArray, List.set_cons_zero, List.set_cons_succ]
      go_wp2_with fail
      refine HK.out _ _ ?_
      refine ⟨v26, (.int .i64 k), v28, v29, v30, v31, v32, v33, v34, v35, v36, v2, (by rw [ha0]; simp only [putL, Act.put, List.setIfInBounds_toArray, List.set_cons_zero, List.set_cons_succ]), ?_, ?_, trivial⟩
      · obtain ⟨h26, h27, h28, h29, h30, h31, h32, h33, h34, h35, h36, h2, _⟩ := hR.out
        exact Lib.hid ⟨fun h => h26 (by simpa using h), fun _ => rfl, fun h => h28 (by simpa using h), fun h => h29 (by simpa using h), fun h => h30 (by simpa using h), fun h => h31 (by simpa using h), fun h => h32 (by simpa using h), fun h => h33 (by simpa using h), fun h => h34 (by simpa using h), fun h => h35 (by simpa using h), fun h => h36 (by simpa using h), fun h => h2 (by simpa using h), trivial⟩
      · exact hX
    case x1hs2 =>
      intro s a' w' hsk hdep hI K hK
      try dsimp only at hI hK
      obtain ⟨v26, v27, v28, v29, v30, v31, v32, v33, v34, v35, v36, v2, hact, hR, hX, _⟩ := hI
      subst hact
      have HK := Lib.hid hK
      clear hK
      have e27 : v27 = .int .i64 k := by obtain ⟨h26, h27, h28, h29, h30, h31, h32, h33, h34, h35, h36, h2, _⟩ := hR.out; exact h27 (hdep ⟨1, .data⟩ (by simp) rfl)
      subst e27
      have kc0 : w'.cell? ⟨w1.heap.size, 0, none⟩ = some (.int .i64 x) := hX.cell (by first | (simp; done) | (simp; omega)) (by first | assumption | (go_simp; done) | (simp; done))
      have kc1 : w'.cell? ⟨w1.heap.size, 1, none⟩ = some (.int .i64 y) := hX.cell (by first | (simp; done) | (simp; omega)) (by first | assumption | (go_simp; done) | (simp; done))
      clear hdep
      refine StepG.mk rfl ?_; rw [ha0]; simp only [putL, Act.put, List.setIfInBounds_toArray, List.set_cons_zero, List.set_cons_succ]
      go_wp2_with fail
      refine ((HP.out _)).mono ?_
      rintro e wn ⟨rfl, hb⟩
      go_wp2_with fail
      refine HK.out _ _ ?_
      refine ⟨v26, (.int .i64 k), (.agg #[.int .i64 x, .int .i64 y]), v29, v30, v31, v32, v33, v34, v35, v36, v2, (by rw [ha0]; simp only [putL, Act.put, List.setIfInBounds_toArray, List.set_cons_zero, List.set_cons_succ]), ?_, ?_, trivial⟩
      · obtain ⟨h26, h27, h28, h29, h30, h31, h32, h33, h34, h35, h36, h2, _⟩ := hR.out
        exact Lib.hid ⟨fun h => h26 (by simpa using h), fun _ => rfl, fun _ => rfl, fun h => h29 (by simpa using h), fun h => h30 (by simpa using h), fun h => h31 (by simpa using h), fun h => h32 (by simpa using h), fun h => h33 (by simpa using h), fun h => h34 (by simpa using h), fun h => h35 (by simpa using h), fun h => h36 (by simpa using h), fun h => h2 (by simpa using h), trivial⟩
      · exact hX.call hb
    case x1hs3 =>
      intro s a' w' hsk hdep hI K hK
      try dsimp only at hI hK
      obtain ⟨v26, v27, v28, v29, v30, v31, v32, v33, v34, v35, v36, v2, hact, hR, hX, _⟩ := hI
      subst hact
      have HK := Lib.hid hK
      clear hK
      have e26 : v26 = .agg #[.int .i64 x, .int .i64 y] := by obtain ⟨h26, h27, h28, h29, h30, h31, h32, h33, h34, h35, h36, h2, _⟩ := hR.out; exact h26 (hdep ⟨0, .data⟩ (by simp) rfl)
      subst e26
      have e28 : v28 = .agg #[.int .i64 x, .int .i64 y] := by obtain ⟨h26, h27, h28, h29, h30, h31, h32, h33, h34, h35, h36, h2, _⟩ := hR.out; exact h28 (hdep ⟨2, .data⟩ (by simp) rfl)
      subst e28
      have kc0 : w'.cell? ⟨w1.heap.size, 0, none⟩ = some (.int .i64 x) := hX.cell (by first | (simp; done) | (simp; omega)) (by first | assumption | (go_simp; done) | (simp; done))
      have kc1 : w'.cell? ⟨w1.heap.size, 1, none⟩ = some (.int .i64 y) := hX.cell (by first | (simp; done) | (simp; omega)) (by first | assumption | (go_simp; done) | (simp; done))
      clear hdep
      refine StepG.mk rfl ?_; rw [ha0]; simp only [putL, Act.put, List.setIfInBounds_toArray, List.set_cons_zero, List.set_cons_succ]
      go_wp2_with fail
      refine HK.out _ _ ?_
      refine ⟨(.agg #[.int .i64 x, .int .i64 y]), v27, (.agg #[.int .i64 x, .int .i64 y]), (.bool true), v30, v31, v32, v33, v34, v35, v36, v2, (by rw [ha0]; simp only [putL, Act.put, List.setIfInBounds_toArray, List.set_cons_zero, List.set_cons_succ]), ?_, ?_, trivial⟩
      · obtain ⟨h26, h27, h28, h29, h30, h31, h32, h33, h34, h35, h36, h2, _⟩ := hR.out
        exact Lib.hid ⟨fun _ => rfl, fun h => h27 (by simpa using h), fun _ => rfl, fun _ => rfl, fun h => h30 (by simpa using h), fun h => h31 (by simpa using h), fun h => h32 (by simpa using h), fun h => h33 (by simpa using h), fun h => h34 (by simpa using h), fun h => h35 (by simpa using h), fun h => h36 (by simpa using h), fun h => h2 (by simpa using h), trivial⟩
      · exact hX
    case x1hs4 =>
      intro s a' w' hsk hdep hI K hK
      try dsimp only at hI hK
      obtain ⟨v26, v27, v28, v29, v30, v31, v32, v33, v34, v35, v36, v2, hact, hR, hX, _⟩ := hI
      subst hact
      have HK := Lib.hid hK
      clear hK
      have e29 : v29 = .bool true := by obtain ⟨h26, h27, h28, h29, h30, h31, h32, h33, h34, h35, h36, h2, _⟩ := hR.out; exact h29 (hdep ⟨3, .data⟩ (by simp) rfl)
      subst e29
      have kc0 : w'.cell? ⟨w1.heap.size, 0, none⟩ = some (.int .i64 x) := hX.cell (by first | (simp; done) | (simp; omega)) (by first | assumption | (go_simp; done) | (simp; done))
      have kc1 : w'.cell? ⟨w1.heap.size, 1, none⟩ = some (.int .i64 y) := hX.cell (by first | (simp; done) | (simp; omega)) (by first | assumption | (go_simp; done) | (simp; done))
      clear hdep
      refine StepG.mk rfl ?_; rw [ha0]; simp only [putL, Act.put, List.setIfInBounds_toArray, List.set_cons_zero, List.set_cons_succ]
      go_wp2_with fail
      refine HK.out _ _ ?_
      refine ⟨v26, v27, v28, (.bool true), (.bool true), v31, v32, v33, v34, v35, v36, v2, (by rw [ha0]; simp only [putL, Act.put, List.setIfInBounds_toArray, List.set_cons_zero, List.set_cons_succ]), ?_, ?_, trivial⟩
      · obtain ⟨h26, h27, h28, h29, h30, h31, h32, h33, h34, h35, h36, h2, _⟩ := hR.out
        exact Lib.hid ⟨fun h => h26 (by simpa using h), fun h => h27 (by simpa using h), fun h => h28 (by simpa using h), fun _ => rfl, fun _ => rfl, fun h => h31 (by simpa using h), fun h => h32 (by simpa using h), fun h => h33 (by simpa using h), fun h => h34 (by simpa using h), fun h => h35 (by simpa using h), fun h => h36 (by simpa using h), fun h => h2 (by simpa using h), trivial⟩
      · exact hX
    case x1hs5 =>
      intro s a' w' hsk hdep hI K hK
      try dsimp only at hI hK
      obtain ⟨v26, v27, v28, v29, v30, v31, v32, v33, v34, v35, v36, v2, hact, hR, hX, _⟩ := hI
      subst hact
      have HK := Lib.hid hK
      clear hK
      have e30 : v30 = .bool true := by obtain ⟨h26, h27, h28, h29, h30, h31, h32, h33, h34, h35, h36, h2, _⟩ := hR.out; exact h30 (hdep ⟨4, .guard⟩ (by simp) rfl)
      subst e30
      have kc0 : w'.cell? ⟨w1.heap.size, 0, none⟩ = some (.int .i64 x) := hX.cell (by first | (simp; done) | (simp; omega)) (by first | assumption | (go_simp; done) | (simp; done))
      have kc1 : w'.cell? ⟨w1.heap.size, 1, none⟩ = some (.int .i64 y) := hX.cell (by first | (simp; done) | (simp; omega)) (by first | assumption | (go_simp; done) | (simp; done))
      clear hdep
      refine StepG.lay ?_; rw [ha0]; simp only [putL, Act.put, List.setIfInBounds_toArray, List.set_cons_zero, List.set_cons_succ]
      go_wp2_with fail
      refine HK.out _ _ ?_
      refine ⟨v26, v27, v28, v29, (.bool true), (.int .i64 0), v32, v33, v34, v35, v36, v2, (by rw [ha0]; simp only [putL, Act.put, List.setIfInBounds_toArray, List.set_cons_zero, List.set_cons_succ]), ?_, ?_, trivial⟩
      · obtain ⟨h26, h27, h28, h29, h30, h31, h32, h33, h34, h35, h36, h2, _⟩ := hR.out
        exact Lib.hid ⟨fun h => h26 (by simpa using h), fun h => h27 (by simpa using h), fun h => h28 (by simpa using h), fun h => h29 (by simpa using h), fun _ => rfl, fun _ => rfl, fun h => h32 (by simpa using h), fun h => h33 (by simpa using h), fun h => h34 (by simpa using h), fun h => h35 (by simpa using h), fun h => h36 (by simpa using h), fun h => h2 (by simpa using h), trivial⟩
      · exact hX
    case x1hs6 =>
      intro s a' w' hsk hdep hI K hK
      try dsimp only at hI hK
      obtain ⟨v26, v27, v28, v29, v30, v31, v32, v33, v34, v35, v36, v2, hact, hR, hX, _⟩ := hI
      subst hact
      have HK := Lib.hid hK
      clear hK
      have e31 : v31 = .int .i64 0 := by obtain ⟨h26, h27, h28, h29, h30, h31, h32, h33, h34, h35, h36, h2, _⟩ := hR.out; exact h31 (hdep ⟨5, .data⟩ (by simp) rfl)
      subst e31
      have e30 : v30 = .bool true := by obtain ⟨h26, h27, h28, h29, h30, h31, h32, h33, h34, h35, h36, h2, _⟩ := hR.out; exact h30 (hdep ⟨4, .guard⟩ (by simp) rfl)
      subst e30
      have kc0 : w'.cell? ⟨w1.heap.size, 0, none⟩ = some (.int .i64 x) := hX.cell (by first | (simp; done) | (simp; omega)) (by first | assumption | (go_simp; done) | (simp; done))
      have kc1 : w'.cell? ⟨w1.heap.size, 1, none⟩ = some (.int .i64 y) := hX.cell (by first | (simp; done) | (simp; omega)) (by first | assumption | (go_simp; done) | (simp; done))
      clear hdep
      refine StepG.lay ?_; rw [ha0]; simp only [putL, Act.put, List.setIfInBounds_toArray, List.set_cons_zero, List.set_cons_succ]
      go_wp2_with fail
      refine HK.out _ _ ?_
      refine ⟨v26, v27, v28, v29, (.bool true), (.int .i64 0), (.bool true), v33, v34, v35, v36, v2, (by rw [ha0]; simp only [putL, Act.put, List.setIfInBounds_toArray, List.set_cons_zero, List.set_cons_succ]), ?_, ?_, trivial⟩
      · obtain ⟨h26, h27, h28, h29, h30, h31, h32, h33, h34, h35, h36, h2, _⟩ := hR.out
        exact Lib.hid ⟨fun h => h26 (by simpa using h), fun h => h27 (by simpa using h), fun h => h28 (by simpa using h), fun h => h29 (by simpa using h), fun _ => rfl, fun _ => rfl, fun _ => rfl, fun h => h33 (by simpa using h), fun h => h34 (by simpa using h), fun h => h35 (by simpa using h), fun h => h36 (by simpa using h), fun h => h2 (by simpa using h), trivial⟩
      · exact hX
    case x1hs7 =>
      intro s a' w' hsk hdep hI K hK
      try dsimp only at hI hK
      obtain ⟨v26, v27, v28, v29, v30, v31, v32, v33, v34, v35, v36, v2, hact, hR, hX, _⟩ := hI
      subst hact
      have HK := Lib.hid hK
      clear hK
      have e30 : v30 = .bool true := by obtain ⟨h26, h27, h28, h29, h30, h31, h32, h33, h34, h35, h36, h2, _⟩ := hR.out; exact h30 (hdep ⟨4, .data⟩ (by simp) rfl)
      subst e30
      have e32 : v32 = .bool true := by obtain ⟨h26, h27, h28, h29, h30, h31, h32, h33, h34, h35, h36, h2, _⟩ := hR.out; exact h32 (hdep ⟨6, .data⟩ (by simp) rfl)
      subst e32
      have kc0 : w'.cell? ⟨w1.heap.size, 0, none⟩ = some (.int .i64 x) := hX.cell (by first | (simp; done) | (simp; omega)) (by first | assumption | (go_simp; done) | (simp; done))
      have kc1 : w'.cell? ⟨w1.heap.size, 1, none⟩ = some (.int .i64 y) := hX.cell (by first | (simp; done) | (simp; omega)) (by first | assumption | (go_simp; done) | (simp; done))
      clear hdep
      refine StepG.mk rfl ?_; rw [ha0]; simp only [putL, Act.put, List.setIfInBounds_toArray, List.set_cons_zero, List.set_cons_succ]
      go_wp2_with fail
      refine HK.out _ _ ?_
      refine ⟨v26, v27, v28, v29, (.bool true), v31, (.bool true), (.bool true), v34, v35, v36, v2, (by rw [ha0]; simp only [putL, Act.put, List.setIfInBounds_toArray, List.set_cons_zero, List.set_cons_succ]), ?_, ?_, trivial⟩
      · obtain ⟨h26, h27, h28, h29, h30, h31, h32, h33, h34, h35, h36, h2, _⟩ := hR.out
        exact Lib.hid ⟨fun h => h26 (by simpa using h), fun h => h27 (by simpa using h), fun h => h28 (by simpa using h), fun h => h29 (by simpa using h), fun _ => rfl, fun h => h31 (by simpa using h), fun _ => rfl, fun _ => rfl, fun h => h34 (by simpa using h), fun h => h35 (by simpa using h), fun h => h36 (by simpa using h), fun h => h2 (by simpa using h), trivial⟩
      · exact hX
    case x1hs8 =>
      intro s a' w' hsk hdep hI K hK
      try dsimp only at hI hK
      obtain ⟨v26, v27, v28, v29, v30, v31, v32, v33, v34, v35, v36, v2, hact, hR, hX, _⟩ := hI
      subst hact
      have HK := Lib.hid hK
      clear hK
      have e33 : v33 = .bool true := by obtain ⟨h26, h27, h28, h29, h30, h31, h32, h33, h34, h35, h36, h2, _⟩ := hR.out; exact h33 (hdep ⟨7, .data⟩ (by simp) rfl)
      subst e33
      have kc0 : w'.cell? ⟨w1.heap.size, 0, none⟩ = some (.int .i64 x) := hX.cell (by first | (simp; done) | (simp; omega)) (by first | assumption | (go_simp; done) | (simp; done))
      have kc1 : w'.cell? ⟨w1.heap.size, 1, none⟩ = some (.int .i64 y) := hX.cell (by first | (simp; done) | (simp; omega)) (by first | assumption | (go_simp; done) | (simp; done))
      clear hdep
      refine StepG.mk rfl ?_; rw [ha0]; simp only [putL, Act.put, List.setIfInBounds_toArray, List.set_cons_zero, List.set_cons_succ]
      go_wp2_with fail
      refine HK.out _ _ ?_
      refine ⟨v26, v27, v28, v29, v30, v31, v32, (.bool true), (.bool true), v35, v36, v2, (by rw [ha0]; simp only [putL, Act.put, List.setIfInBounds_toArray, List.set_cons_zero, List.set_cons_succ]), ?_, ?_, trivial⟩
      · obtain ⟨h26, h27, h28, h29, h30, h31, h32, h33, h34, h35, h36, h2, _⟩ := hR.out
        exact Lib.hid ⟨fun h => h26 (by simpa using h), fun h => h27 (by simpa using h), fun h => h28 (by simpa using h), fun h => h29 (by simpa using h), fun h => h30 (by simpa using h), fun h => h31 (by simpa using h), fun h => h32 (by simpa using h), fun _ => rfl, fun _ => rfl, fun h => h35 (by simpa using h), fun h => h36 (by simpa using h), fun h => h2 (by simpa using h), trivial⟩
      · exact hX
    case x1hs9 =>
      intro s a' w' hsk hdep hI K hK
      try dsimp only at hI hK
      obtain ⟨v26, v27, v28, v29, v30, v31, v32, v33, v34, v35, v36, v2, hact, hR, hX, _⟩ := hI
      subst hact
      have HK := Lib.hid hK
      clear hK
      have e34 : v34 = .bool true := by obtain ⟨h26, h27, h28, h29, h30, h31, h32, h33, h34, h35, h36, h2, _⟩ := hR.out; exact h34 (hdep ⟨8, .guard⟩ (by simp) rfl)
      subst e34
      have kc0 : w'.cell? ⟨w1.heap.size, 0, none⟩ = some (.int .i64 x) := hX.cell (by first | (simp; done) | (simp; omega)) (by first | assumption | (go_simp; done) | (simp; done))
      have kc1 : w'.cell? ⟨w1.heap.size, 1, none⟩ = some (.int .i64 y) := hX.cell (by first | (simp; done) | (simp; omega)) (by first | assumption | (go_simp; done) | (simp; done))
      clear hdep
      refine StepG.lay ?_; rw [ha0]; simp only [putL, Act.put, List.setIfInBounds_toArray, List.set_cons_zero, List.set_cons_succ]
      go_wp2_with fail
      refine ((awake_any _)).mono ?_
      rintro e wn ⟨rfl, hb⟩
      go_wp2_with fail
      refine HK.out _ _ ?_
      refine ⟨v26, v27, v28, v29, v30, v31, v32, v33, (.bool true), (.bool true), v36, v2, (by rw [ha0]; simp only [putL, Act.put, List.setIfInBounds_toArray, List.set_cons_zero, List.set_cons_succ]), ?_, ?_, trivial⟩
      · obtain ⟨h26, h27, h28, h29, h30, h31, h32, h33, h34, h35, h36, h2, _⟩ := hR.out
        exact Lib.hid ⟨fun h => h26 (by simpa using h), fun h => h27 (by simpa using h), fun h => h28 (by simpa using h), fun h => h29 (by simpa using h), fun h => h30 (by simpa using h), fun h => h31 (by simpa using h), fun h => h32 (by simpa using h), fun h => h33 (by simpa using h), fun _ => rfl, fun _ => rfl, fun h => h36 (by simpa using h), fun h => h2 (by simpa using h), trivial⟩
      · exact hX.call hb
    case x1hs10 =>
      intro s a' w' hsk hdep hI K hK
      try dsimp only at hI hK
      obtain ⟨v26, v27, v28, v29, v30, v31, v32, v33, v34, v35, v36, v2, hact, hR, hX, _⟩ := hI
      subst hact
      have HK := Lib.hid hK
      clear hK
      have e34 : v34 = .bool true := by obtain ⟨h26, h27, h28, h29, h30, h31, h32, h33, h34, h35, h36, h2, _⟩ := hR.out; exact h34 (hdep ⟨8, .data⟩ (by simp) rfl)
      subst e34
      have e35 : v35 = .bool true := by obtain ⟨h26, h27, h28, h29, h30, h31, h32, h33, h34, h35, h36, h2, _⟩ := hR.out; exact h35 (hdep ⟨9, .data⟩ (by simp) rfl)
      subst e35
      have kc0 : w'.cell? ⟨w1.heap.size, 0, none⟩ = some (.int .i64 x) := hX.cell (by first | (simp; done) | (simp; omega)) (by first | assumption | (go_simp; done) | (simp; done))
      have kc1 : w'.cell? ⟨w1.heap.size, 1, none⟩ = some (.int .i64 y) := hX.cell (by first | (simp; done) | (simp; omega)) (by first | assumption | (go_simp; done) | (simp; done))
      clear hdep
      refine StepG.mk rfl ?_; rw [ha0]; simp only [putL, Act.put, List.setIfInBounds_toArray, List.set_cons_zero, List.set_cons_succ]
      go_wp2_with fail
      refine HK.out _ _ ?_
      refine ⟨v26, v27, v28, v29, v30, v31, v32, v33, (.bool true), (.bool true), (.bool true), v2, (by rw [ha0]; simp only [putL, Act.put, List.setIfInBounds_toArray, List.set_cons_zero, List.set_cons_succ]), ?_, ?_, trivial⟩
      · obtain ⟨h26, h27, h28, h29, h30, h31, h32, h33, h34, h35, h36, h2, _⟩ := hR.out
        exact Lib.hid ⟨fun h => h26 (by simpa using h), fun h => h27 (by simpa using h), fun h => h28 (by simpa using h), fun h => h29 (by simpa using h), fun h => h30 (by simpa using h), fun h => h31 (by simpa using h), fun h => h32 (by simpa using h), fun h => h33 (by simpa using h), fun _ => rfl, fun _ => rfl, fun _ => rfl, fun h => h2 (by simpa using h), trivial⟩
      · exact hX
    case x1hs11 =>
      intro s a' w' hsk hdep hI K hK
      try dsimp only at hI hK
      obtain ⟨v26, v27, v28, v29, v30, v31, v32, v33, v34, v35, v36, v2, hact, hR, hX, _⟩ := hI
      subst hact
      have HK := Lib.hid hK
      clear hK
      have e36 : v36 = .bool true := by obtain ⟨h26, h27, h28, h29, h30, h31, h32, h33, h34, h35, h36, h2, _⟩ := hR.out; exact h36 (hdep ⟨10, .data⟩ (by simp) rfl)
      subst e36
      have kc0 : w'.cell? ⟨w1.heap.size, 0, none⟩ = some (.int .i64 x) := hX.cell (by first | (simp; done) | (simp; omega)) (by first | assumption | (go_simp; done) | (simp; done))
      have kc1 : w'.cell? ⟨w1.heap.size, 1, none⟩ = some (.int .i64 y) := hX.cell (by first | (simp; done) | (simp; omega)) (by first | assumption | (go_simp; done) | (simp; done))
      clear hdep
      refine StepG.mk rfl ?_; rw [ha0]; simp only [putL, Act.put, List.setIfInBounds_toArray, List.set_cons_zero, List.set_cons_succ]
      go_wp2_with fail
      refine HK.out _ _ ?_
      refine ⟨v26, v27, v28, v29, v30, v31, v32, v33, v34, v35, (.bool true), (.bool true), (by rw [ha0]; simp only [putL, Act.put, List.setIfInBounds_toArray, List.set_cons_zero, List.set_cons_succ]), ?_, ?_, trivial⟩
      · obtain ⟨h26, h27, h28, h29, h30, h31, h32, h33, h34, h35, h36, h2, _⟩ := hR.out
        exact Lib.hid ⟨fun h => h26 (by simpa using h), fun h => h27 (by simpa using h), fun h => h28 (by simpa using h), fun h => h29 (by simpa using h), fun h => h30 (by simpa using h), fun h => h31 (by simpa using h), fun h => h32 (by simpa using h), fun h => h33 (by simpa using h), fun h => h34 (by simpa using h), fun h => h35 (by simpa using h), fun _ => rfl, fun _ => rfl, trivial⟩
      · exact hX
    intro s a' w2 hall hI
    try dsimp only at hI
    obtain ⟨v26, v27, v28, v29, v30, v31, v32, v33, v34, v35, v36, v2, hact, hR, hXR, _⟩ := hI
    subst hact
    obtain ⟨h26, h27, h28, h29, h30, h31, h32, h33, h34, h35, h36, h2, _⟩ := hR.out
    clear hR
    have e26 := h26 (hall 0 (by decide))
    subst e26
    clear h26
    have e27 := h27 (hall 1 (by decide))
    subst e27
    clear h27
    have e28 := h28 (hall 2 (by decide))
    subst e28
    clear h28
    have e29 := h29 (hall 3 (by decide))
    subst e29
    clear h29
    have e30 := h30 (hall 4 (by decide))
    subst e30
    clear h30
    have e31 := h31 (hall 5 (by decide))
    subst e31
    clear h31
    have e32 := h32 (hall 6 (by decide))
    subst e32
    clear h32
    have e33 := h33 (hall 7 (by decide))
    subst e33
    clear h33
    have e34 := h34 (hall 8 (by decide))
    subst e34
    clear h34
    have e35 := h35 (hall 9 (by decide))
    subst e35
    clear h35
    have e36 := h36 (hall 10 (by decide))
    subst e36
    clear h36
    have e2 := h2 (hall 11 (by decide))
    subst e2
    clear h2
    clear hall
    rw [ha0]; simp only [putL, Act.put, List.setIfInBounds_toArray, List.set_cons_zero, List.set_cons_succ]
    clear ha0
    have B2 : Below w.heap.size w w2 := hXR.below (by first | assumption | exact (by repeat (first | exact Below.refl _ _ | exact Nat.le_refl _ | refine Below.alloc ?_ ?_ _ | refine Below.setCell ?_ ?_ _ | refine Below.drew ?_ | refine bl_drewN ?_ _ | (assumption) | refine bl_call ?_ (by assumption) ?_ | omega | (simp <;> omega)))) (by first | omega | (simp <;> omega)) (by simp <;> omega)
    clear hXR
    go_wp2_with fail
    go_ret
    exact ⟨rfl, (by repeat (first | exact Below.refl _ _ | exact Nat.le_refl _ | refine Below.alloc ?_ ?_ _ | refine Below.setCell ?_ ?_ _ | refine Below.drew ?_ | refine bl_drewN ?_ _ | (assumption) | refine bl_call ?_ (by assumption) ?_ | omega | (simp <;> omega)))⟩
  · have HC := Lib.hid (fun wx => Power_no k wx h)
    have g : k < -25 ∨ (¬ k < -25 ∧ 25 < k) := by omega
    clear h
    rcases g with g | ⟨g1, g2⟩
    all_goals
      go_enter Tryd.func3, Tryd.ntmps3
      go_wp2_with fail
      refine (HC.out _).mono ?_
      rintro e w1 ⟨rfl, hb1⟩
      have B1 : Below w.heap.size w w1 := bl_call (by repeat (first | exact Below.refl _ _ | exact Nat.le_refl _ | refine Below.alloc ?_ ?_ _ | refine Below.setCell ?_ ?_ _ | refine Below.drew ?_ | refine bl_drewN ?_ _ | (assumption) | refine bl_call ?_ (by assumption) ?_ | omega | (simp <;> omega))) hb1 (by first | assumption | (simp; done) | (simp; omega) | omega)
      clear hb1
      have hsz_1 := B1.size
      go_wp2_with fail
      refine (awake_any _).mono ?_
      rintro e w2 ⟨rfl, hb2⟩
      have B2 : Below w.heap.size w w2 := bl_call (by repeat (first | exact Below.refl _ _ | exact Nat.le_refl _ | refine Below.alloc ?_ ?_ _ | refine Below.setCell ?_ ?_ _ | refine Below.drew ?_ | refine bl_drewN ?_ _ | (assumption) | refine bl_call ?_ (by assumption) ?_ | omega | (simp <;> omega))) hb2 (by first | assumption | (simp; done) | (simp; omega) | omega)
      clear hb2
      have hsz_2 := B2.size
      go_wp2_with fail
      go_ret
      exact ⟨rfl, (by repeat (first | exact Below.refl _ _ | exact Nat.le_refl _ | refine Below.alloc ?_ ?_ _ | refine Below.setCell ?_ ?_ _ | refine Below.drew ?_ | refine bl_drewN ?_ _ | (assumption) | refine bl_call ?_ (by assumption) ?_ | omega | (simp <;> omega)))⟩
namespace gaugePowers
open Go.ChangeShapes Go.WideShapes Go.ChangeAt Go.RowKit
open Go.Lib Go.Joins
set_option maxRecDepth 100000 in
theorem contract (H : Type) (enc : TypeId × Value → H) (W : World) (base : Nat) (args : Array Value) (ds gs : List (DataW H)) (before : List MemPlace)
    (hval : ∀ (j : Nat) t v, Tryd.f3.params[j]? = some t → args[j]? = some v → Value.okWide Tryd.prog W .any base t v)
    (hW : DataW.Whole enc Tryd.prog Tryd.f3.params.toList Rows.gaugePowersSpec.vars false W args.toList ds gs before) :
    Calls Tryd.prog 3 args W fun e W' => ∃ v, e = .returned v ∧ Rows.gaugePowersSpec.post enc Tryd.prog Tryd.f3 false true false false W args v W' := by
  have hW' := hW
  obtain ⟨p, q, hA0, hV, rfl, hfz, hnd⟩ := hW
  have hA : DataW.TrodAll enc Tryd.prog W 0 (fun _ => true) true Tryd.f3.params.toList args.toList ds p := hA0
  rw [Tryd.params3] at hA hval
  obtain ⟨v0, vs0, d0, ds0, p0, q0, hargs, rfl, rfl, h0, r0⟩ := trodAll_cons hA
  obtain ⟨rfl, rfl, rfl⟩ := trodAll_nil r0
  obtain rfl : args = #[v0] := by cases args; simp_all
  obtain ⟨rfl, rfl⟩ := trodVars_none hV
  obtain ⟨x0, rfl, rfl, rfl, wx0⟩ := open_int Tryd.underlying3 (hval 0 3 v0 rfl rfl) h0
  clear hA0
  simp only [List.append_nil] at hW'
  refine (show Calls Tryd.prog 3 _ W _ from (GaugePowers_walk x0 W (inI wx0))).mono fun e W' ⟨he, hb⟩ => ?_
  subst he
  exact ⟨_, rfl, _, _, _, [], [], [], hW', trodAll_mk1 (shut_bool Tryd.underlying4 _), trodAll_cons_mk (shut_int Tryd.underlying3 wx0) (trodAll_mk0), rfl, hb.frame _, fun h => by cases h⟩
theorem reads (os : Os) {H : Type} (enc : TypeId × Value → H) : ∃ places, DataW.whole enc Tryd.prog ((laidWorld os).forCall (fun _ _ => 0) ⟨#[], #[.int .i64 0], []⟩).memory Tryd.f3.params.toList Rows.gaugePowersSpec.vars false (#[.int .i64 0] : Array Value).toList 8 = some ([.lit (.int .i64 0)], [], places) :=
  ⟨[], by kernel_rfl⟩
set_option maxRecDepth 100000 in
theorem lifted (os : Os) (started : os.Started) (H : Type) (enc : TypeId × Value → H) (F : Stop.Interp) :
    ReturnsInHanded {} Tryd.checked os 3 .any ((OpenSpec.ofChange Rows.gaugePowersSpec).preRow enc Tryd.prog Tryd.f3 Rows.gaugePowersRow.domain false Rows.gaugePowersRow.laid) (((OpenSpec.ofChange Rows.gaugePowersSpec).at F).post enc Tryd.prog Tryd.f3 false true false false) := by
  obtain ⟨places, hx⟩ := reads os enc
  refine returnsInHanded_of_row (C := Tryd.checked) (s := OpenSpec.ofChange Rows.gaugePowersSpec) own started (by kernel_rfl) Tryd.func3
    (witness_row_at (enc := enc) (C := Tryd.checked) false (laidWorld os) #[.int .i64 0] rfl (by kernel_rfl) (by kernel_rfl) (by kernel_rfl)
      (OpenSpec.preRow_of_cond 8 hx (by kernel_rfl) (fun k hk => by cases hk) (by kernel_rfl) (laid_met os _))) ?_
  intro W base args ds gs before hval hW _ _ _ _ _ _
  exact contract H enc W base args ds gs before hval hW
theorem said : Rows.GaugePowersSaid :=
  OpenClaim.holds_of_cond 3 Tryd.f3 rfl rfl rfl rfl rfl rfl rfl ⟨rfl, rfl, rfl, rfl, rfl⟩ rfl rfl rfl rfl rfl (by kernel_rfl) Tryd.func3 (by kernel_rfl)
    (of_decide_eq_true (by kernel_rfl)) (by unfold Func.isWrapper; first | (rw [if_pos (by decide +kernel)]; kernel_rfl) | (rw [if_neg (by decide +kernel)]; exact ⟨rfl, rfl⟩))
    (fun os started H enc _ F => by rw [OpenClaim.pre_eq_preRow]; exact lifted os started H enc F)
theorem plain (f : FuncId) (fn : Func) (hf : Tryd.pinned.checked.prog.funcNamed "remould/remouldlaw04.GaugePowers" = some f) (hfn : Tryd.pinned.checked.prog.funcs[f]? = some fn) :
    true = Tryd.pinned.checked.prog.looks [] ∧ ∀ (j : Nat) t, fn.params[j]? = some t → Tryd.pinned.checked.prog.wantsStandIn t = false := by
  obtain rfl : f = 3 := Option.some.inj ((show Tryd.prog.funcNamed "remould/remouldlaw04.GaugePowers" = some 3 by kernel_rfl).symm.trans hf) |>.symm
  obtain rfl : fn = Tryd.f3 := (Option.some.inj (Tryd.func3.symm.trans hfn)).symm
  refine ⟨by kernel_rfl, fun j t ht => ?_⟩
  rw [Tryd.params3] at ht
  have hm : t ∈ [3] := by simpa using Array.mem_of_getElem? ht
  have hall : ([3].all fun u => !Tryd.prog.wantsStandIn u) = true := by kernel_rfl
  exact (show Tryd.prog.wantsStandIn t = false by simpa using List.all_eq_true.1 hall t (by simpa using hm))
theorem card : Rows.GaugePowersCardSaid :=
  Claim7.holds_tied_plain_at .later [] _ _ _ _ said (fun _ h => by cases h) (by kernel_rfl) (fun _ h => by cases h) gaugePowers_row_tie rfl ⟨rfl, rfl⟩ (by kernel_rfl) rfl plain (by kernel_rfl)
end gaugePowers
theorem GaugePowers_holds : Rows.GaugePowersCardSaid := gaugePowers.card
end Go.Proofs.YtgocloilagcfoabDoor
