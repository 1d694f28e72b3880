/- The reference's Below. -/
import Derived.Test.YtgocloilagcfoabDoorG16
import Derived.Test.YtgocloilagcfoabDoorR5
namespace Go.Proofs.YtgocloilagcfoabDoor
open Go.RowKit
attribute [local go_sem ↓] Go.wp_at_zero Go.wp_at_succ

theorem sgn_swap (a b c d : Int) : GM.sgn (a - c) (b - d) = -GM.sgn (c - a) (d - b) := GM.sg_sub_comm (c, d) (a, b)
theorem two_21 : ∀ j : Fin 22, (2 : Int) ^ (j : Nat) ≤ 2097152 := by decide
theorem two_20 : ∀ j : Fin 21, (2 : Int) ^ (j : Nat) ≤ 1048576 := by decide
set_option maxRecDepth 100000 in
set_option maxHeartbeats 4000000 in
theorem refBelow (a b : Int) (w : World) (x1 : -1000000 ≤ a) (x2 : a ≤ 1000000) (x3 : -1000000 ≤ b) (x4 : b ≤ 1000000) (h2 : GM.sgn (a - 1000000) b ≤ 0) :
    Calls Tryd.prog 33 #[.agg #[.int .i64 a, .int .i64 b]] w fun e w' => ∃ n, e = .returned (.int .i64 n) ∧ BelowIs a b n ∧ 0 ≤ n ∧ n ≤ 4000000 ∧ Below w.heap.size w w' := by
  have htop := below_top 2097152 a b top_2 h2
  have hz : GM.sgn ((GM.gr 34 0).1 - a) ((GM.gr 34 0).2 - b) = -GM.sgn a b := by
    have := sgn_flip a b 0
    rw [Int.sub_zero] at this
    exact this
  have hSg := fun wx => refSign a b wx (by omega) (by omega) (by omega) (by omega)
  obtain ⟨S, hS⟩ : ∃ S, GM.sgn a b = S := ⟨_, rfl⟩
  rw [hS] at hSg hz
  have HSG := Lib.hid hSg
  have HZ := Lib.hid hz
  have HTOP := Lib.hid htop
  clear hSg hz htop h2 hS
  by_cases hpos : S ≤ 0
  · go_enter Tryd.func33, Tryd.ntmps33
    go_wp2_with fail
    refine (HSG.out _).mono ?_
    rintro e w1 ⟨rfl, hb1⟩
    have z1_0 : w.heap.size < w1.heap.size := by have := hb1.size; (try simp at this); omega
    have c1_0_0 : w1.cell? ⟨w.heap.size, 0, none⟩ = some (.int .i64 a) := keep_cell hb1 (by first | assumption | (go_simp; done) | (simp; done) | simp [*])
    have c1_0_1 : w1.cell? ⟨w.heap.size, 1, none⟩ = some (.int .i64 b) := keep_cell hb1 (by first | assumption | (go_simp; done) | (simp; done) | simp [*])
    have B1 : Below w.heap.size w w1 := bl_call (by repeat (first | exact Below.refl _ _ | exact Nat.le_refl _ | refine Below.alloc ?_ ?_ _ | refine Below.setCell ?_ ?_ _ | refine Below.drew ?_ | refine bl_drewN ?_ _ | (assumption) | refine bl_call ?_ (by assumption) ?_ | omega | (simp <;> omega))) hb1 (by first | assumption | (simp; done) | (simp; omega) | omega)
    clear hb1
    have hsz_1 := B1.size
    go_wp2_with fail
    go_ret
    exact ⟨0, rfl, ⟨.inl rfl, by rw [HZ.out]; omega⟩, by omega, by omega, (by repeat (first | exact Below.refl _ _ | exact Nat.le_refl _ | refine Below.alloc ?_ ?_ _ | refine Below.setCell ?_ ?_ _ | refine Below.drew ?_ | refine bl_drewN ?_ _ | (assumption) | refine bl_call ?_ (by assumption) ?_ | omega | (simp <;> omega)))⟩
  · go_enter Tryd.func33, Tryd.ntmps33
    go_wp2_with fail
    refine (HSG.out _).mono ?_
    rintro e w1 ⟨rfl, hb1⟩
    have z1_0 : w.heap.size < w1.heap.size := by have := hb1.size; (try simp at this); omega
    have c1_0_0 : w1.cell? ⟨w.heap.size, 0, none⟩ = some (.int .i64 a) := keep_cell hb1 (by first | assumption | (go_simp; done) | (simp; done) | simp [*])
    have c1_0_1 : w1.cell? ⟨w.heap.size, 1, none⟩ = some (.int .i64 b) := keep_cell hb1 (by first | assumption | (go_simp; done) | (simp; done) | simp [*])
    have B1 : Below w.heap.size w w1 := bl_call (by repeat (first | exact Below.refl _ _ | exact Nat.le_refl _ | refine Below.alloc ?_ ?_ _ | refine Below.setCell ?_ ?_ _ | refine Below.drew ?_ | refine bl_drewN ?_ _ | (assumption) | refine bl_call ?_ (by assumption) ?_ | omega | (simp <;> omega))) hb1 (by first | assumption | (simp; done) | (simp; omega) | omega)
    clear hb1
    have hsz_1 := B1.size
    have hpos' : 0 < S := by omega
    go_wp2_with fail
    go_loopw [4] (fun y wr => ∃ j : Nat, y = .int .i64 (2 ^ j) ∧ j ≤ 21 ∧ wr.cell? ⟨w.heap.size, 0, none⟩ = some (.int .i64 a) ∧ wr.cell? ⟨w.heap.size, 1, none⟩ = some (.int .i64 b) ∧ Below w.heap.size w wr) (fun y _ => (4000000 - intOf y).toNat)
    case atStart => exact ⟨0, rfl, by omega, c1_0_0, c1_0_1, B1⟩
    case round =>
      obtain ⟨j, rfl, hj, d0, d1, B⟩ := hrel
      have hws : w.heap.size < wr.heap.size := block_lt_of_cell d0
      have hpw : (1 : Int) ≤ 2 ^ j ∧ (2 : Int) ^ j ≤ 2097152 := by
        exact ⟨Int.pow_pos (by decide), two_21 ⟨j, by omega⟩⟩
      have hj2 : (2 : Int) ^ j = 2097152 ∨ j ≤ 20 := by
        rcases Nat.lt_or_ge j 21 with h | h
        · exact .inr (by omega)
        · obtain rfl : j = 21 := by omega
          exact .inl (by decide)
      have hj3 : (2 : Int) * 2 ^ j = 2 ^ (j + 1) := by rw [Int.pow_succ, Int.mul_comm]
      obtain ⟨h, hh⟩ : ∃ h, (2 : Int) ^ j = h := ⟨_, rfl⟩
      rw [hh] at hpw hj2 hj3 ⊢
      have HH := Lib.hid hh
      have HJ3 := Lib.hid hj3
      clear hh hj3
      have HTOP2 : Hid (h = 2097152 → 0 ≤ GM.sgn ((GM.gr 34 h).1 - a) ((GM.gr 34 h).2 - b)) := Lib.hid (fun e => by rw [e]; exact HTOP.out)
      have hg := gr_bd (h) (by omega) (by omega)
      have hR := fun wx => refRung (h) wx (by omega) (by omega)
      obtain ⟨⟨x, y⟩, hp⟩ : ∃ p, GM.gr 34 (h) = p := ⟨_, rfl⟩
      rw [hp] at hR hg
      dsimp only at hR hg
      have hM := fun wx => refMinus a b x y wx (by omega) (by omega) (by omega) (by omega)
      have hS := fun wx => refSign (a - x) (b - y) wx (by omega) (by omega) (by omega) (by omega)
      rw [sgn_swap] at hS
      obtain ⟨T, hT⟩ : ∃ T, GM.sgn (x - a) (y - b) = T := ⟨_, rfl⟩
      rw [hT] at hS
      have HP := Lib.hid hp
      have HT := Lib.hid hT
      have HR := Lib.hid hR
      have HM := Lib.hid hM
      have HS := Lib.hid hS
      clear hp hT hR hM hS hg
      go_upto_region 4 with fail
      refine with_act fun a0 ha0 => ?_
      refine wp_region_inv (by kernel_rfl) (by kernel_rfl) (fun s a' w' => ∃ v9 v10 v11 v12 v13 v14 : Value, a' = putL a0 [(9, v9), (10, v10), (11, v11), (12, v12), (13, v13), (14, v14)] ∧ Hid ((s 0 = true → v9 = .agg #[.int .i64 a, .int .i64 b]) ∧ (s 1 = true → v10 = .int .i64 h) ∧ (s 2 = true → v11 = .agg #[.int .i64 x, .int .i64 y]) ∧ (s 3 = true → v12 = .agg #[.int .i64 (a - x), .int .i64 (b - y)]) ∧ (s 4 = true → v13 = .int .i64 (-T)) ∧ (s 5 = true → v14 = .bool (decide (T < 0))) ∧ True) ∧ BelX [] wr w' ∧ True) ?x1hzero ⟨?x1hs0, ?x1hs1, ?x1hs2, ?x1hs3, ?x1hs4, ?x1hs5, trivial⟩ ?x1hdone
      case x1hzero =>
        refine ⟨a0.tmps.getD 9 undef, a0.tmps.getD 10 undef, a0.tmps.getD 11 undef, a0.tmps.getD 12 undef, a0.tmps.getD 13 undef, a0.tmps.getD 14 undef, ?_, ?_, ?_, trivial⟩
        · simp only [putL, put_self]
        · exact Lib.hid ⟨fun h => (by simp at h), fun h => (by simp at h), fun h => (by simp at h), fun h => (by simp at h), fun h => (by simp at h), fun h => (by simp at h), trivial⟩
        · exact BelX.start _ _
      case x1hs0 =>
        intro s a' w' hsk hdep hI K hK
        try dsimp only at hI hK
        obtain ⟨v9, v10, v11, v12, v13, v14, hact, hR, hX, _⟩ := hI
        subst hact
        have HK := Lib.hid hK
        clear hK
        have kc0 : w'.cell? ⟨w.heap.size, 0, none⟩ = some (.int .i64 a) := hX.cell (by first | (simp; done) | (simp; omega)) (by first | assumption | (go_simp; done) | (simp; done))
        have kc1 : w'.cell? ⟨w.heap.size, 1, none⟩ = some (.int .i64 b) := hX.cell (by first | (simp; done) | (simp; omega)) (by first | assumption | (go_simp; done) | (simp; done))
        clear hdep
        refine StepG.mk rfl ?_; rw [ha0]; simp only [putL, Act.put, List.setIfInBounds_toArray, List.set_cons_zero, List.set_cons_succ]
        go_wp2_with fail
        refine HK.out _ _ ?_
        refine ⟨(.agg #[.int .i64 a, .int .i64 b]), v10, v11, v12, v13, v14, (by rw [ha0]; simp only [putL, Act.put, List.setIfInBounds_toArray, List.set_cons_zero, List.set_cons_succ]), ?_, ?_, trivial⟩
        · obtain ⟨h9, h10, h11, h12, h13, h14, _⟩ := hR.out
          exact Lib.hid ⟨fun _ => rfl, fun h => h10 (by simpa using h), fun h => h11 (by simpa using h), fun h => h12 (by simpa using h), fun h => h13 (by simpa using h), fun h => h14 (by simpa using h), trivial⟩
        · exact hX
      case x1hs1 =>
        intro s a' w' hsk hdep hI K hK
        try dsimp only at hI hK
        obtain ⟨v9, v10, v11, v12, v13, v14, hact, hR, hX, _⟩ := hI
        subst hact
        have HK := Lib.hid hK
        clear hK
        have kc0 : w'.cell? ⟨w.heap.size, 0, none⟩ = some (.int .i64 a) := hX.cell (by first | (simp; done) | (simp; omega)) (by first | assumption | (go_simp; done) | (simp; done))
        have kc1 : w'.cell? ⟨w.heap.size, 1, none⟩ = some (.int .i64 b) := hX.cell (by first | (simp; done) | (simp; omega)) (by first | assumption | (go_simp; done) | (simp; done))
        clear hdep
        refine StepG.mk rfl ?_; rw [ha0]; simp only [putL, Act.put, List.setIfInBounds_toArray, List.set_cons_zero, List.set_cons_succ]
        go_wp2_with fail
        refine HK.out _ _ ?_
        refine ⟨v9, (.int .i64 h), v11, v12, v13, v14, (by rw [ha0]; simp only [putL, Act.put, List.setIfInBounds_toArray, List.set_cons_zero, List.set_cons_succ]), ?_, ?_, trivial⟩
        · obtain ⟨h9, h10, h11, h12, h13, h14, _⟩ := hR.out
          exact Lib.hid ⟨fun h => h9 (by simpa using h), fun _ => rfl, fun h => h11 (by simpa using h), fun h => h12 (by simpa using h), fun h => h13 (by simpa using h), fun h => h14 (by simpa using h), trivial⟩
        · exact hX
      case x1hs2 =>
        intro s a' w' hsk hdep hI K hK
        try dsimp only at hI hK
        obtain ⟨v9, v10, v11, v12, v13, v14, hact, hR, hX, _⟩ := hI
        subst hact
        have HK := Lib.hid hK
        clear hK
        have e10 : v10 = .int .i64 h := by obtain ⟨h9, h10, h11, h12, h13, h14, _⟩ := hR.out; exact h10 (hdep ⟨1, .data⟩ (by simp) rfl)
        subst e10
        have kc0 : w'.cell? ⟨w.heap.size, 0, none⟩ = some (.int .i64 a) := hX.cell (by first | (simp; done) | (simp; omega)) (by first | assumption | (go_simp; done) | (simp; done))
        have kc1 : w'.cell? ⟨w.heap.size, 1, none⟩ = some (.int .i64 b) := hX.cell (by first | (simp; done) | (simp; omega)) (by first | assumption | (go_simp; done) | (simp; done))
        clear hdep
        refine StepG.mk rfl ?_; rw [ha0]; simp only [putL, Act.put, List.setIfInBounds_toArray, List.set_cons_zero, List.set_cons_succ]
        go_wp2_with fail
        refine ((HR.out _)).mono ?_
        rintro e wn ⟨rfl, hb⟩
        go_wp2_with fail
        refine HK.out _ _ ?_
        refine ⟨v9, (.int .i64 h), (.agg #[.int .i64 x, .int .i64 y]), v12, v13, v14, (by rw [ha0]; simp only [putL, Act.put, List.setIfInBounds_toArray, List.set_cons_zero, List.set_cons_succ]), ?_, ?_, trivial⟩
        · obtain ⟨h9, h10, h11, h12, h13, h14, _⟩ := hR.out
          exact Lib.hid ⟨fun h => h9 (by simpa using h), fun _ => rfl, fun _ => rfl, fun h => h12 (by simpa using h), fun h => h13 (by simpa using h), fun h => h14 (by simpa using h), trivial⟩
        · exact hX.call hb
      case x1hs3 =>
        intro s a' w' hsk hdep hI K hK
        try dsimp only at hI hK
        obtain ⟨v9, v10, v11, v12, v13, v14, hact, hR, hX, _⟩ := hI
        subst hact
        have HK := Lib.hid hK
        clear hK
        have e9 : v9 = .agg #[.int .i64 a, .int .i64 b] := by obtain ⟨h9, h10, h11, h12, h13, h14, _⟩ := hR.out; exact h9 (hdep ⟨0, .data⟩ (by simp) rfl)
        subst e9
        have e11 : v11 = .agg #[.int .i64 x, .int .i64 y] := by obtain ⟨h9, h10, h11, h12, h13, h14, _⟩ := hR.out; exact h11 (hdep ⟨2, .data⟩ (by simp) rfl)
        subst e11
        have kc0 : w'.cell? ⟨w.heap.size, 0, none⟩ = some (.int .i64 a) := hX.cell (by first | (simp; done) | (simp; omega)) (by first | assumption | (go_simp; done) | (simp; done))
        have kc1 : w'.cell? ⟨w.heap.size, 1, none⟩ = some (.int .i64 b) := hX.cell (by first | (simp; done) | (simp; omega)) (by first | assumption | (go_simp; done) | (simp; done))
        clear hdep
        refine StepG.mk rfl ?_; rw [ha0]; simp only [putL, Act.put, List.setIfInBounds_toArray, List.set_cons_zero, List.set_cons_succ]
        go_wp2_with fail
        refine ((HM.out _)).mono ?_
        rintro e wn ⟨rfl, hb⟩
        go_wp2_with fail
        refine HK.out _ _ ?_
        refine ⟨(.agg #[.int .i64 a, .int .i64 b]), v10, (.agg #[.int .i64 x, .int .i64 y]), (.agg #[.int .i64 (a - x), .int .i64 (b - y)]), v13, v14, (by rw [ha0]; simp only [putL, Act.put, List.setIfInBounds_toArray, List.set_cons_zero, List.set_cons_succ]), ?_, ?_, trivial⟩
        · obtain ⟨h9, h10, h11, h12, h13, h14, _⟩ := hR.out
          exact Lib.hid ⟨fun _ => rfl, fun h => h10 (by simpa using h), fun _ => rfl, fun _ => rfl, fun h => h13 (by simpa using h), fun h => h14 (by simpa using h), trivial⟩
        · exact hX.call hb
      case x1hs4 =>
        intro s a' w' hsk hdep hI K hK
        try dsimp only at hI hK
        obtain ⟨v9, v10, v11, v12, v13, v14, hact, hR, hX, _⟩ := hI
        subst hact
        have HK := Lib.hid hK
        clear hK
        have e12 : v12 = .agg #[.int .i64 (a - x), .int .i64 (b - y)] := by obtain ⟨h9, h10, h11, h12, h13, h14, _⟩ := hR.out; exact h12 (hdep ⟨3, .data⟩ (by simp) rfl)
        subst e12
        have kc0 : w'.cell? ⟨w.heap.size, 0, none⟩ = some (.int .i64 a) := hX.cell (by first | (simp; done) | (simp; omega)) (by first | assumption | (go_simp; done) | (simp; done))
        have kc1 : w'.cell? ⟨w.heap.size, 1, none⟩ = some (.int .i64 b) := hX.cell (by first | (simp; done) | (simp; omega)) (by first | assumption | (go_simp; done) | (simp; done))
        clear hdep
        refine StepG.mk rfl ?_; rw [ha0]; simp only [putL, Act.put, List.setIfInBounds_toArray, List.set_cons_zero, List.set_cons_succ]
        go_wp2_with fail
        refine ((HS.out _)).mono ?_
        rintro e wn ⟨rfl, hb⟩
        go_wp2_with fail
        refine HK.out _ _ ?_
        refine ⟨v9, v10, v11, (.agg #[.int .i64 (a - x), .int .i64 (b - y)]), (.int .i64 (-T)), v14, (by rw [ha0]; simp only [putL, Act.put, List.setIfInBounds_toArray, List.set_cons_zero, List.set_cons_succ]), ?_, ?_, trivial⟩
        · obtain ⟨h9, h10, h11, h12, h13, h14, _⟩ := hR.out
          exact Lib.hid ⟨fun h => h9 (by simpa using h), fun h => h10 (by simpa using h), fun h => h11 (by simpa using h), fun _ => rfl, fun _ => rfl, fun h => h14 (by simpa using h), trivial⟩
        · exact hX.call hb
      case x1hs5 =>
        intro s a' w' hsk hdep hI K hK
        try dsimp only at hI hK
        obtain ⟨v9, v10, v11, v12, v13, v14, hact, hR, hX, _⟩ := hI
        subst hact
        have HK := Lib.hid hK
        clear hK
        have e13 : v13 = .int .i64 (-T) := by obtain ⟨h9, h10, h11, h12, h13, h14, _⟩ := hR.out; exact h13 (hdep ⟨4, .data⟩ (by simp) rfl)
        subst e13
        have kc0 : w'.cell? ⟨w.heap.size, 0, none⟩ = some (.int .i64 a) := hX.cell (by first | (simp; done) | (simp; omega)) (by first | assumption | (go_simp; done) | (simp; done))
        have kc1 : w'.cell? ⟨w.heap.size, 1, none⟩ = some (.int .i64 b) := hX.cell (by first | (simp; done) | (simp; omega)) (by first | assumption | (go_simp; done) | (simp; done))
        clear hdep
        refine StepG.mk rfl ?_; rw [ha0]; simp only [putL, Act.put, List.setIfInBounds_toArray, List.set_cons_zero, List.set_cons_succ]
        go_wp2_with fail
        refine HK.out _ _ ?_
        refine ⟨v9, v10, v11, v12, (.int .i64 (-T)), (.bool (decide (T < 0))), (by rw [ha0]; simp only [putL, Act.put, List.setIfInBounds_toArray, List.set_cons_zero, List.set_cons_succ]), ?_, ?_, trivial⟩
        · obtain ⟨h9, h10, h11, h12, h13, h14, _⟩ := hR.out
          exact Lib.hid ⟨fun h => h9 (by simpa using h), fun h => h10 (by simpa using h), fun h => h11 (by simpa using h), fun h => h12 (by simpa using h), fun _ => rfl, fun _ => rfl, trivial⟩
        · exact hX
      intro s a' w8 hall hI
      try dsimp only at hI
      obtain ⟨v9, v10, v11, v12, v13, v14, hact, hR, hXR, _⟩ := hI
      subst hact
      obtain ⟨h9, h10, h11, h12, h13, h14, _⟩ := hR.out
      clear hR
      have e9 := h9 (hall 0 (by decide))
      subst e9
      clear h9
      have e10 := h10 (hall 1 (by decide))
      subst e10
      clear h10
      have e11 := h11 (hall 2 (by decide))
      subst e11
      clear h11
      have e12 := h12 (hall 3 (by decide))
      subst e12
      clear h12
      have e13 := h13 (hall 4 (by decide))
      subst e13
      clear h13
      have e14 := h14 (hall 5 (by decide))
      subst e14
      clear h14
      clear hall
      rw [ha0]; simp only [putL, Act.put, List.setIfInBounds_toArray, List.set_cons_zero, List.set_cons_succ]
      clear ha0
      have B8 : Below w.heap.size w w8 := hXR.below (by first | assumption | exact (by repeat (first | exact Below.refl _ _ | exact Nat.le_refl _ | refine Below.alloc ?_ ?_ _ | refine Below.setCell ?_ ?_ _ | refine Below.drew ?_ | refine bl_drewN ?_ _ | (assumption) | refine bl_call ?_ (by assumption) ?_ | omega | (simp <;> omega)))) (by first | omega | (simp <;> omega)) (by simp <;> omega)
      have cew_heap_size8_0 : w8.cell? ⟨w.heap.size, 0, none⟩ = some (.int .i64 a) := hXR.cell (by first | (simp; done) | (simp; omega)) (by first | assumption | (go_simp; done) | (simp; done))
      have cew_heap_size8_1 : w8.cell? ⟨w.heap.size, 1, none⟩ = some (.int .i64 b) := hXR.cell (by first | (simp; done) | (simp; omega)) (by first | assumption | (go_simp; done) | (simp; done))
      have zew_heap_size8 : w.heap.size < w8.heap.size := block_lt_of_cell cew_heap_size8_0
      have hsz_8 := B8.size
      clear hXR
      by_cases hc : T < 0
      · have hcd : decide (T < 0) = true := by simpa using hc
        have hlt : h ≠ 2097152 := fun e => by
          have := HTOP2.out e
          rw [HP.out] at this
          dsimp only at this
          rw [HT.out] at this
          omega
        have hj20 : j ≤ 20 := by omega
        have h2m : h ≤ 1048576 := by
          rw [← HH.out]
          exact two_20 ⟨j, by omega⟩
        go_wp2_with fail
        go_roundw
        case rel => exact ⟨j + 1, congrArg (Value.int .i64) HJ3.out, by omega, by assumption, by assumption, B8⟩
        case measure => simp [intOf]; omega
      · have hcd : decide (T < 0) = false := by simpa using hc
        have hge : 0 ≤ GM.sgn ((GM.gr 34 h).1 - a) ((GM.gr 34 h).2 - b) := by rw [HP.out]; dsimp only; rw [HT.out]; omega
        have HGE := Lib.hid hge
        clear hge HR HM HS HP HT
        go_upto_region 6 with fail
        go_loopw [3, 4] (fun x y wr => ∃ l h : Int, x = .int .i64 l ∧ y = .int .i64 h ∧ (0 ≤ l ∧ l < h ∧ h ≤ 4000000) ∧ Hid (GM.sgn ((GM.gr 34 l).1 - a) ((GM.gr 34 l).2 - b) < 0) ∧ Hid (0 ≤ GM.sgn ((GM.gr 34 h).1 - a) ((GM.gr 34 h).2 - b)) ∧ wr.cell? ⟨w.heap.size, 0, none⟩ = some (.int .i64 a) ∧ wr.cell? ⟨w.heap.size, 1, none⟩ = some (.int .i64 b) ∧ Below w.heap.size w wr) (fun x y _ => (intOf y - intOf x).toNat)
        case atStart => exact ⟨0, h, rfl, rfl, by omega, Lib.hid (by rw [HZ.out]; omega), HGE, by assumption, by assumption, B8⟩
        case round =>
          clear HGE HH HJ3 HTOP2 hj2 hpw hj d0 d1 B hws
          obtain ⟨l, h, rfl, rfl, ⟨l0, lh, hm⟩, HL, HH, d0, d1, B⟩ := hrel
          have hws : w.heap.size < wr.heap.size := block_lt_of_cell d0
          by_cases hlt : l + 1 < h
          · obtain ⟨m1, m2⟩ := tdiv_mid l h hlt
            obtain ⟨m, hmm⟩ : ∃ m, (l + h).tdiv 2 = m := ⟨_, rfl⟩
            have hq : (l + h) / 2 = m := by rw [← hmm, Int.tdiv_eq_ediv_of_nonneg (by omega)]
            rw [hmm] at m1 m2
            have hg := gr_bd (m) (by omega) (by omega)
            have hR := fun wx => refRung (m) wx (by omega) (by omega)
            obtain ⟨⟨x, y⟩, hp⟩ : ∃ p, GM.gr 34 (m) = p := ⟨_, rfl⟩
            rw [hp] at hR hg
            dsimp only at hR hg
            have hM := fun wx => refMinus a b x y wx (by omega) (by omega) (by omega) (by omega)
            have hS := fun wx => refSign (a - x) (b - y) wx (by omega) (by omega) (by omega) (by omega)
            rw [sgn_swap] at hS
            obtain ⟨T, hT⟩ : ∃ T, GM.sgn (x - a) (y - b) = T := ⟨_, rfl⟩
            rw [hT] at hS
            have HP := Lib.hid hp
            have HT := Lib.hid hT
            have HR := Lib.hid hR
            have HM := Lib.hid hM
            have HS := Lib.hid hS
            clear hp hT hR hM hS hg
            go_upto_region 8 with fail
            refine with_act fun a0 ha0 => ?_
            refine wp_region_inv (by kernel_rfl) (by kernel_rfl) (fun s a' w' => ∃ v25 v26 v27 v28 v29 v30 : Value, a' = putL a0 [(25, v25), (26, v26), (27, v27), (28, v28), (29, v29), (30, v30)] ∧ Hid ((s 0 = true → v25 = .agg #[.int .i64 a, .int .i64 b]) ∧ (s 1 = true → v26 = .int .i64 m) ∧ (s 2 = true → v27 = .agg #[.int .i64 x, .int .i64 y]) ∧ (s 3 = true → v28 = .agg #[.int .i64 (a - x), .int .i64 (b - y)]) ∧ (s 4 = true → v29 = .int .i64 (-T)) ∧ (s 5 = true → v30 = .bool (decide (T < 0))) ∧ True) ∧ BelX [] wr w' ∧ True) ?x2hzero ⟨?x2hs0, ?x2hs1, ?x2hs2, ?x2hs3, ?x2hs4, ?x2hs5, trivial⟩ ?x2hdone
            case x2hzero =>
              refine ⟨a0.tmps.getD 25 undef, a0.tmps.getD 26 undef, a0.tmps.getD 27 undef, a0.tmps.getD 28 undef, a0.tmps.getD 29 undef, a0.tmps.getD 30 undef, ?_, ?_, ?_, trivial⟩
              · simp only [putL, put_self]
              · exact Lib.hid ⟨fun h => (by simp at h), fun h => (by simp at h), fun h => (by simp at h), fun h => (by simp at h), fun h => (by simp at h), fun h => (by simp at h), trivial⟩
              · exact BelX.start _ _
            case x2hs0 =>
              intro s a' w' hsk hdep hI K hK
              try dsimp only at hI hK
              obtain ⟨v25, v26, v27, v28, v29, v30, hact, hR, hX, _⟩ := hI
              subst hact
              have HK := Lib.hid hK
              clear hK
              have kc0 : w'.cell? ⟨w.heap.size, 0, none⟩ = some (.int .i64 a) := hX.cell (by first | (simp; done) | (simp; omega)) (by first | assumption | (go_simp; done) | (simp; done))
              have kc1 : w'.cell? ⟨w.heap.size, 1, none⟩ = some (.int .i64 b) := hX.cell (by first | (simp; done) | (simp; omega)) (by first | assumption | (go_simp; done) | (simp; done))
              clear hdep
              refine StepG.mk rfl ?_; rw [ha0]; simp only [putL, Act.put, List.setIfInBounds_toArray, List.set_cons_zero, List.set_cons_succ]
              go_wp2_with fail
              refine HK.out _ _ ?_
              refine ⟨(.agg #[.int .i64 a, .int .i64 b]), v26, v27, v28, v29, v30, (by rw [ha0]; simp only [putL, Act.put, List.setIfInBounds_toArray, List.set_cons_zero, List.set_cons_succ]), ?_, ?_, trivial⟩
              · obtain ⟨h25, h26, h27, h28, h29, h30, _⟩ := hR.out
                exact Lib.hid ⟨fun _ => rfl, fun h => h26 (by simpa using h), fun h => h27 (by simpa using h), fun h => h28 (by simpa using h), fun h => h29 (by simpa using h), fun h => h30 (by simpa using h), trivial⟩
              · exact hX
            case x2hs1 =>
              intro s a' w' hsk hdep hI K hK
              try dsimp only at hI hK
              obtain ⟨v25, v26, v27, v28, v29, v30, hact, hR, hX, _⟩ := hI
              subst hact
              have HK := Lib.hid hK
              clear hK
              have kc0 : w'.cell? ⟨w.heap.size, 0, none⟩ = some (.int .i64 a) := hX.cell (by first | (simp; done) | (simp; omega)) (by first | assumption | (go_simp; done) | (simp; done))
              have kc1 : w'.cell? ⟨w.heap.size, 1, none⟩ = some (.int .i64 b) := hX.cell (by first | (simp; done) | (simp; omega)) (by first | assumption | (go_simp; done) | (simp; done))
              clear hdep
              refine StepG.mk rfl ?_; rw [ha0]; simp only [putL, Act.put, List.setIfInBounds_toArray, List.set_cons_zero, List.set_cons_succ]
              go_wp2_with fail
              refine HK.out _ _ ?_
              refine ⟨v25, (.int .i64 m), v27, v28, v29, v30, (by rw [ha0]; simp only [putL, Act.put, List.setIfInBounds_toArray, List.set_cons_zero, List.set_cons_succ]), ?_, ?_, trivial⟩
              · obtain ⟨h25, h26, h27, h28, h29, h30, _⟩ := hR.out
                exact Lib.hid ⟨fun h => h25 (by simpa using h), fun _ => rfl, fun h => h27 (by simpa using h), fun h => h28 (by simpa using h), fun h => h29 (by simpa using h), fun h => h30 (by simpa using h), trivial⟩
              · exact hX
            case x2hs2 =>
              intro s a' w' hsk hdep hI K hK
              try dsimp only at hI hK
              obtain ⟨v25, v26, v27, v28, v29, v30, hact, hR, hX, _⟩ := hI
              subst hact
              have HK := Lib.hid hK
              clear hK
              have e26 : v26 = .int .i64 m := by obtain ⟨h25, h26, h27, h28, h29, h30, _⟩ := hR.out; exact h26 (hdep ⟨1, .data⟩ (by simp) rfl)
              subst e26
              have kc0 : w'.cell? ⟨w.heap.size, 0, none⟩ = some (.int .i64 a) := hX.cell (by first | (simp; done) | (simp; omega)) (by first | assumption | (go_simp; done) | (simp; done))
              have kc1 : w'.cell? ⟨w.heap.size, 1, none⟩ = some (.int .i64 b) := hX.cell (by first | (simp; done) | (simp; omega)) (by first | assumption | (go_simp; done) | (simp; done))
              clear hdep
              refine StepG.mk rfl ?_; rw [ha0]; simp only [putL, Act.put, List.setIfInBounds_toArray, List.set_cons_zero, List.set_cons_succ]
              go_wp2_with fail
              refine ((HR.out _)).mono ?_
              rintro e wn ⟨rfl, hb⟩
              go_wp2_with fail
              refine HK.out _ _ ?_
              refine ⟨v25, (.int .i64 m), (.agg #[.int .i64 x, .int .i64 y]), v28, v29, v30, (by rw [ha0]; simp only [putL, Act.put, List.setIfInBounds_toArray, List.set_cons_zero, List.set_cons_succ]), ?_, ?_, trivial⟩
              · obtain ⟨h25, h26, h27, h28, h29, h30, _⟩ := hR.out
                exact Lib.hid ⟨fun h => h25 (by simpa using h), fun _ => rfl, fun _ => rfl, fun h => h28 (by simpa using h), fun h => h29 (by simpa using h), fun h => h30 (by simpa using h), trivial⟩
              · exact hX.call hb
            case x2hs3 =>
              intro s a' w' hsk hdep hI K hK
              try dsimp only at hI hK
              obtain ⟨v25, v26, v27, v28, v29, v30, hact, hR, hX, _⟩ := hI
              subst hact
              have HK := Lib.hid hK
              clear hK
              have e25 : v25 = .agg #[.int .i64 a, .int .i64 b] := by obtain ⟨h25, h26, h27, h28, h29, h30, _⟩ := hR.out; exact h25 (hdep ⟨0, .data⟩ (by simp) rfl)
              subst e25
              have e27 : v27 = .agg #[.int .i64 x, .int .i64 y] := by obtain ⟨h25, h26, h27, h28, h29, h30, _⟩ := hR.out; exact h27 (hdep ⟨2, .data⟩ (by simp) rfl)
              subst e27
              have kc0 : w'.cell? ⟨w.heap.size, 0, none⟩ = some (.int .i64 a) := hX.cell (by first | (simp; done) | (simp; omega)) (by first | assumption | (go_simp; done) | (simp; done))
              have kc1 : w'.cell? ⟨w.heap.size, 1, none⟩ = some (.int .i64 b) := hX.cell (by first | (simp; done) | (simp; omega)) (by first | assumption | (go_simp; done) | (simp; done))
              clear hdep
              refine StepG.mk rfl ?_; rw [ha0]; simp only [putL, Act.put, List.setIfInBounds_toArray, List.set_cons_zero, List.set_cons_succ]
              go_wp2_with fail
              refine ((HM.out _)).mono ?_
              rintro e wn ⟨rfl, hb⟩
              go_wp2_with fail
              refine HK.out _ _ ?_
              refine ⟨(.agg #[.int .i64 a, .int .i64 b]), v26, (.agg #[.int .i64 x, .int .i64 y]), (.agg #[.int .i64 (a - x), .int .i64 (b - y)]), v29, v30, (by rw [ha0]; simp only [putL, Act.put, List.setIfInBounds_toArray, List.set_cons_zero, List.set_cons_succ]), ?_, ?_, trivial⟩
              · obtain ⟨h25, h26, h27, h28, h29, h30, _⟩ := hR.out
                exact Lib.hid ⟨fun _ => rfl, fun h => h26 (by simpa using h), fun _ => rfl, fun _ => rfl, fun h => h29 (by simpa using h), fun h => h30 (by simpa using h), trivial⟩
              · exact hX.call hb
            case x2hs4 =>
              intro s a' w' hsk hdep hI K hK
              try dsimp only at hI hK
              obtain ⟨v25, v26, v27, v28, v29, v30, hact, hR, hX, _⟩ := hI
              subst hact
              have HK := Lib.hid hK
              clear hK
              have e28 : v28 = .agg #[.int .i64 (a - x), .int .i64 (b - y)] := by obtain ⟨h25, h26, h27, h28, h29, h30, _⟩ := hR.out; exact h28 (hdep ⟨3, .data⟩ (by simp) rfl)
              subst e28
              have kc0 : w'.cell? ⟨w.heap.size, 0, none⟩ = some (.int .i64 a) := hX.cell (by first | (simp; done) | (simp; omega)) (by first | assumption | (go_simp; done) | (simp; done))
              have kc1 : w'.cell? ⟨w.heap.size, 1, none⟩ = some (.int .i64 b) := hX.cell (by first | (simp; done) | (simp; omega)) (by first | assumption | (go_simp; done) | (simp; done))
              clear hdep
              refine StepG.mk rfl ?_; rw [ha0]; simp only [putL, Act.put, List.setIfInBounds_toArray, List.set_cons_zero, List.set_cons_succ]
              go_wp2_with fail
              refine ((HS.out _)).mono ?_
              rintro e wn ⟨rfl, hb⟩
              go_wp2_with fail
              refine HK.out _ _ ?_
              refine ⟨v25, v26, v27, (.agg #[.int .i64 (a - x), .int .i64 (b - y)]), (.int .i64 (-T)), v30, (by rw [ha0]; simp only [putL, Act.put, List.setIfInBounds_toArray, List.set_cons_zero, List.set_cons_succ]), ?_, ?_, trivial⟩
              · obtain ⟨h25, h26, h27, h28, h29, h30, _⟩ := hR.out
                exact Lib.hid ⟨fun h => h25 (by simpa using h), fun h => h26 (by simpa using h), fun h => h27 (by simpa using h), fun _ => rfl, fun _ => rfl, fun h => h30 (by simpa using h), trivial⟩
              · exact hX.call hb
            case x2hs5 =>
              intro s a' w' hsk hdep hI K hK
              try dsimp only at hI hK
              obtain ⟨v25, v26, v27, v28, v29, v30, hact, hR, hX, _⟩ := hI
              subst hact
              have HK := Lib.hid hK
              clear hK
              have e29 : v29 = .int .i64 (-T) := by obtain ⟨h25, h26, h27, h28, h29, h30, _⟩ := hR.out; exact h29 (hdep ⟨4, .data⟩ (by simp) rfl)
              subst e29
              have kc0 : w'.cell? ⟨w.heap.size, 0, none⟩ = some (.int .i64 a) := hX.cell (by first | (simp; done) | (simp; omega)) (by first | assumption | (go_simp; done) | (simp; done))
              have kc1 : w'.cell? ⟨w.heap.size, 1, none⟩ = some (.int .i64 b) := hX.cell (by first | (simp; done) | (simp; omega)) (by first | assumption | (go_simp; done) | (simp; done))
              clear hdep
              refine StepG.mk rfl ?_; rw [ha0]; simp only [putL, Act.put, List.setIfInBounds_toArray, List.set_cons_zero, List.set_cons_succ]
              go_wp2_with fail
              refine HK.out _ _ ?_
              refine ⟨v25, v26, v27, v28, (.int .i64 (-T)), (.bool (decide (T < 0))), (by rw [ha0]; simp only [putL, Act.put, List.setIfInBounds_toArray, List.set_cons_zero, List.set_cons_succ]), ?_, ?_, trivial⟩
              · obtain ⟨h25, h26, h27, h28, h29, h30, _⟩ := hR.out
                exact Lib.hid ⟨fun h => h25 (by simpa using h), fun h => h26 (by simpa using h), fun h => h27 (by simpa using h), fun h => h28 (by simpa using h), fun _ => rfl, fun _ => rfl, trivial⟩
              · exact hX
            intro s a' w9 hall hI
            try dsimp only at hI
            obtain ⟨v25, v26, v27, v28, v29, v30, hact, hR, hXR, _⟩ := hI
            subst hact
            obtain ⟨h25, h26, h27, h28, h29, h30, _⟩ := hR.out
            clear hR
            have e25 := h25 (hall 0 (by decide))
            subst e25
            clear h25
            have e26 := h26 (hall 1 (by decide))
            subst e26
            clear h26
            have e27 := h27 (hall 2 (by decide))
            subst e27
            clear h27
            have e28 := h28 (hall 3 (by decide))
            subst e28
            clear h28
            have e29 := h29 (hall 4 (by decide))
            subst e29
            clear h29
            have e30 := h30 (hall 5 (by decide))
            subst e30
            clear h30
            clear hall
            rw [ha0]; simp only [putL, Act.put, List.setIfInBounds_toArray, List.set_cons_zero, List.set_cons_succ]
            clear ha0
            have B9 : Below w.heap.size w w9 := hXR.below (by first | assumption | exact (by repeat (first | exact Below.refl _ _ | exact Nat.le_refl _ | refine Below.alloc ?_ ?_ _ | refine Below.setCell ?_ ?_ _ | refine Below.drew ?_ | refine bl_drewN ?_ _ | (assumption) | refine bl_call ?_ (by assumption) ?_ | omega | (simp <;> omega)))) (by first | omega | (simp <;> omega)) (by simp <;> omega)
            have cew_heap_size9_0 : w9.cell? ⟨w.heap.size, 0, none⟩ = some (.int .i64 a) := hXR.cell (by first | (simp; done) | (simp; omega)) (by first | assumption | (go_simp; done) | (simp; done))
            have cew_heap_size9_1 : w9.cell? ⟨w.heap.size, 1, none⟩ = some (.int .i64 b) := hXR.cell (by first | (simp; done) | (simp; omega)) (by first | assumption | (go_simp; done) | (simp; done))
            have zew_heap_size9 : w.heap.size < w9.heap.size := block_lt_of_cell cew_heap_size9_0
            have hsz_9 := B9.size
            clear hXR
            by_cases hc : T < 0
            · have hcd : decide (T < 0) = true := by simpa using hc
              go_wp2_with fail
              go_roundw
              case rel => exact ⟨m, h, rfl, rfl, by omega, Lib.hid (by rw [HP.out]; dsimp only; rw [HT.out]; exact hc), HH, by assumption, by assumption, B9⟩
              case measure => simp [intOf]; omega
            · have hcd : decide (T < 0) = false := by simpa using hc
              go_wp2_with fail
              go_roundw
              case rel => exact ⟨l, m, rfl, rfl, by omega, HL, Lib.hid (by rw [HP.out]; dsimp only; rw [HT.out]; omega), by assumption, by assumption, B9⟩
              case measure => simp [intOf]; omega
          · obtain rfl : h = l + 1 := by omega
            go_wp2_with fail
            go_ret
            exact ⟨_, rfl, ⟨.inr (by rw [Int.add_sub_cancel]; exact HL.out), HH.out⟩, by omega, by omega, B⟩
end Go.Proofs.YtgocloilagcfoabDoor
