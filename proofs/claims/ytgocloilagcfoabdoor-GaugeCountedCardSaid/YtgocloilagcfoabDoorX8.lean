/- GaugeCounted: for every number and int the law returns true. -/
import Derived.Test.YtgocloilagcfoabDoorL1
import Derived.Test.YtgocloilagcfoabDoorL3
import Derived.Test.YtgocloilagcfoabDoorG12
import Derived.Test.YtgocloilagcfoabDoorG16
import Derived.Test.YtgocloilagcfoabDoorF1
namespace Go.Proofs.YtgocloilagcfoabDoor
open Go.RowKit
attribute [local go_sem ↓] Go.wp_at_zero Go.wp_at_succ

theorem sgn_neg_of_lin {a b : Int} (b1 : -1000000 ≤ b) (b2 : b ≤ 1000000) (h : 23416728348467685 * a + 37889062373143906 * b < 0) : GM.sgn a b < 0 := by
  rcases Int.lt_or_le (GM.sgn a b) 0 with h1 | h1
  · exact h1
  · have := GM.sgn_nonneg_lin h1 (by omega) (by omega)
    unfold GM.lin at this
    omega
theorem sgn_nonneg_of_lin {a b : Int} (b1 : -1000000 ≤ b) (b2 : b ≤ 1000000) (h : 0 ≤ 23416728348467685 * a + 37889062373143906 * b) : 0 ≤ GM.sgn a b := by
  rcases Int.lt_or_le (GM.sgn a b) 0 with h1 | h1
  · have := GM.sgn_neg_lin h1 (by omega) (by omega)
    unfold GM.lin at this
    omega
  · exact h1
theorem gr_100000 : 23416728348467685 * ((GM.gr 34 100000).1 - 20000) + 37889062373143906 * ((GM.gr 34 100000).2 - 20000) ≥ 0 ∧ (GM.gr 34 100000).2 ≤ 100000 := by decide +kernel
set_option maxRecDepth 100000 in
set_option maxHeartbeats 4000000 in
theorem GaugeCounted_walk (a b q0 : Int) (w : World) (ha : -9223372036854775808 ≤ a ∧ a ≤ 9223372036854775807) (hb : -9223372036854775808 ≤ b ∧ b ≤ 9223372036854775807) (hq : -9223372036854775808 ≤ q0 ∧ q0 ≤ 9223372036854775807) :
    Calls Tryd.prog 11 #[.agg #[.int .i64 a, .int .i64 b], .int .i64 q0] w fun e w' => e = .returned (.bool true) ∧ Below w.heap.size w w' := by
  have HPOS := Lib.hid (fun wx => positive_any a b 20000 wx (by omega) (by omega) ha.1 ha.2 hb.1 hb.2)
  have hM := fun wx => mod_any q0 1000 wx (by omega) (by omega) hq.1 hq.2
  have bM := modZ_bd q0 1000 (by decide)
  obtain ⟨M, eM⟩ : ∃ M, modZ q0 1000 = M := ⟨_, rfl⟩
  rw [eM] at hM bM
  have HM := Lib.hid hM
  clear hM eM ha hb hq
  have num : ∀ p q : Int, -1000000 ≤ p → p ≤ 1000000 → -1000000 ≤ q → q ≤ 1000000 → isN p q = true := fun p q h1 h2 h3 h4 => (isN_iff p q).2 ⟨h1, h2, h3, h4⟩
  have NUM := Lib.hid num
  clear num
  go_enter Tryd.func11, Tryd.ntmps11
  go_upto_region 1 with fail
  obtain ⟨w0, hw0⟩ : ∃ wx : World, wx = (w.alloc (.cells #[.int .i64 a, .int .i64 b] 23)) := ⟨_, rfl⟩
  rw [← hw0]
  have q0_0 : w0.heap[w.heap.size]? = some (.cells #[.int .i64 a, .int .i64 b] 23 (0, 0)) := by rw [hw0]; exact blk_new _ _
  have z0_0 : w.heap.size < w0.heap.size := by rw [hw0]; simp <;> omega
  have c0_0_0 : w0.cell? ⟨w.heap.size, 0, none⟩ = some (.int .i64 a) := by rw [hw0]; first | (go_simp; done) | simp
  have c0_0_1 : w0.cell? ⟨w.heap.size, 1, none⟩ = some (.int .i64 b) := by rw [hw0]; first | (go_simp; done) | simp
  have f0_0 : ∀ o, w0.frozen? ⟨w.heap.size, o, none⟩ = false := by intro o; rw [hw0]; first | (go_simp; done) | simp
  have B0 : Below w.heap.size w w0 := by rw [hw0]; exact (by repeat (first | exact Below.refl _ _ | exact Nat.le_refl _ | refine Below.alloc ?_ ?_ _ | refine Below.setCell ?_ ?_ _ | refine Below.drew ?_ | refine bl_drewN ?_ _ | (assumption) | refine bl_call ?_ (by assumption) ?_ | omega | (simp <;> omega)))
  clear hw0
  go_wp2_with fail
  refine (HPOS.out _).mono ?_
  rintro e w1 ⟨X, Y, rfl, ⟨x1, x2, y1, y2⟩, hpos, hb1⟩
  have R1 := blk_call hb1 q0_0
  have B1 := bl_call B0 hb1 (by omega)
  have z1 := blk_lt R1
  have c0 := row2_0 R1
  have c1 := row2_1 R1
  have f0 := row_f R1
  clear hb1 q0_0
  go_upto_region 2 with fail
  obtain ⟨w2, h2⟩ : ∃ wx : World, wx = (w1.setCell ⟨w.heap.size, 0, none⟩ (.int .i64 X)).setCell ⟨w.heap.size, 1, none⟩ (.int .i64 Y) := ⟨_, rfl⟩
  rw [← h2]
  have R2 : w2.heap[w.heap.size]? = some (.cells #[.int .i64 X, .int .i64 Y] 23 (0, 0)) := by rw [h2]; exact blk_set2 R1
  have B2 : Below w.heap.size w w2 := by rw [h2]; exact (by repeat (first | exact Below.refl _ _ | exact Nat.le_refl _ | refine Below.alloc ?_ ?_ _ | refine Below.setCell ?_ ?_ _ | refine Below.drew ?_ | refine bl_drewN ?_ _ | (assumption) | refine bl_call ?_ (by assumption) ?_ | omega | (simp <;> omega)))
  clear h2 R1 c0 c1 f0
  have z2 := blk_lt R2
  have d0 := row2_0 R2
  have d1 := row2_1 R2
  clear R2
  refine with_act fun a0 ha0 => ?_
  refine wp_region_inv (by kernel_rfl) (by kernel_rfl) (fun s a' w' => ∃ v20 v21 v22 v23 v24 v25 v26 v27 v5 : Value, a' = putL a0 [(20, v20), (21, v21), (22, v22), (23, v23), (24, v24), (25, v25), (26, v26), (27, v27), (5, v5)] ∧ Hid ((s 0 = true → v20 = .pointer (some ⟨w.heap.size, 0, none⟩)) ∧ (s 1 = true → v21 = .int .i64 X) ∧ (s 2 = true → v22 = .int .i64 q0) ∧ (s 3 = true → v23 = .int .i64 M) ∧ (s 4 = true → v24 = .int .i64 (X + M)) ∧ (s 5 = true → v25 = .pointer (some ⟨w.heap.size, 1, none⟩)) ∧ (s 6 = true → v26 = .int .i64 Y) ∧ (s 7 = true → v27 = .agg #[.int .i64 (X + M), .int .i64 Y]) ∧ True) ∧ BelX [] w2 w' ∧ (s 8 = true → ∃ (g : Nat) (c0 c1 : Value), v5 = .pointer (some ⟨g, 0, none⟩) ∧ w2.heap.size ≤ g ∧ w'.heap[g]? = some (.cells #[c0, c1] 23 (0, 0)) ∧ (s 9 = true → c0 = .int .i64 (X + M) ∧ c1 = .int .i64 Y)) ∧ (s 9 = true → s 8 = true) ∧ True) ?x1hzero ⟨?x1hs0, ?x1hs1, ?x1hs2, ?x1hs3, ?x1hs4, ?x1hs5, ?x1hs6, ?x1hs7, ?x1hs8, ?x1hs9, trivial⟩ ?x1hdone
  case x1hzero =>
    refine ⟨a0.tmps.getD 20 undef, a0.tmps.getD 21 undef, a0.tmps.getD 22 undef, a0.tmps.getD 23 undef, a0.tmps.getD 24 undef, a0.tmps.getD 25 undef, a0.tmps.getD 26 undef, a0.tmps.getD 27 undef, a0.tmps.getD 5 undef, ?_, ?_, ?_, ?_, ?_, trivial⟩
    · simp only [putL, put_self]
    · exact Lib.hid ⟨fun h => (by simp at h), fun h => (by simp at h), fun h => (by simp at h), fun h => (by simp at h), fun h => (by simp at h), fun h => (by simp at h), fun h => (by simp at h), fun h => (by simp at h), trivial⟩
    · exact BelX.start _ _
    · exact fun h => (by simp at h)
    · exact fun h => (by simp at h)
  case x1hs0 =>
    intro s a' w' hsk hdep hI K hK
    try dsimp only at hI hK
    obtain ⟨v20, v21, v22, v23, v24, v25, v26, v27, v5, hact, hR, hX, hA5, hN5, _⟩ := hI
    subst hact
    have HK := Lib.hid hK
    clear hK
    have kc0 : w'.cell? ⟨w.heap.size, 0, none⟩ = some (.int .i64 X) := hX.cell (by first | (simp; done) | (simp; omega)) (by first | assumption | (go_simp; done) | (simp; done))
    have kc1 : w'.cell? ⟨w.heap.size, 1, none⟩ = some (.int .i64 Y) := hX.cell (by first | (simp; done) | (simp; omega)) (by first | assumption | (go_simp; done) | (simp; done))
    clear hdep
    refine StepG.mk rfl ?_; rw [ha0]; simp only [putL, Act.put, List.setIfInBounds_toArray, List.set_cons_zero, List.set_cons_succ]
    go_wp2_with fail
    refine HK.out _ _ ?_
    refine ⟨(.pointer (some ⟨w.heap.size, 0, none⟩)), v21, v22, v23, v24, v25, v26, v27, v5, (by rw [ha0]; simp only [putL, Act.put, List.setIfInBounds_toArray, List.set_cons_zero, List.set_cons_succ]), ?_, ?_, ?_, ?_, trivial⟩
    · obtain ⟨h20, h21, h22, h23, h24, h25, h26, h27, _⟩ := hR.out
      exact Lib.hid ⟨fun _ => rfl, fun h => h21 (by simpa using h), fun h => h22 (by simpa using h), fun h => h23 (by simpa using h), fun h => h24 (by simpa using h), fun h => h25 (by simpa using h), fun h => h26 (by simpa using h), fun h => h27 (by simpa using h), trivial⟩
    · exact hX
    · intro h; obtain ⟨g, c0, c1, e, hg, hblk, hst⟩ := hA5 (by simpa using h); exact ⟨g, c0, c1, e, hg, hblk, fun h => hst (by simpa using h)⟩
    · exact fun h => (by have h1 := hN5 (by simpa using h); simp [h1])
  case x1hs1 =>
    intro s a' w' hsk hdep hI K hK
    try dsimp only at hI hK
    obtain ⟨v20, v21, v22, v23, v24, v25, v26, v27, v5, hact, hR, hX, hA5, hN5, _⟩ := hI
    subst hact
    have HK := Lib.hid hK
    clear hK
    have e20 : v20 = .pointer (some ⟨w.heap.size, 0, none⟩) := by obtain ⟨h20, h21, h22, h23, h24, h25, h26, h27, _⟩ := hR.out; exact h20 (hdep ⟨0, .data⟩ (by simp) rfl)
    subst e20
    have kc0 : w'.cell? ⟨w.heap.size, 0, none⟩ = some (.int .i64 X) := hX.cell (by first | (simp; done) | (simp; omega)) (by first | assumption | (go_simp; done) | (simp; done))
    have kc1 : w'.cell? ⟨w.heap.size, 1, none⟩ = some (.int .i64 Y) := hX.cell (by first | (simp; done) | (simp; omega)) (by first | assumption | (go_simp; done) | (simp; done))
    clear hdep
    refine StepG.mk rfl ?_; rw [ha0]; simp only [putL, Act.put, List.setIfInBounds_toArray, List.set_cons_zero, List.set_cons_succ]
    go_wp2_with fail
    refine HK.out _ _ ?_
    refine ⟨(.pointer (some ⟨w.heap.size, 0, none⟩)), (.int .i64 X), v22, v23, v24, v25, v26, v27, v5, (by rw [ha0]; simp only [putL, Act.put, List.setIfInBounds_toArray, List.set_cons_zero, List.set_cons_succ]), ?_, ?_, ?_, ?_, trivial⟩
    · obtain ⟨h20, h21, h22, h23, h24, h25, h26, h27, _⟩ := hR.out
      exact Lib.hid ⟨fun _ => rfl, fun _ => rfl, fun h => h22 (by simpa using h), fun h => h23 (by simpa using h), fun h => h24 (by simpa using h), fun h => h25 (by simpa using h), fun h => h26 (by simpa using h), fun h => h27 (by simpa using h), trivial⟩
    · exact hX
    · intro h; obtain ⟨g, c0, c1, e, hg, hblk, hst⟩ := hA5 (by simpa using h); exact ⟨g, c0, c1, e, hg, hblk, fun h => hst (by simpa using h)⟩
    · exact fun h => (by have h1 := hN5 (by simpa using h); simp [h1])
  case x1hs2 =>
    intro s a' w' hsk hdep hI K hK
    try dsimp only at hI hK
    obtain ⟨v20, v21, v22, v23, v24, v25, v26, v27, v5, hact, hR, hX, hA5, hN5, _⟩ := hI
    subst hact
    have HK := Lib.hid hK
    clear hK
    have kc0 : w'.cell? ⟨w.heap.size, 0, none⟩ = some (.int .i64 X) := hX.cell (by first | (simp; done) | (simp; omega)) (by first | assumption | (go_simp; done) | (simp; done))
    have kc1 : w'.cell? ⟨w.heap.size, 1, none⟩ = some (.int .i64 Y) := hX.cell (by first | (simp; done) | (simp; omega)) (by first | assumption | (go_simp; done) | (simp; done))
    clear hdep
    refine StepG.mk rfl ?_; rw [ha0]; simp only [putL, Act.put, List.setIfInBounds_toArray, List.set_cons_zero, List.set_cons_succ]
    go_wp2_with fail
    refine HK.out _ _ ?_
    refine ⟨v20, v21, (.int .i64 q0), v23, v24, v25, v26, v27, v5, (by rw [ha0]; simp only [putL, Act.put, List.setIfInBounds_toArray, List.set_cons_zero, List.set_cons_succ]), ?_, ?_, ?_, ?_, trivial⟩
    · obtain ⟨h20, h21, h22, h23, h24, h25, h26, h27, _⟩ := hR.out
      exact Lib.hid ⟨fun h => h20 (by simpa using h), fun h => h21 (by simpa using h), fun _ => rfl, fun h => h23 (by simpa using h), fun h => h24 (by simpa using h), fun h => h25 (by simpa using h), fun h => h26 (by simpa using h), fun h => h27 (by simpa using h), trivial⟩
    · exact hX
    · intro h; obtain ⟨g, c0, c1, e, hg, hblk, hst⟩ := hA5 (by simpa using h); exact ⟨g, c0, c1, e, hg, hblk, fun h => hst (by simpa using h)⟩
    · exact fun h => (by have h1 := hN5 (by simpa using h); simp [h1])
  case x1hs3 =>
    intro s a' w' hsk hdep hI K hK
    try dsimp only at hI hK
    obtain ⟨v20, v21, v22, v23, v24, v25, v26, v27, v5, hact, hR, hX, hA5, hN5, _⟩ := hI
    subst hact
    have HK := Lib.hid hK
    clear hK
    have e22 : v22 = .int .i64 q0 := by obtain ⟨h20, h21, h22, h23, h24, h25, h26, h27, _⟩ := hR.out; exact h22 (hdep ⟨2, .data⟩ (by simp) rfl)
    subst e22
    have kc0 : w'.cell? ⟨w.heap.size, 0, none⟩ = some (.int .i64 X) := hX.cell (by first | (simp; done) | (simp; omega)) (by first | assumption | (go_simp; done) | (simp; done))
    have kc1 : w'.cell? ⟨w.heap.size, 1, none⟩ = some (.int .i64 Y) := hX.cell (by first | (simp; done) | (simp; omega)) (by first | assumption | (go_simp; done) | (simp; done))
    clear hdep
    refine StepG.mk rfl ?_; rw [ha0]; simp only [putL, Act.put, List.setIfInBounds_toArray, List.set_cons_zero, List.set_cons_succ]
    go_wp2_with fail
    refine ((HM.out _)).mono ?_
    rintro e wn ⟨rfl, hb⟩
    go_wp2_with fail
    refine HK.out _ _ ?_
    refine ⟨v20, v21, (.int .i64 q0), (.int .i64 M), v24, v25, v26, v27, v5, (by rw [ha0]; simp only [putL, Act.put, List.setIfInBounds_toArray, List.set_cons_zero, List.set_cons_succ]), ?_, ?_, ?_, ?_, trivial⟩
    · obtain ⟨h20, h21, h22, h23, h24, h25, h26, h27, _⟩ := hR.out
      exact Lib.hid ⟨fun h => h20 (by simpa using h), fun h => h21 (by simpa using h), fun _ => rfl, fun _ => rfl, fun h => h24 (by simpa using h), fun h => h25 (by simpa using h), fun h => h26 (by simpa using h), fun h => h27 (by simpa using h), trivial⟩
    · exact hX.call hb
    · intro h; obtain ⟨g, c0, c1, e, hg, hblk, hst⟩ := hA5 (by simpa using h); exact ⟨g, c0, c1, e, hg, (hb.block g (blk_lt hblk)).trans hblk, fun h => hst (by simpa using h)⟩
    · exact fun h => (by have h1 := hN5 (by simpa using h); simp [h1])
  case x1hs4 =>
    intro s a' w' hsk hdep hI K hK
    try dsimp only at hI hK
    obtain ⟨v20, v21, v22, v23, v24, v25, v26, v27, v5, hact, hR, hX, hA5, hN5, _⟩ := hI
    subst hact
    have HK := Lib.hid hK
    clear hK
    have e21 : v21 = .int .i64 X := by obtain ⟨h20, h21, h22, h23, h24, h25, h26, h27, _⟩ := hR.out; exact h21 (hdep ⟨1, .data⟩ (by simp) rfl)
    subst e21
    have e23 : v23 = .int .i64 M := by obtain ⟨h20, h21, h22, h23, h24, h25, h26, h27, _⟩ := hR.out; exact h23 (hdep ⟨3, .data⟩ (by simp) rfl)
    subst e23
    have kc0 : w'.cell? ⟨w.heap.size, 0, none⟩ = some (.int .i64 X) := hX.cell (by first | (simp; done) | (simp; omega)) (by first | assumption | (go_simp; done) | (simp; done))
    have kc1 : w'.cell? ⟨w.heap.size, 1, none⟩ = some (.int .i64 Y) := hX.cell (by first | (simp; done) | (simp; omega)) (by first | assumption | (go_simp; done) | (simp; done))
    clear hdep
    refine StepG.mk rfl ?_; rw [ha0]; simp only [putL, Act.put, List.setIfInBounds_toArray, List.set_cons_zero, List.set_cons_succ]
    go_wp2_with fail
    refine HK.out _ _ ?_
    refine ⟨v20, (.int .i64 X), v22, (.int .i64 M), (.int .i64 (X + M)), v25, v26, v27, v5, (by rw [ha0]; simp only [putL, Act.put, List.setIfInBounds_toArray, List.set_cons_zero, List.set_cons_succ]), ?_, ?_, ?_, ?_, trivial⟩
    · obtain ⟨h20, h21, h22, h23, h24, h25, h26, h27, _⟩ := hR.out
      exact Lib.hid ⟨fun h => h20 (by simpa using h), fun _ => rfl, fun h => h22 (by simpa using h), fun _ => rfl, fun _ => rfl, fun h => h25 (by simpa using h), fun h => h26 (by simpa using h), fun h => h27 (by simpa using h), trivial⟩
    · exact hX
    · intro h; obtain ⟨g, c0, c1, e, hg, hblk, hst⟩ := hA5 (by simpa using h); exact ⟨g, c0, c1, e, hg, hblk, fun h => hst (by simpa using h)⟩
    · exact fun h => (by have h1 := hN5 (by simpa using h); simp [h1])
  case x1hs5 =>
    intro s a' w' hsk hdep hI K hK
    try dsimp only at hI hK
    obtain ⟨v20, v21, v22, v23, v24, v25, v26, v27, v5, hact, hR, hX, hA5, hN5, _⟩ := hI
    subst hact
    have HK := Lib.hid hK
    clear hK
    have kc0 : w'.cell? ⟨w.heap.size, 0, none⟩ = some (.int .i64 X) := hX.cell (by first | (simp; done) | (simp; omega)) (by first | assumption | (go_simp; done) | (simp; done))
    have kc1 : w'.cell? ⟨w.heap.size, 1, none⟩ = some (.int .i64 Y) := hX.cell (by first | (simp; done) | (simp; omega)) (by first | assumption | (go_simp; done) | (simp; done))
    clear hdep
    refine StepG.mk rfl ?_; rw [ha0]; simp only [putL, Act.put, List.setIfInBounds_toArray, List.set_cons_zero, List.set_cons_succ]
    go_wp2_with fail
    refine HK.out _ _ ?_
    refine ⟨v20, v21, v22, v23, v24, (.pointer (some ⟨w.heap.size, 1, none⟩)), v26, v27, v5, (by rw [ha0]; simp only [putL, Act.put, List.setIfInBounds_toArray, List.set_cons_zero, List.set_cons_succ]), ?_, ?_, ?_, ?_, trivial⟩
    · obtain ⟨h20, h21, h22, h23, h24, h25, h26, h27, _⟩ := hR.out
      exact Lib.hid ⟨fun h => h20 (by simpa using h), fun h => h21 (by simpa using h), fun h => h22 (by simpa using h), fun h => h23 (by simpa using h), fun h => h24 (by simpa using h), fun _ => rfl, fun h => h26 (by simpa using h), fun h => h27 (by simpa using h), trivial⟩
    · exact hX
    · intro h; obtain ⟨g, c0, c1, e, hg, hblk, hst⟩ := hA5 (by simpa using h); exact ⟨g, c0, c1, e, hg, hblk, fun h => hst (by simpa using h)⟩
    · exact fun h => (by have h1 := hN5 (by simpa using h); simp [h1])
  case x1hs6 =>
    intro s a' w' hsk hdep hI K hK
    try dsimp only at hI hK
    obtain ⟨v20, v21, v22, v23, v24, v25, v26, v27, v5, hact, hR, hX, hA5, hN5, _⟩ := hI
    subst hact
    have HK := Lib.hid hK
    clear hK
    have e25 : v25 = .pointer (some ⟨w.heap.size, 1, none⟩) := by obtain ⟨h20, h21, h22, h23, h24, h25, h26, h27, _⟩ := hR.out; exact h25 (hdep ⟨5, .data⟩ (by simp) rfl)
    subst e25
    have kc0 : w'.cell? ⟨w.heap.size, 0, none⟩ = some (.int .i64 X) := hX.cell (by first | (simp; done) | (simp; omega)) (by first | assumption | (go_simp; done) | (simp; done))
    have kc1 : w'.cell? ⟨w.heap.size, 1, none⟩ = some (.int .i64 Y) := hX.cell (by first | (simp; done) | (simp; omega)) (by first | assumption | (go_simp; done) | (simp; done))
    clear hdep
    refine StepG.mk rfl ?_; rw [ha0]; simp only [putL, Act.put, List.setIfInBounds_toArray, List.set_cons_zero, List.set_cons_succ]
    go_wp2_with fail
    refine HK.out _ _ ?_
    refine ⟨v20, v21, v22, v23, v24, (.pointer (some ⟨w.heap.size, 1, none⟩)), (.int .i64 Y), v27, v5, (by rw [ha0]; simp only [putL, Act.put, List.setIfInBounds_toArray, List.set_cons_zero, List.set_cons_succ]), ?_, ?_, ?_, ?_, trivial⟩
    · obtain ⟨h20, h21, h22, h23, h24, h25, h26, h27, _⟩ := hR.out
      exact Lib.hid ⟨fun h => h20 (by simpa using h), fun h => h21 (by simpa using h), fun h => h22 (by simpa using h), fun h => h23 (by simpa using h), fun h => h24 (by simpa using h), fun _ => rfl, fun _ => rfl, fun h => h27 (by simpa using h), trivial⟩
    · exact hX
    · intro h; obtain ⟨g, c0, c1, e, hg, hblk, hst⟩ := hA5 (by simpa using h); exact ⟨g, c0, c1, e, hg, hblk, fun h => hst (by simpa using h)⟩
    · exact fun h => (by have h1 := hN5 (by simpa using h); simp [h1])
  case x1hs7 =>
    intro s a' w' hsk hdep hI K hK
    try dsimp only at hI hK
    obtain ⟨v20, v21, v22, v23, v24, v25, v26, v27, v5, hact, hR, hX, hA5, hN5, _⟩ := hI
    subst hact
    have HK := Lib.hid hK
    clear hK
    have e24 : v24 = .int .i64 (X + M) := by obtain ⟨h20, h21, h22, h23, h24, h25, h26, h27, _⟩ := hR.out; exact h24 (hdep ⟨4, .data⟩ (by simp) rfl)
    subst e24
    have e26 : v26 = .int .i64 Y := by obtain ⟨h20, h21, h22, h23, h24, h25, h26, h27, _⟩ := hR.out; exact h26 (hdep ⟨6, .data⟩ (by simp) rfl)
    subst e26
    have kc0 : w'.cell? ⟨w.heap.size, 0, none⟩ = some (.int .i64 X) := hX.cell (by first | (simp; done) | (simp; omega)) (by first | assumption | (go_simp; done) | (simp; done))
    have kc1 : w'.cell? ⟨w.heap.size, 1, none⟩ = some (.int .i64 Y) := hX.cell (by first | (simp; done) | (simp; omega)) (by first | assumption | (go_simp; done) | (simp; done))
    clear hdep
    refine StepG.mk rfl ?_; rw [ha0]; simp only [putL, Act.put, List.setIfInBounds_toArray, List.set_cons_zero, List.set_cons_succ]
    go_wp2_with fail
    refine HK.out _ _ ?_
    refine ⟨v20, v21, v22, v23, (.int .i64 (X + M)), v25, (.int .i64 Y), (.agg #[.int .i64 (X + M), .int .i64 Y]), v5, (by rw [ha0]; simp only [putL, Act.put, List.setIfInBounds_toArray, List.set_cons_zero, List.set_cons_succ]), ?_, ?_, ?_, ?_, trivial⟩
    · obtain ⟨h20, h21, h22, h23, h24, h25, h26, h27, _⟩ := hR.out
      exact Lib.hid ⟨fun h => h20 (by simpa using h), fun h => h21 (by simpa using h), fun h => h22 (by simpa using h), fun h => h23 (by simpa using h), fun _ => rfl, fun h => h25 (by simpa using h), fun _ => rfl, fun _ => rfl, trivial⟩
    · exact hX
    · intro h; obtain ⟨g, c0, c1, e, hg, hblk, hst⟩ := hA5 (by simpa using h); exact ⟨g, c0, c1, e, hg, hblk, fun h => hst (by simpa using h)⟩
    · exact fun h => (by have h1 := hN5 (by simpa using h); simp [h1])
  case x1hs8 =>
    intro s a' w' hsk hdep hI K hK
    try dsimp only at hI hK
    obtain ⟨v20, v21, v22, v23, v24, v25, v26, v27, v5, hact, hR, hX, hA5, hN5, _⟩ := hI
    subst hact
    have HK := Lib.hid hK
    clear hK
    have kc0 : w'.cell? ⟨w.heap.size, 0, none⟩ = some (.int .i64 X) := hX.cell (by first | (simp; done) | (simp; omega)) (by first | assumption | (go_simp; done) | (simp; done))
    have kc1 : w'.cell? ⟨w.heap.size, 1, none⟩ = some (.int .i64 Y) := hX.cell (by first | (simp; done) | (simp; omega)) (by first | assumption | (go_simp; done) | (simp; done))
    clear hdep
    refine StepG.mk rfl ?_; rw [ha0]; simp only [putL, Act.put, List.setIfInBounds_toArray, List.set_cons_zero, List.set_cons_succ]
    go_wp2_with fail
    refine HK.out _ _ ?_
    refine ⟨v20, v21, v22, v23, v24, v25, v26, v27, (.pointer (some ⟨w'.heap.size, 0, none⟩)), (by rw [ha0]; simp only [putL, Act.put, List.setIfInBounds_toArray, List.set_cons_zero, List.set_cons_succ]), ?_, ?_, ?_, ?_, trivial⟩
    · obtain ⟨h20, h21, h22, h23, h24, h25, h26, h27, _⟩ := hR.out
      exact Lib.hid ⟨fun h => h20 (by simpa using h), fun h => h21 (by simpa using h), fun h => h22 (by simpa using h), fun h => h23 (by simpa using h), fun h => h24 (by simpa using h), fun h => h25 (by simpa using h), fun h => h26 (by simpa using h), fun h => h27 (by simpa using h), trivial⟩
    · exact hX.alloc _
    · exact fun _ => ⟨w'.heap.size, .int .i64 0, .int .i64 0, rfl, hX.size, blk_new w' _, fun h => (by have h1 := hN5 (by simpa using h); rw [h1] at hsk; cases hsk)⟩
    · exact fun _ => rfl
  case x1hs9 =>
    intro s a' w' hsk hdep hI K hK
    try dsimp only at hI hK
    obtain ⟨v20, v21, v22, v23, v24, v25, v26, v27, v5, hact, hR, hX, hA5, hN5, _⟩ := hI
    subst hact
    have HK := Lib.hid hK
    clear hK
    have e27 : v27 = .agg #[.int .i64 (X + M), .int .i64 Y] := by obtain ⟨h20, h21, h22, h23, h24, h25, h26, h27, _⟩ := hR.out; exact h27 (hdep ⟨7, .data⟩ (by simp) rfl)
    subst e27
    obtain ⟨g, c0, c1, ev, hg, hblk, hst⟩ := hA5 (hdep ⟨8, .data⟩ (by simp) rfl)
    subst ev
    have kc0 : w'.cell? ⟨w.heap.size, 0, none⟩ = some (.int .i64 X) := hX.cell (by first | (simp; done) | (simp; omega)) (by first | assumption | (go_simp; done) | (simp; done))
    have kc1 : w'.cell? ⟨w.heap.size, 1, none⟩ = some (.int .i64 Y) := hX.cell (by first | (simp; done) | (simp; omega)) (by first | assumption | (go_simp; done) | (simp; done))
    have kb0 : w'.cell? ⟨g, 0, none⟩ = some c0 := cell_of_row w' g 0 _ _ _ hblk
    have kb1 : w'.cell? ⟨g, 1, none⟩ = some c1 := cell_of_row w' g 1 _ _ _ hblk
    have kf : ∀ o, w'.frozen? ⟨g, o, none⟩ = false := fun o => frozen_of_row w' g o _ _ hblk
    have hBlk := Lib.hid hblk
    clear hblk
    have hdepA : s 8 = true := hdep ⟨8, .data⟩ (by simp) rfl
    clear hdep
    refine StepG.mk rfl ?_; rw [ha0]; simp only [putL, Act.put, List.setIfInBounds_toArray, List.set_cons_zero, List.set_cons_succ]
    go_wp2_with fail
    refine HK.out _ _ ?_
    refine ⟨v20, v21, v22, v23, v24, v25, v26, (.agg #[.int .i64 (X + M), .int .i64 Y]), (.pointer (some ⟨g, 0, none⟩)), (by rw [ha0]; simp only [putL, Act.put, List.setIfInBounds_toArray, List.set_cons_zero, List.set_cons_succ]), ?_, ?_, ?_, ?_, trivial⟩
    · obtain ⟨h20, h21, h22, h23, h24, h25, h26, h27, _⟩ := hR.out
      exact Lib.hid ⟨fun h => h20 (by simpa using h), fun h => h21 (by simpa using h), fun h => h22 (by simpa using h), fun h => h23 (by simpa using h), fun h => h24 (by simpa using h), fun h => h25 (by simpa using h), fun h => h26 (by simpa using h), fun _ => rfl, trivial⟩
    · exact ((hX.setNew (p := ⟨g, 0, none⟩) hg _).setNew (p := ⟨g, 1, none⟩) hg _)
    · exact fun _ => ⟨g, _, _, rfl, hg, blk_set2 hBlk.out, fun _ => ⟨rfl, rfl⟩⟩
    · exact fun _ => (by simp [hdepA])
  intro s a' w3 hall hI
  try dsimp only at hI
  obtain ⟨v20, v21, v22, v23, v24, v25, v26, v27, v5, hact, hR, hXR, hA5, hN5, _⟩ := hI
  subst hact
  obtain ⟨h20, h21, h22, h23, h24, h25, h26, h27, _⟩ := hR.out
  clear hR
  have e20 := h20 (hall 0 (by decide))
  subst e20
  clear h20
  have e21 := h21 (hall 1 (by decide))
  subst e21
  clear h21
  have e22 := h22 (hall 2 (by decide))
  subst e22
  clear h22
  have e23 := h23 (hall 3 (by decide))
  subst e23
  clear h23
  have e24 := h24 (hall 4 (by decide))
  subst e24
  clear h24
  have e25 := h25 (hall 5 (by decide))
  subst e25
  clear h25
  have e26 := h26 (hall 6 (by decide))
  subst e26
  clear h26
  have e27 := h27 (hall 7 (by decide))
  subst e27
  clear h27
  obtain ⟨g5, c0, c1, ev, hg5, hblk5, hst⟩ := hA5 (hall 8 (by decide))
  subst ev
  clear hA5 hN5
  obtain ⟨es0, es1⟩ := hst (hall 9 (by decide))
  subst es0
  subst es1
  clear hst
  clear hall
  rw [ha0]; simp only [putL, Act.put, List.setIfInBounds_toArray, List.set_cons_zero, List.set_cons_succ]
  clear ha0
  have B3 : Below w.heap.size w w3 := hXR.below (by first | assumption | exact (by repeat (first | exact Below.refl _ _ | exact Nat.le_refl _ | refine Below.alloc ?_ ?_ _ | refine Below.setCell ?_ ?_ _ | refine Below.drew ?_ | refine bl_drewN ?_ _ | (assumption) | refine bl_call ?_ (by assumption) ?_ | omega | (simp <;> omega)))) (by first | omega | (simp <;> omega)) (by simp <;> omega)
  have cew_heap_size3_0 : w3.cell? ⟨w.heap.size, 0, none⟩ = some (.int .i64 X) := hXR.cell (by first | (simp; done) | (simp; omega)) (by first | assumption | (go_simp; done) | (simp; done))
  have cew_heap_size3_1 : w3.cell? ⟨w.heap.size, 1, none⟩ = some (.int .i64 Y) := hXR.cell (by first | (simp; done) | (simp; omega)) (by first | assumption | (go_simp; done) | (simp; done))
  have zew_heap_size3 : w.heap.size < w3.heap.size := block_lt_of_cell cew_heap_size3_0
  have ceg53_0 := row2_0 hblk5
  have ceg53_1 := row2_1 hblk5
  have zeg53 := blk_lt hblk5
  have hsz_3 := B3.size
  clear hXR
  have hBx := Lib.hid (fun wx => Below_yes X Y wx (NUM.out _ _ (by omega) (by omega) (by omega) (by omega)) (Int.le_of_lt (sgn_neg_of_lin (by omega) (by omega) (by omega))))
  have hBy := Lib.hid (fun wx => Below_yes (X + M) Y wx (NUM.out _ _ (by omega) (by omega) (by omega) (by omega)) (Int.le_of_lt (sgn_neg_of_lin (by omega) (by omega) (by omega))))
  go_wp2_with fail
  refine (hBx.out _).mono ?_
  rintro e w4 ⟨n, rfl, hF, n0, n1, hb4⟩
  have z4_0 : w.heap.size < w4.heap.size := by have := hb4.size; (try simp at this); omega
  have cew_heap_size4_0 : w4.cell? ⟨w.heap.size, 0, none⟩ = some (.int .i64 X) := keep_cell hb4 (by first | assumption | (go_simp; done) | (simp; done) | simp [*])
  have zew_heap_size4 : w.heap.size < w4.heap.size := block_lt_of_cell cew_heap_size4_0
  have cew_heap_size4_1 : w4.cell? ⟨w.heap.size, 1, none⟩ = some (.int .i64 Y) := keep_cell hb4 (by first | assumption | (go_simp; done) | (simp; done) | simp [*])
  have ceg54_0 : w4.cell? ⟨g5, 0, none⟩ = some (.int .i64 ((X + M))) := keep_cell hb4 (by first | assumption | (go_simp; done) | (simp; done) | simp [*])
  have zeg54 : g5 < w4.heap.size := block_lt_of_cell ceg54_0
  have ceg54_1 : w4.cell? ⟨g5, 1, none⟩ = some (.int .i64 Y) := keep_cell hb4 (by first | assumption | (go_simp; done) | (simp; done) | simp [*])
  have B4 : Below w.heap.size w w4 := bl_call (by repeat (first | exact Below.refl _ _ | exact Nat.le_refl _ | refine Below.alloc ?_ ?_ _ | refine Below.setCell ?_ ?_ _ | refine Below.drew ?_ | refine bl_drewN ?_ _ | (assumption) | refine bl_call ?_ (by assumption) ?_ | omega | (simp <;> omega))) hb4 (by first | assumption | (simp; done) | (simp; omega) | omega)
  clear hb4
  have hsz_4 := B4.size
  go_wp2_with fail
  refine (hBy.out _).mono ?_
  rintro e w5 ⟨p, rfl, hG, p0, p1, hb5⟩
  have z5_0 : w.heap.size < w5.heap.size := by have := hb5.size; (try simp at this); omega
  have cew_heap_size5_0 : w5.cell? ⟨w.heap.size, 0, none⟩ = some (.int .i64 X) := keep_cell hb5 (by first | assumption | (go_simp; done) | (simp; done) | simp [*])
  have zew_heap_size5 : w.heap.size < w5.heap.size := block_lt_of_cell cew_heap_size5_0
  have cew_heap_size5_1 : w5.cell? ⟨w.heap.size, 1, none⟩ = some (.int .i64 Y) := keep_cell hb5 (by first | assumption | (go_simp; done) | (simp; done) | simp [*])
  have ceg55_0 : w5.cell? ⟨g5, 0, none⟩ = some (.int .i64 ((X + M))) := keep_cell hb5 (by first | assumption | (go_simp; done) | (simp; done) | simp [*])
  have zeg55 : g5 < w5.heap.size := block_lt_of_cell ceg55_0
  have ceg55_1 : w5.cell? ⟨g5, 1, none⟩ = some (.int .i64 Y) := keep_cell hb5 (by first | assumption | (go_simp; done) | (simp; done) | simp [*])
  have B5 : Below w.heap.size w w5 := bl_call (by repeat (first | exact Below.refl _ _ | exact Nat.le_refl _ | refine Below.alloc ?_ ?_ _ | refine Below.setCell ?_ ?_ _ | refine Below.drew ?_ | refine bl_drewN ?_ _ | (assumption) | refine bl_call ?_ (by assumption) ?_ | omega | (simp <;> omega))) hb5 (by first | assumption | (simp; done) | (simp; omega) | omega)
  clear hb5
  have hsz_5 := B5.size
  have hnp : n ≤ p := by
    rcases Int.lt_or_le p n with h | h
    · exfalso
      rcases hF.1 with h0 | h0
      · omega
      · have h3 : 0 ≤ GM.sgn ((GM.gr 34 p).1 - X) ((GM.gr 34 p).2 - Y) := GM.sgn_mono_a (by omega) hG.2
        have := below_lt (by omega) (by omega) h3 h0 p0 (by omega) p1 (by omega)
        omega
    · exact h
  have hn5 : n ≤ 100000 := by
    rcases hF.1 with h0 | h0
    · omega
    · by_cases hz0 : n = 0
      · omega
      obtain ⟨g1, g2⟩ := gr_100000
      have g3 := gr_bd 100000 (by decide) (by decide)
      have h3 : 0 ≤ GM.sgn ((GM.gr 34 100000).1 - X) ((GM.gr 34 100000).2 - Y) := sgn_nonneg_of_lin (by omega) (by omega) (by omega)
      have := below_lt (by omega) (by omega) h3 h0 (by decide) (by omega) (by decide) (by omega)
      omega
  have i1 : ¬ n < 0 := by omega
  have i2 : ¬ 100000 < n := by omega
  have i3 : ¬ p < n := by omega
  have hR := fun wx => Rung_yes n wx n0 hn5
  have gb := (GM.gr_isRung n n0 (by omega)).bounds n0
  have hF2 := hF.2
  have hF1 := hF.1
  clear hF hG
  have h00 : n = 0 → X = 0 ∧ Y = 0 := by
    intro e
    subst e
    have h := hF2
    have e2 := sgn_flip X Y 0
    rw [Int.sub_zero] at e2
    have h4 : GM.sgn ((GM.gr 34 0).1 - X) ((GM.gr 34 0).2 - Y) = -GM.sgn X Y := e2
    rw [h4] at h
    exact (GM.sgn_zero_iff X Y).1 (by omega)
  obtain ⟨⟨g1, g2⟩, hg⟩ : ∃ g, GM.gr 34 n = g := ⟨_, rfl⟩
  rw [hg] at hR gb hF2
  dsimp only at hR gb hF2
  have hA := fun wx => Compare_yes g1 g2 X Y wx (NUM.out _ _ (by omega) (by omega) (by omega) (by omega)) (NUM.out _ _ (by omega) (by omega) (by omega) (by omega))
  obtain ⟨S, eS⟩ : ∃ S, GM.sgn (g1 - X) (g2 - Y) = S := ⟨_, rfl⟩
  rw [eS] at hA hF2
  have i4 : ¬ S < 0 := by omega
  have HR := Lib.hid hR
  have HA := Lib.hid hA
  have HZ := Lib.hid h00
  have HF1 := Lib.hid hF1
  clear hR hA h00 hF1 eS hg hF2
  go_wp2_with fail
  refine (HR.out _).mono ?_
  rintro e w6 ⟨rfl, hb6⟩
  have z6_0 : w.heap.size < w6.heap.size := by have := hb6.size; (try simp at this); omega
  have cew_heap_size6_0 : w6.cell? ⟨w.heap.size, 0, none⟩ = some (.int .i64 X) := keep_cell hb6 (by first | assumption | (go_simp; done) | (simp; done) | simp [*])
  have zew_heap_size6 : w.heap.size < w6.heap.size := block_lt_of_cell cew_heap_size6_0
  have cew_heap_size6_1 : w6.cell? ⟨w.heap.size, 1, none⟩ = some (.int .i64 Y) := keep_cell hb6 (by first | assumption | (go_simp; done) | (simp; done) | simp [*])
  have ceg56_0 : w6.cell? ⟨g5, 0, none⟩ = some (.int .i64 ((X + M))) := keep_cell hb6 (by first | assumption | (go_simp; done) | (simp; done) | simp [*])
  have zeg56 : g5 < w6.heap.size := block_lt_of_cell ceg56_0
  have ceg56_1 : w6.cell? ⟨g5, 1, none⟩ = some (.int .i64 Y) := keep_cell hb6 (by first | assumption | (go_simp; done) | (simp; done) | simp [*])
  have B6 : Below w.heap.size w w6 := bl_call (by repeat (first | exact Below.refl _ _ | exact Nat.le_refl _ | refine Below.alloc ?_ ?_ _ | refine Below.setCell ?_ ?_ _ | refine Below.drew ?_ | refine bl_drewN ?_ _ | (assumption) | refine bl_call ?_ (by assumption) ?_ | omega | (simp <;> omega))) hb6 (by first | assumption | (simp; done) | (simp; omega) | omega)
  clear hb6
  have hsz_6 := B6.size
  go_wp2_with fail
  refine (HA.out _).mono ?_
  rintro e w7 ⟨rfl, hb7⟩
  have z7_0 : w.heap.size < w7.heap.size := by have := hb7.size; (try simp at this); omega
  have cew_heap_size7_0 : w7.cell? ⟨w.heap.size, 0, none⟩ = some (.int .i64 X) := keep_cell hb7 (by first | assumption | (go_simp; done) | (simp; done) | simp [*])
  have zew_heap_size7 : w.heap.size < w7.heap.size := block_lt_of_cell cew_heap_size7_0
  have cew_heap_size7_1 : w7.cell? ⟨w.heap.size, 1, none⟩ = some (.int .i64 Y) := keep_cell hb7 (by first | assumption | (go_simp; done) | (simp; done) | simp [*])
  have ceg57_0 : w7.cell? ⟨g5, 0, none⟩ = some (.int .i64 ((X + M))) := keep_cell hb7 (by first | assumption | (go_simp; done) | (simp; done) | simp [*])
  have zeg57 : g5 < w7.heap.size := block_lt_of_cell ceg57_0
  have ceg57_1 : w7.cell? ⟨g5, 1, none⟩ = some (.int .i64 Y) := keep_cell hb7 (by first | assumption | (go_simp; done) | (simp; done) | simp [*])
  have cew6_heap_size7_0 : w7.cell? ⟨w6.heap.size, 0, none⟩ = some (.int .i64 g1) := keep_cell hb7 (by first | assumption | (go_simp; done) | (simp; done) | simp [*])
  have zew6_heap_size7 : w6.heap.size < w7.heap.size := block_lt_of_cell cew6_heap_size7_0
  have cew6_heap_size7_1 : w7.cell? ⟨w6.heap.size, 1, none⟩ = some (.int .i64 g2) := keep_cell hb7 (by first | assumption | (go_simp; done) | (simp; done) | simp [*])
  have B7 : Below w.heap.size w w7 := bl_call (by repeat (first | exact Below.refl _ _ | exact Nat.le_refl _ | refine Below.alloc ?_ ?_ _ | refine Below.setCell ?_ ?_ _ | refine Below.drew ?_ | refine bl_drewN ?_ _ | (assumption) | refine bl_call ?_ (by assumption) ?_ | omega | (simp <;> omega))) hb7 (by first | assumption | (simp; done) | (simp; omega) | omega)
  clear hb7
  have hsz_7 := B7.size
  by_cases hn : n = 0
  · obtain ⟨rfl, rfl⟩ := HZ.out hn
    go_wp2_with fail
    refine (awake_any _).mono ?_
    rintro e w8 ⟨rfl, hb8⟩
    have z8_0 : w.heap.size < w8.heap.size := by have := hb8.size; (try simp at this); omega
    have B8 : Below w.heap.size w w8 := bl_call (by repeat (first | exact Below.refl _ _ | exact Nat.le_refl _ | refine Below.alloc ?_ ?_ _ | refine Below.setCell ?_ ?_ _ | refine Below.drew ?_ | refine bl_drewN ?_ _ | (assumption) | refine bl_call ?_ (by assumption) ?_ | omega | (simp <;> omega))) hb8 (by first | assumption | (simp; done) | (simp; omega) | omega)
    clear hb8
    have hsz_8 := B8.size
    go_wp2_with fail
    go_ret
    exact ⟨rfl, (by repeat (first | exact Below.refl _ _ | exact Nat.le_refl _ | refine Below.alloc ?_ ?_ _ | refine Below.setCell ?_ ?_ _ | refine Below.drew ?_ | refine bl_drewN ?_ _ | (assumption) | refine bl_call ?_ (by assumption) ?_ | omega | (simp <;> omega)))⟩
  · have hl : GM.sgn ((GM.gr 34 (n - 1)).1 - X) ((GM.gr 34 (n - 1)).2 - Y) < 0 := by
      rcases HF1.out with h | h
      · exact absurd h hn
      · exact h
    have hR2 := fun wx => Rung_yes (n - 1) wx (by omega) (by omega)
    have gb2 := (GM.gr_isRung (n - 1) (by omega) (by omega)).bounds (by omega)
    obtain ⟨⟨k1, k2⟩, hk⟩ : ∃ g, GM.gr 34 (n - 1) = g := ⟨_, rfl⟩
    rw [hk] at hR2 gb2 hl
    dsimp only at hR2 gb2 hl
    have hA2 := fun wx => Compare_yes k1 k2 X Y wx (NUM.out _ _ (by omega) (by omega) (by omega) (by omega)) (NUM.out _ _ (by omega) (by omega) (by omega) (by omega))
    obtain ⟨T, eT⟩ : ∃ T, GM.sgn (k1 - X) (k2 - Y) = T := ⟨_, rfl⟩
    rw [eT] at hA2 hl
    have HR2 := Lib.hid hR2
    have HA2 := Lib.hid hA2
    clear hR2 hA2 eT hk
    go_wp2_with fail
    refine (HR2.out _).mono ?_
    rintro e w8 ⟨rfl, hb8⟩
    have z8_0 : w.heap.size < w8.heap.size := by have := hb8.size; (try simp at this); omega
    have cew_heap_size8_0 : w8.cell? ⟨w.heap.size, 0, none⟩ = some (.int .i64 X) := keep_cell hb8 (by first | assumption | (go_simp; done) | (simp; done) | simp [*])
    have zew_heap_size8 : w.heap.size < w8.heap.size := block_lt_of_cell cew_heap_size8_0
    have cew_heap_size8_1 : w8.cell? ⟨w.heap.size, 1, none⟩ = some (.int .i64 Y) := keep_cell hb8 (by first | assumption | (go_simp; done) | (simp; done) | simp [*])
    have B8 : Below w.heap.size w w8 := bl_call (by repeat (first | exact Below.refl _ _ | exact Nat.le_refl _ | refine Below.alloc ?_ ?_ _ | refine Below.setCell ?_ ?_ _ | refine Below.drew ?_ | refine bl_drewN ?_ _ | (assumption) | refine bl_call ?_ (by assumption) ?_ | omega | (simp <;> omega))) hb8 (by first | assumption | (simp; done) | (simp; omega) | omega)
    clear hb8
    have hsz_8 := B8.size
    go_wp2_with fail
    refine (HA2.out _).mono ?_
    rintro e w9 ⟨rfl, hb9⟩
    have z9_0 : w.heap.size < w9.heap.size := by have := hb9.size; (try simp at this); omega
    have cew_heap_size9_0 : w9.cell? ⟨w.heap.size, 0, none⟩ = some (.int .i64 X) := keep_cell hb9 (by first | assumption | (go_simp; done) | (simp; done) | simp [*])
    have zew_heap_size9 : w.heap.size < w9.heap.size := block_lt_of_cell cew_heap_size9_0
    have cew_heap_size9_1 : w9.cell? ⟨w.heap.size, 1, none⟩ = some (.int .i64 Y) := keep_cell hb9 (by first | assumption | (go_simp; done) | (simp; done) | simp [*])
    have cew8_heap_size9_0 : w9.cell? ⟨w8.heap.size, 0, none⟩ = some (.int .i64 k1) := keep_cell hb9 (by first | assumption | (go_simp; done) | (simp; done) | simp [*])
    have zew8_heap_size9 : w8.heap.size < w9.heap.size := block_lt_of_cell cew8_heap_size9_0
    have cew8_heap_size9_1 : w9.cell? ⟨w8.heap.size, 1, none⟩ = some (.int .i64 k2) := keep_cell hb9 (by first | assumption | (go_simp; done) | (simp; done) | simp [*])
    have B9 : Below w.heap.size w w9 := bl_call (by repeat (first | exact Below.refl _ _ | exact Nat.le_refl _ | refine Below.alloc ?_ ?_ _ | refine Below.setCell ?_ ?_ _ | refine Below.drew ?_ | refine bl_drewN ?_ _ | (assumption) | refine bl_call ?_ (by assumption) ?_ | omega | (simp <;> omega))) hb9 (by first | assumption | (simp; done) | (simp; omega) | omega)
    clear hb9
    have hsz_9 := B9.size
    go_wp2_with fail
    refine (awake_any _).mono ?_
    rintro e w10 ⟨rfl, hb10⟩
    have z10_0 : w.heap.size < w10.heap.size := by have := hb10.size; (try simp at this); omega
    have cew_heap_size10_0 : w10.cell? ⟨w.heap.size, 0, none⟩ = some (.int .i64 X) := keep_cell hb10 (by first | assumption | (go_simp; done) | (simp; done) | simp [*])
    have zew_heap_size10 : w.heap.size < w10.heap.size := block_lt_of_cell cew_heap_size10_0
    have cew_heap_size10_1 : w10.cell? ⟨w.heap.size, 1, none⟩ = some (.int .i64 Y) := keep_cell hb10 (by first | assumption | (go_simp; done) | (simp; done) | simp [*])
    have cew8_heap_size10_0 : w10.cell? ⟨w8.heap.size, 0, none⟩ = some (.int .i64 k1) := keep_cell hb10 (by first | assumption | (go_simp; done) | (simp; done) | simp [*])
    have zew8_heap_size10 : w8.heap.size < w10.heap.size := block_lt_of_cell cew8_heap_size10_0
    have cew8_heap_size10_1 : w10.cell? ⟨w8.heap.size, 1, none⟩ = some (.int .i64 k2) := keep_cell hb10 (by first | assumption | (go_simp; done) | (simp; done) | simp [*])
    have B10 : Below w.heap.size w w10 := bl_call (by repeat (first | exact Below.refl _ _ | exact Nat.le_refl _ | refine Below.alloc ?_ ?_ _ | refine Below.setCell ?_ ?_ _ | refine Below.drew ?_ | refine bl_drewN ?_ _ | (assumption) | refine bl_call ?_ (by assumption) ?_ | omega | (simp <;> omega))) hb10 (by first | assumption | (simp; done) | (simp; omega) | omega)
    clear hb10
    have hsz_10 := B10.size
    go_wp2_with fail
    go_ret
    exact ⟨rfl, (by repeat (first | exact Below.refl _ _ | exact Nat.le_refl _ | refine Below.alloc ?_ ?_ _ | refine Below.setCell ?_ ?_ _ | refine Below.drew ?_ | refine bl_drewN ?_ _ | (assumption) | refine bl_call ?_ (by assumption) ?_ | omega | (simp <;> omega)))⟩
namespace gaugeCounted
open Go.ChangeShapes Go.WideShapes Go.ChangeAt Go.RowKit
open Go.Lib Go.Joins
set_option maxRecDepth 100000 in
theorem contract (H : Type) (enc : TypeId × Value → H) (W : World) (base : Nat) (args : Array Value) (ds gs : List (DataW H)) (before : List MemPlace)
    (hval : ∀ (j : Nat) t v, Tryd.f11.params[j]? = some t → args[j]? = some v → Value.okWide Tryd.prog W .any base t v)
    (hW : DataW.Whole enc Tryd.prog Tryd.f11.params.toList Rows.gaugeCountedSpec.vars false W args.toList ds gs before) :
    Calls Tryd.prog 11 args W fun e W' => ∃ v, e = .returned v ∧ Rows.gaugeCountedSpec.post enc Tryd.prog Tryd.f11 false true false false W args v W' := by
  have hW' := hW
  obtain ⟨p, q, hA0, hV, rfl, hfz, hnd⟩ := hW
  have hA : DataW.TrodAll enc Tryd.prog W 0 (fun _ => true) true Tryd.f11.params.toList args.toList ds p := hA0
  rw [Tryd.params11] at hA hval
  obtain ⟨v0, vs0, d0, ds0, p0, q0, hargs, rfl, rfl, h0, r0⟩ := trodAll_cons hA
  obtain ⟨v1, vs1, d1, ds1, p1, q1, rfl, rfl, rfl, h1, r1⟩ := trodAll_cons r0
  obtain ⟨rfl, rfl, rfl⟩ := trodAll_nil r1
  obtain rfl : args = #[v0, v1] := by cases args; simp_all
  obtain ⟨rfl, rfl⟩ := trodVars_none hV
  obtain ⟨u0, t0, y0, z0, n0, rfl, rfl, rfl, tu0, tt0⟩ := open_agg2 Tryd.underlying23 (by kernel_rfl) (by kernel_rfl) (hval 0 23 v0 rfl rfl) h0
  obtain ⟨a0, ea0, rfl, wa0⟩ := DataW.trod_int Tryd.underlying3 tu0
  obtain ⟨b0, eb0, rfl, wb0⟩ := DataW.trod_int Tryd.underlying3 tt0
  obtain rfl : u0 = .int .i64 a0 := by simpa using ea0
  obtain rfl : t0 = .int .i64 b0 := by simpa using eb0
  obtain ⟨x1, rfl, rfl, rfl, wx1⟩ := open_int Tryd.underlying3 (hval 1 3 v1 rfl rfl) h1
  clear hA0
  simp only [List.append_nil] at hW'
  refine (show Calls Tryd.prog 11 _ W _ from (GaugeCounted_walk a0 b0 x1 W (inI wa0) (inI wb0) (inI wx1))).mono fun e W' ⟨he, hb⟩ => ?_
  subst he
  exact ⟨_, rfl, _, _, _, [], [], [], hW', trodAll_mk1 (shut_bool Tryd.underlying4 _), trodAll_cons_mk (shut_agg2 (y0 := (.lit (.int .i64 a0), [])) (y1 := (.lit (.int .i64 b0), [])) Tryd.underlying23 (by kernel_rfl) (by kernel_rfl) ⟨1, by simp [DataW.trod, Tryd.underlying3, wa0]⟩ ⟨1, by simp [DataW.trod, Tryd.underlying3, wb0]⟩) (trodAll_cons_mk (shut_int Tryd.underlying3 wx1) (trodAll_mk0)), rfl, hb.frame _, fun h => by cases h⟩
theorem reads (os : Os) {H : Type} (enc : TypeId × Value → H) : ∃ places, DataW.whole enc Tryd.prog ((laidWorld os).forCall (fun _ _ => 0) ⟨#[], #[.agg #[.int .i64 0, .int .i64 0], .int .i64 0], []⟩).memory Tryd.f11.params.toList Rows.gaugeCountedSpec.vars false (#[.agg #[.int .i64 0, .int .i64 0], .int .i64 0] : Array Value).toList 8 = some ([.agg [.lit (.int .i64 0), .lit (.int .i64 0)], .lit (.int .i64 0)], [], places) :=
  ⟨[], by kernel_rfl⟩
set_option maxRecDepth 100000 in
theorem lifted (os : Os) (started : os.Started) (H : Type) (enc : TypeId × Value → H) (F : Stop.Interp) :
    ReturnsInHanded {} Tryd.checked os 11 .any ((OpenSpec.ofChange Rows.gaugeCountedSpec).preRow enc Tryd.prog Tryd.f11 Rows.gaugeCountedRow.domain false Rows.gaugeCountedRow.laid) (((OpenSpec.ofChange Rows.gaugeCountedSpec).at F).post enc Tryd.prog Tryd.f11 false true false false) := by
  obtain ⟨places, hx⟩ := reads os enc
  refine returnsInHanded_of_row (C := Tryd.checked) (s := OpenSpec.ofChange Rows.gaugeCountedSpec) own started (by kernel_rfl) Tryd.func11
    (witness_row_at (enc := enc) (C := Tryd.checked) false (laidWorld os) #[.agg #[.int .i64 0, .int .i64 0], .int .i64 0] rfl (by kernel_rfl) (by kernel_rfl) (by kernel_rfl)
      (OpenSpec.preRow_of_cond 8 hx (by kernel_rfl) (fun k hk => by cases hk) (by kernel_rfl) (laid_met os _))) ?_
  intro W base args ds gs before hval hW _ _ _ _ _ _
  exact contract H enc W base args ds gs before hval hW
theorem said : Rows.GaugeCountedSaid :=
  OpenClaim.holds_of_cond 11 Tryd.f11 rfl rfl rfl rfl rfl rfl rfl ⟨rfl, rfl, rfl, rfl, rfl⟩ rfl rfl rfl rfl rfl (by kernel_rfl) Tryd.func11 (by kernel_rfl)
    (of_decide_eq_true (by kernel_rfl)) (by unfold Func.isWrapper; first | (rw [if_pos (by decide +kernel)]; kernel_rfl) | (rw [if_neg (by decide +kernel)]; exact ⟨rfl, rfl⟩))
    (fun os started H enc _ F => by rw [OpenClaim.pre_eq_preRow]; exact lifted os started H enc F)
theorem plain (f : FuncId) (fn : Func) (hf : Tryd.pinned.checked.prog.funcNamed "remould/remouldlaw04.GaugeCounted" = some f) (hfn : Tryd.pinned.checked.prog.funcs[f]? = some fn) :
    true = Tryd.pinned.checked.prog.looks [] ∧ ∀ (j : Nat) t, fn.params[j]? = some t → Tryd.pinned.checked.prog.wantsStandIn t = false := by
  obtain rfl : f = 11 := Option.some.inj ((show Tryd.prog.funcNamed "remould/remouldlaw04.GaugeCounted" = some 11 by kernel_rfl).symm.trans hf) |>.symm
  obtain rfl : fn = Tryd.f11 := (Option.some.inj (Tryd.func11.symm.trans hfn)).symm
  refine ⟨by kernel_rfl, fun j t ht => ?_⟩
  rw [Tryd.params11] at ht
  have hm : t ∈ [23, 3] := by simpa using Array.mem_of_getElem? ht
  have hall : ([23, 3].all fun u => !Tryd.prog.wantsStandIn u) = true := by kernel_rfl
  exact (show Tryd.prog.wantsStandIn t = false by simpa using List.all_eq_true.1 hall t (by simpa using hm))
theorem card : Rows.GaugeCountedCardSaid :=
  Claim7.holds_tied_plain_at .later [] _ _ _ _ said (fun _ h => by cases h) (by kernel_rfl) (fun _ h => by cases h) gaugeCounted_row_tie rfl ⟨rfl, rfl⟩ (by kernel_rfl) rfl plain (by kernel_rfl)
end gaugeCounted
theorem GaugeCounted_holds : Rows.GaugeCountedCardSaid := gaugeCounted.card
end Go.Proofs.YtgocloilagcfoabDoor
