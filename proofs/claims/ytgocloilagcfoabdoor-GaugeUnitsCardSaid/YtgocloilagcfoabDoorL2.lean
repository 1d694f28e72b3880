/- The laws' own helpers: mod, tame. -/
import Derived.Test.YtgocloilagcfoabDoorR1
import Derived.Test.YtgocloilagcfoabDoorC7
import Derived.Test.YtgocloilagcfoabDoorD1
namespace Go.Proofs.YtgocloilagcfoabDoor
open Go.RowKit
attribute [local go_sem ↓] Go.wp_at_zero Go.wp_at_succ

theorem mod_any (x n : Int) (w : World) (h1 : 0 < n) (h2 : n ≤ 4000000) (_ : -9223372036854775808 ≤ x) (_ : x ≤ 9223372036854775807) :
    Calls Tryd.prog 34 #[.int .i64 x, .int .i64 n] w fun e w' => e = .returned (.int .i64 (modZ x n)) ∧ Below w.heap.size w w' := by
  have hb := modZ_bd x n h1
  have hne : ¬ n = 0 := by omega
  go_enter Tryd.func34, Tryd.ntmps34
  have e : wrap64 ((IntKind.u64.wrap x).tmod n) = modZ x n := by
    have e1 : IntKind.u64.wrap x = x % 18446744073709551616 := by simp [IntKind.wrap, IntKind.signed, IntKind.bits]
    rw [e1, Int.tmod_eq_emod_of_nonneg (Int.emod_nonneg _ (by decide))]
    change wrap64 (modZ x n) = modZ x n
    unfold wrap64
    omega
  have E := Lib.hid e
  clear e
  go_wp2_with fail
  rw [E.out]
  go_ret
  exact ⟨rfl, (by repeat (first | exact Below.refl _ _ | exact Nat.le_refl _ | refine Below.alloc ?_ ?_ _ | refine Below.setCell ?_ ?_ _ | refine Below.drew ?_ | refine bl_drewN ?_ _ | (assumption) | refine bl_call ?_ (by assumption) ?_ | omega | (simp <;> omega)))⟩
set_option maxRecDepth 100000 in
set_option maxHeartbeats 2000000 in
theorem tame_any (a b m : Int) (w : World) (m0 : 0 ≤ m) (m1 : m ≤ 1000000) (a1 : -9223372036854775808 ≤ a) (a2 : a ≤ 9223372036854775807) (b1 : -9223372036854775808 ≤ b) (b2 : b ≤ 9223372036854775807) :
    Calls Tryd.prog 37 #[.agg #[.int .i64 a, .int .i64 b], .int .i64 m] w fun e w' => e = .returned (.agg #[.int .i64 (modZ a (2 * m + 1) - m), .int .i64 (modZ b (2 * m + 1) - m)]) ∧ Below w.heap.size w w' := by
  have ha := fun wx => mod_any a (2 * m + 1) wx (by omega) (by omega) a1 a2
  have hb := fun wx => mod_any b (2 * m + 1) wx (by omega) (by omega) b1 b2
  obtain ⟨ba1, ba2⟩ := modZ_bd a (2 * m + 1) (by omega)
  obtain ⟨bb1, bb2⟩ := modZ_bd b (2 * m + 1) (by omega)
  obtain ⟨U1, e1⟩ : ∃ y, modZ a (2 * m + 1) = y := ⟨_, rfl⟩
  obtain ⟨V1, e2⟩ : ∃ y, modZ b (2 * m + 1) = y := ⟨_, rfl⟩
  rw [e1] at ha ba1 ba2
  rw [e2] at hb bb1 bb2
  rw [e1, e2]
  clear e1 e2
  have HA := Lib.hid ha
  have HB := Lib.hid hb
  clear ha hb
  go_enter Tryd.func37, Tryd.ntmps37
  go_upto_region 1 with fail
  obtain ⟨w1, hw1⟩ : ∃ wx : World, wx = ((w.alloc (.cells #[.int .i64 a, .int .i64 b] 23)).alloc (.cells #[.int .i64 0, .int .i64 0] 23)) := ⟨_, rfl⟩
  rw [← hw1]
  have q1_0 : w1.heap[w.heap.size]? = some (.cells #[.int .i64 a, .int .i64 b] 23 (0, 0)) := by rw [hw1]; exact blk_old (blk_new _ _)
  have z1_0 : w.heap.size < w1.heap.size := by rw [hw1]; simp <;> omega
  have c1_0_0 : w1.cell? ⟨w.heap.size, 0, none⟩ = some (.int .i64 a) := by rw [hw1]; first | (go_simp; done) | simp
  have c1_0_1 : w1.cell? ⟨w.heap.size, 1, none⟩ = some (.int .i64 b) := by rw [hw1]; first | (go_simp; done) | simp
  have f1_0 : ∀ o, w1.frozen? ⟨w.heap.size, o, none⟩ = false := by intro o; rw [hw1]; first | (go_simp; done) | simp
  have q1_1 : w1.heap[w.heap.size + 1]? = some (.cells #[.int .i64 0, .int .i64 0] 23 (0, 0)) := by rw [hw1]; rw [show w.heap.size + 1 = (w.alloc (.cells #[.int .i64 a, .int .i64 b] 23)).heap.size from by simp]; exact blk_new _ _
  have z1_1 : w.heap.size + 1 < w1.heap.size := by rw [hw1]; simp <;> omega
  have c1_1_0 : w1.cell? ⟨w.heap.size + 1, 0, none⟩ = some (.int .i64 0) := by rw [hw1]; first | (go_simp; done) | simp
  have c1_1_1 : w1.cell? ⟨w.heap.size + 1, 1, none⟩ = some (.int .i64 0) := by rw [hw1]; first | (go_simp; done) | simp
  have f1_1 : ∀ o, w1.frozen? ⟨w.heap.size + 1, o, none⟩ = false := by intro o; rw [hw1]; first | (go_simp; done) | simp
  have B1 : Below w.heap.size w w1 := by rw [hw1]; exact (by repeat (first | exact Below.refl _ _ | exact Nat.le_refl _ | refine Below.alloc ?_ ?_ _ | refine Below.setCell ?_ ?_ _ | refine Below.drew ?_ | refine bl_drewN ?_ _ | (assumption) | refine bl_call ?_ (by assumption) ?_ | omega | (simp <;> omega)))
  clear hw1
  have pblk4 := q1_1
  have pblk4 : w1.heap[w.heap.size + 1]? = some (.cells #[.int .i64 0, .int .i64 0] 23 (0, 0)) := by first | assumption | exact hblk4
  refine with_act fun a0 ha0 => ?_
  refine wp_region_inv (by kernel_rfl) (by kernel_rfl) (fun s a' w' => ∃ v5 v6 v7 v8 v9 v10 v11 v12 v13 v14 v15 v16 v17 v18 v19 v20 v21 : Value, a' = putL a0 [(5, v5), (6, v6), (7, v7), (8, v8), (9, v9), (10, v10), (11, v11), (12, v12), (13, v13), (14, v14), (15, v15), (16, v16), (17, v17), (18, v18), (19, v19), (20, v20), (21, v21)] ∧ Hid ((s 0 = true → v5 = .pointer (some ⟨w.heap.size, 0, none⟩)) ∧ (s 1 = true → v6 = .int .i64 a) ∧ (s 2 = true → v7 = .int .i64 m) ∧ (s 3 = true → v8 = .int .i64 (2 * m)) ∧ (s 4 = true → v9 = .int .i64 (2 * m + 1)) ∧ (s 5 = true → v10 = .int .i64 U1) ∧ (s 6 = true → v11 = .int .i64 m) ∧ (s 7 = true → v12 = .int .i64 (U1 - m)) ∧ (s 8 = true → v13 = .pointer (some ⟨w.heap.size, 1, none⟩)) ∧ (s 9 = true → v14 = .int .i64 b) ∧ (s 10 = true → v15 = .int .i64 m) ∧ (s 11 = true → v16 = .int .i64 (2 * m)) ∧ (s 12 = true → v17 = .int .i64 (2 * m + 1)) ∧ (s 13 = true → v18 = .int .i64 V1) ∧ (s 14 = true → v19 = .int .i64 m) ∧ (s 15 = true → v20 = .int .i64 (V1 - m)) ∧ (s 16 = true → v21 = .agg #[.int .i64 (U1 - m), .int .i64 (V1 - m)]) ∧ True) ∧ BelX [w.heap.size + 1] w1 w' ∧ (∃ (c0 c1 : Value), w'.heap[w.heap.size + 1]? = some (.cells #[c0, c1] 23 (0, 0)) ∧ (s 17 = true → c0 = .int .i64 (U1 - m) ∧ c1 = .int .i64 (V1 - m)) ∧ (s 17 = false → c0 = .int .i64 0 ∧ c1 = .int .i64 0)) ∧ (s 17 = true → s 0 = true ∧ s 1 = true ∧ s 2 = true ∧ s 3 = true ∧ s 4 = true ∧ s 5 = true ∧ s 6 = true ∧ s 7 = true ∧ s 8 = true ∧ s 9 = true ∧ s 10 = true ∧ s 11 = true ∧ s 12 = true ∧ s 13 = true ∧ s 14 = true ∧ s 15 = true ∧ s 16 = true ∧ True) ∧ True) ?x1hzero ⟨?x1hs0, ?x1hs1, ?x1hs2, ?x1hs3, ?x1hs4, ?x1hs5, ?x1hs6, ?x1hs7, ?x1hs8, ?x1hs9, ?x1hs10, ?x1hs11, ?x1hs12, ?x1hs13, ?x1hs14, ?x1hs15, ?x1hs16, ?x1hs17, trivial⟩ ?x1hdone
  case x1hzero =>
    refine ⟨a0.tmps.getD 5 undef, a0.tmps.getD 6 undef, a0.tmps.getD 7 undef, a0.tmps.getD 8 undef, a0.tmps.getD 9 undef, a0.tmps.getD 10 undef, a0.tmps.getD 11 undef, a0.tmps.getD 12 undef, a0.tmps.getD 13 undef, a0.tmps.getD 14 undef, a0.tmps.getD 15 undef, a0.tmps.getD 16 undef, a0.tmps.getD 17 undef, a0.tmps.getD 18 undef, a0.tmps.getD 19 undef, a0.tmps.getD 20 undef, a0.tmps.getD 21 undef, ?_, ?_, ?_, ?_, ?_, trivial⟩
    · simp only [putL, put_self]
    · exact Lib.hid ⟨fun h => (by simp at h), fun h => (by simp at h), fun h => (by simp at h), fun h => (by simp at h), fun h => (by simp at h), fun h => (by simp at h), fun h => (by simp at h), fun h => (by simp at h), fun h => (by simp at h), fun h => (by simp at h), fun h => (by simp at h), fun h => (by simp at h), fun h => (by simp at h), fun h => (by simp at h), fun h => (by simp at h), fun h => (by simp at h), fun h => (by simp at h), trivial⟩
    · exact BelX.start _ _
    · exact ⟨.int .i64 0, .int .i64 0, pblk4, fun h => (by simp at h), fun _ => ⟨rfl, rfl⟩⟩
    · exact fun h => (by simp at h)
  case x1hs0 =>
    intro s a' w' hsk hdep hI K hK
    try dsimp only at hI hK
    obtain ⟨v5, v6, v7, v8, v9, v10, v11, v12, v13, v14, v15, v16, v17, v18, v19, v20, v21, hact, hR, hX, hP4, hQ4, _⟩ := hI
    subst hact
    have HK := Lib.hid hK
    clear hK
    have kc0 : w'.cell? ⟨w.heap.size, 0, none⟩ = some (.int .i64 a) := hX.cell (by first | (simp; done) | (simp; omega)) (by first | assumption | (go_simp; done) | (simp; done))
    have kc1 : w'.cell? ⟨w.heap.size, 1, none⟩ = some (.int .i64 b) := hX.cell (by first | (simp; done) | (simp; omega)) (by first | assumption | (go_simp; done) | (simp; done))
    obtain ⟨b4_0, b4_1, pb4, pt4, pf4⟩ := hP4
    have hs0 : s 17 = false := Bool.eq_false_iff.2 fun h => (by have := hQ4 h; simp [hsk] at this)
    obtain ⟨q4_0, q4_1⟩ := pf4 hs0
    subst q4_0
    subst q4_1
    clear hs0
    have kp4_0 := cell_of_row w' (w.heap.size + 1) 0 _ _ _ pb4
    have kp4_1 := cell_of_row w' (w.heap.size + 1) 1 _ _ _ pb4
    simp only [List.getElem?_toArray, List.getElem?_cons_zero, List.getElem?_cons_succ] at kp4_0 kp4_1
    have kq4 : ∀ o, w'.frozen? ⟨w.heap.size + 1, o, none⟩ = false := fun o => frozen_of_row w' _ o _ _ pb4
    have hPB4 := Lib.hid pb4
    clear pb4
    have hPT4 := Lib.hid pt4
    clear pt4
    have hPF4 := Lib.hid pf4
    clear pf4
    clear hdep
    refine StepG.mk rfl ?_; rw [ha0]; simp only [putL, Act.put, List.setIfInBounds_toArray, List.set_cons_zero, List.set_cons_succ]
    go_wp2_with fail
    refine HK.out _ _ ?_
    refine ⟨(.pointer (some ⟨w.heap.size, 0, none⟩)), v6, v7, v8, v9, v10, v11, v12, v13, v14, v15, v16, v17, v18, v19, v20, v21, (by rw [ha0]; simp only [putL, Act.put, List.setIfInBounds_toArray, List.set_cons_zero, List.set_cons_succ]), ?_, ?_, ?_, ?_, trivial⟩
    · obtain ⟨h5, h6, h7, h8, h9, h10, h11, h12, h13, h14, h15, h16, h17, h18, h19, h20, h21, _⟩ := hR.out
      exact Lib.hid ⟨fun _ => rfl, fun h => h6 (by simpa using h), fun h => h7 (by simpa using h), fun h => h8 (by simpa using h), fun h => h9 (by simpa using h), fun h => h10 (by simpa using h), fun h => h11 (by simpa using h), fun h => h12 (by simpa using h), fun h => h13 (by simpa using h), fun h => h14 (by simpa using h), fun h => h15 (by simpa using h), fun h => h16 (by simpa using h), fun h => h17 (by simpa using h), fun h => h18 (by simpa using h), fun h => h19 (by simpa using h), fun h => h20 (by simpa using h), fun h => h21 (by simpa using h), trivial⟩
    · exact hX
    · exact ⟨_, _, hPB4.out, fun h => hPT4.out (by simpa using h), fun h => ⟨rfl, rfl⟩⟩
    · exact fun h => (by have h1 := hQ4 (by simpa using h); simp [h1])
  case x1hs1 =>
    intro s a' w' hsk hdep hI K hK
    try dsimp only at hI hK
    obtain ⟨v5, v6, v7, v8, v9, v10, v11, v12, v13, v14, v15, v16, v17, v18, v19, v20, v21, hact, hR, hX, hP4, hQ4, _⟩ := hI
    subst hact
    have HK := Lib.hid hK
    clear hK
    have e5 : v5 = .pointer (some ⟨w.heap.size, 0, none⟩) := by obtain ⟨h5, h6, h7, h8, h9, h10, h11, h12, h13, h14, h15, h16, h17, h18, h19, h20, h21, _⟩ := hR.out; exact h5 (hdep ⟨0, .data⟩ (by simp) rfl)
    subst e5
    have kc0 : w'.cell? ⟨w.heap.size, 0, none⟩ = some (.int .i64 a) := hX.cell (by first | (simp; done) | (simp; omega)) (by first | assumption | (go_simp; done) | (simp; done))
    have kc1 : w'.cell? ⟨w.heap.size, 1, none⟩ = some (.int .i64 b) := hX.cell (by first | (simp; done) | (simp; omega)) (by first | assumption | (go_simp; done) | (simp; done))
    obtain ⟨b4_0, b4_1, pb4, pt4, pf4⟩ := hP4
    have hs0 : s 17 = false := Bool.eq_false_iff.2 fun h => (by have := hQ4 h; simp [hsk] at this)
    obtain ⟨q4_0, q4_1⟩ := pf4 hs0
    subst q4_0
    subst q4_1
    clear hs0
    have kp4_0 := cell_of_row w' (w.heap.size + 1) 0 _ _ _ pb4
    have kp4_1 := cell_of_row w' (w.heap.size + 1) 1 _ _ _ pb4
    simp only [List.getElem?_toArray, List.getElem?_cons_zero, List.getElem?_cons_succ] at kp4_0 kp4_1
    have kq4 : ∀ o, w'.frozen? ⟨w.heap.size + 1, o, none⟩ = false := fun o => frozen_of_row w' _ o _ _ pb4
    have hPB4 := Lib.hid pb4
    clear pb4
    have hPT4 := Lib.hid pt4
    clear pt4
    have hPF4 := Lib.hid pf4
    clear pf4
    clear hdep
    refine StepG.mk rfl ?_; rw [ha0]; simp only [putL, Act.put, List.setIfInBounds_toArray, List.set_cons_zero, List.set_cons_succ]
    go_wp2_with fail
    refine HK.out _ _ ?_
    refine ⟨(.pointer (some ⟨w.heap.size, 0, none⟩)), (.int .i64 a), v7, v8, v9, v10, v11, v12, v13, v14, v15, v16, v17, v18, v19, v20, v21, (by rw [ha0]; simp only [putL, Act.put, List.setIfInBounds_toArray, List.set_cons_zero, List.set_cons_succ]), ?_, ?_, ?_, ?_, trivial⟩
    · obtain ⟨h5, h6, h7, h8, h9, h10, h11, h12, h13, h14, h15, h16, h17, h18, h19, h20, h21, _⟩ := hR.out
      exact Lib.hid ⟨fun _ => rfl, fun _ => rfl, fun h => h7 (by simpa using h), fun h => h8 (by simpa using h), fun h => h9 (by simpa using h), fun h => h10 (by simpa using h), fun h => h11 (by simpa using h), fun h => h12 (by simpa using h), fun h => h13 (by simpa using h), fun h => h14 (by simpa using h), fun h => h15 (by simpa using h), fun h => h16 (by simpa using h), fun h => h17 (by simpa using h), fun h => h18 (by simpa using h), fun h => h19 (by simpa using h), fun h => h20 (by simpa using h), fun h => h21 (by simpa using h), trivial⟩
    · exact hX
    · exact ⟨_, _, hPB4.out, fun h => hPT4.out (by simpa using h), fun h => ⟨rfl, rfl⟩⟩
    · exact fun h => (by have h1 := hQ4 (by simpa using h); simp [h1])
  case x1hs2 =>
    intro s a' w' hsk hdep hI K hK
    try dsimp only at hI hK
    obtain ⟨v5, v6, v7, v8, v9, v10, v11, v12, v13, v14, v15, v16, v17, v18, v19, v20, v21, hact, hR, hX, hP4, hQ4, _⟩ := hI
    subst hact
    have HK := Lib.hid hK
    clear hK
    have kc0 : w'.cell? ⟨w.heap.size, 0, none⟩ = some (.int .i64 a) := hX.cell (by first | (simp; done) | (simp; omega)) (by first | assumption | (go_simp; done) | (simp; done))
    have kc1 : w'.cell? ⟨w.heap.size, 1, none⟩ = some (.int .i64 b) := hX.cell (by first | (simp; done) | (simp; omega)) (by first | assumption | (go_simp; done) | (simp; done))
    obtain ⟨b4_0, b4_1, pb4, pt4, pf4⟩ := hP4
    have hs0 : s 17 = false := Bool.eq_false_iff.2 fun h => (by have := hQ4 h; simp [hsk] at this)
    obtain ⟨q4_0, q4_1⟩ := pf4 hs0
    subst q4_0
    subst q4_1
    clear hs0
    have kp4_0 := cell_of_row w' (w.heap.size + 1) 0 _ _ _ pb4
    have kp4_1 := cell_of_row w' (w.heap.size + 1) 1 _ _ _ pb4
    simp only [List.getElem?_toArray, List.getElem?_cons_zero, List.getElem?_cons_succ] at kp4_0 kp4_1
    have kq4 : ∀ o, w'.frozen? ⟨w.heap.size + 1, o, none⟩ = false := fun o => frozen_of_row w' _ o _ _ pb4
    have hPB4 := Lib.hid pb4
    clear pb4
    have hPT4 := Lib.hid pt4
    clear pt4
    have hPF4 := Lib.hid pf4
    clear pf4
    clear hdep
    refine StepG.mk rfl ?_; rw [ha0]; simp only [putL, Act.put, List.setIfInBounds_toArray, List.set_cons_zero, List.set_cons_succ]
    go_wp2_with fail
    refine HK.out _ _ ?_
    refine ⟨v5, v6, (.int .i64 m), v8, v9, v10, v11, v12, v13, v14, v15, v16, v17, v18, v19, v20, v21, (by rw [ha0]; simp only [putL, Act.put, List.setIfInBounds_toArray, List.set_cons_zero, List.set_cons_succ]), ?_, ?_, ?_, ?_, trivial⟩
    · obtain ⟨h5, h6, h7, h8, h9, h10, h11, h12, h13, h14, h15, h16, h17, h18, h19, h20, h21, _⟩ := hR.out
      exact Lib.hid ⟨fun h => h5 (by simpa using h), fun h => h6 (by simpa using h), fun _ => rfl, fun h => h8 (by simpa using h), fun h => h9 (by simpa using h), fun h => h10 (by simpa using h), fun h => h11 (by simpa using h), fun h => h12 (by simpa using h), fun h => h13 (by simpa using h), fun h => h14 (by simpa using h), fun h => h15 (by simpa using h), fun h => h16 (by simpa using h), fun h => h17 (by simpa using h), fun h => h18 (by simpa using h), fun h => h19 (by simpa using h), fun h => h20 (by simpa using h), fun h => h21 (by simpa using h), trivial⟩
    · exact hX
    · exact ⟨_, _, hPB4.out, fun h => hPT4.out (by simpa using h), fun h => ⟨rfl, rfl⟩⟩
    · exact fun h => (by have h1 := hQ4 (by simpa using h); simp [h1])
  case x1hs3 =>
    intro s a' w' hsk hdep hI K hK
    try dsimp only at hI hK
    obtain ⟨v5, v6, v7, v8, v9, v10, v11, v12, v13, v14, v15, v16, v17, v18, v19, v20, v21, hact, hR, hX, hP4, hQ4, _⟩ := hI
    subst hact
    have HK := Lib.hid hK
    clear hK
    have e7 : v7 = .int .i64 m := by obtain ⟨h5, h6, h7, h8, h9, h10, h11, h12, h13, h14, h15, h16, h17, h18, h19, h20, h21, _⟩ := hR.out; exact h7 (hdep ⟨2, .data⟩ (by simp) rfl)
    subst e7
    have kc0 : w'.cell? ⟨w.heap.size, 0, none⟩ = some (.int .i64 a) := hX.cell (by first | (simp; done) | (simp; omega)) (by first | assumption | (go_simp; done) | (simp; done))
    have kc1 : w'.cell? ⟨w.heap.size, 1, none⟩ = some (.int .i64 b) := hX.cell (by first | (simp; done) | (simp; omega)) (by first | assumption | (go_simp; done) | (simp; done))
    obtain ⟨b4_0, b4_1, pb4, pt4, pf4⟩ := hP4
    have hs0 : s 17 = false := Bool.eq_false_iff.2 fun h => (by have := hQ4 h; simp [hsk] at this)
    obtain ⟨q4_0, q4_1⟩ := pf4 hs0
    subst q4_0
    subst q4_1
    clear hs0
    have kp4_0 := cell_of_row w' (w.heap.size + 1) 0 _ _ _ pb4
    have kp4_1 := cell_of_row w' (w.heap.size + 1) 1 _ _ _ pb4
    simp only [List.getElem?_toArray, List.getElem?_cons_zero, List.getElem?_cons_succ] at kp4_0 kp4_1
    have kq4 : ∀ o, w'.frozen? ⟨w.heap.size + 1, o, none⟩ = false := fun o => frozen_of_row w' _ o _ _ pb4
    have hPB4 := Lib.hid pb4
    clear pb4
    have hPT4 := Lib.hid pt4
    clear pt4
    have hPF4 := Lib.hid pf4
    clear pf4
    clear hdep
    refine StepG.mk rfl ?_; rw [ha0]; simp only [putL, Act.put, List.setIfInBounds_toArray, List.set_cons_zero, List.set_cons_succ]
    go_wp2_with fail
    refine HK.out _ _ ?_
    refine ⟨v5, v6, (.int .i64 m), (.int .i64 (2 * m)), v9, v10, v11, v12, v13, v14, v15, v16, v17, v18, v19, v20, v21, (by rw [ha0]; simp only [putL, Act.put, List.setIfInBounds_toArray, List.set_cons_zero, List.set_cons_succ]), ?_, ?_, ?_, ?_, trivial⟩
    · obtain ⟨h5, h6, h7, h8, h9, h10, h11, h12, h13, h14, h15, h16, h17, h18, h19, h20, h21, _⟩ := hR.out
      exact Lib.hid ⟨fun h => h5 (by simpa using h), fun h => h6 (by simpa using h), fun _ => rfl, fun _ => rfl, fun h => h9 (by simpa using h), fun h => h10 (by simpa using h), fun h => h11 (by simpa using h), fun h => h12 (by simpa using h), fun h => h13 (by simpa using h), fun h => h14 (by simpa using h), fun h => h15 (by simpa using h), fun h => h16 (by simpa using h), fun h => h17 (by simpa using h), fun h => h18 (by simpa using h), fun h => h19 (by simpa using h), fun h => h20 (by simpa using h), fun h => h21 (by simpa using h), trivial⟩
    · exact hX
    · exact ⟨_, _, hPB4.out, fun h => hPT4.out (by simpa using h), fun h => ⟨rfl, rfl⟩⟩
    · exact fun h => (by have h1 := hQ4 (by simpa using h); simp [h1])
  case x1hs4 =>
    intro s a' w' hsk hdep hI K hK
    try dsimp only at hI hK
    obtain ⟨v5, v6, v7, v8, v9, v10, v11, v12, v13, v14, v15, v16, v17, v18, v19, v20, v21, hact, hR, hX, hP4, hQ4, _⟩ := hI
    subst hact
    have HK := Lib.hid hK
    clear hK
    have e8 : v8 = .int .i64 (2 * m) := by obtain ⟨h5, h6, h7, h8, h9, h10, h11, h12, h13, h14, h15, h16, h17, h18, h19, h20, h21, _⟩ := hR.out; exact h8 (hdep ⟨3, .data⟩ (by simp) rfl)
    subst e8
    have kc0 : w'.cell? ⟨w.heap.size, 0, none⟩ = some (.int .i64 a) := hX.cell (by first | (simp; done) | (simp; omega)) (by first | assumption | (go_simp; done) | (simp; done))
    have kc1 : w'.cell? ⟨w.heap.size, 1, none⟩ = some (.int .i64 b) := hX.cell (by first | (simp; done) | (simp; omega)) (by first | assumption | (go_simp; done) | (simp; done))
    obtain ⟨b4_0, b4_1, pb4, pt4, pf4⟩ := hP4
    have hs0 : s 17 = false := Bool.eq_false_iff.2 fun h => (by have := hQ4 h; simp [hsk] at this)
    obtain ⟨q4_0, q4_1⟩ := pf4 hs0
    subst q4_0
    subst q4_1
    clear hs0
    have kp4_0 := cell_of_row w' (w.heap.size + 1) 0 _ _ _ pb4
    have kp4_1 := cell_of_row w' (w.heap.size + 1) 1 _ _ _ pb4
    simp only [List.getElem?_toArray, List.getElem?_cons_zero, List.getElem?_cons_succ] at kp4_0 kp4_1
    have kq4 : ∀ o, w'.frozen? ⟨w.heap.size + 1, o, none⟩ = false := fun o => frozen_of_row w' _ o _ _ pb4
    have hPB4 := Lib.hid pb4
    clear pb4
    have hPT4 := Lib.hid pt4
    clear pt4
    have hPF4 := Lib.hid pf4
    clear pf4
    clear hdep
    refine StepG.mk rfl ?_; rw [ha0]; simp only [putL, Act.put, List.setIfInBounds_toArray, List.set_cons_zero, List.set_cons_succ]
    go_wp2_with fail
    refine HK.out _ _ ?_
    refine ⟨v5, v6, v7, (.int .i64 (2 * m)), (.int .i64 (2 * m + 1)), v10, v11, v12, v13, v14, v15, v16, v17, v18, v19, v20, v21, (by rw [ha0]; simp only [putL, Act.put, List.setIfInBounds_toArray, List.set_cons_zero, List.set_cons_succ]), ?_, ?_, ?_, ?_, trivial⟩
    · obtain ⟨h5, h6, h7, h8, h9, h10, h11, h12, h13, h14, h15, h16, h17, h18, h19, h20, h21, _⟩ := hR.out
      exact Lib.hid ⟨fun h => h5 (by simpa using h), fun h => h6 (by simpa using h), fun h => h7 (by simpa using h), fun _ => rfl, fun _ => rfl, fun h => h10 (by simpa using h), fun h => h11 (by simpa using h), fun h => h12 (by simpa using h), fun h => h13 (by simpa using h), fun h => h14 (by simpa using h), fun h => h15 (by simpa using h), fun h => h16 (by simpa using h), fun h => h17 (by simpa using h), fun h => h18 (by simpa using h), fun h => h19 (by simpa using h), fun h => h20 (by simpa using h), fun h => h21 (by simpa using h), trivial⟩
    · exact hX
    · exact ⟨_, _, hPB4.out, fun h => hPT4.out (by simpa using h), fun h => ⟨rfl, rfl⟩⟩
    · exact fun h => (by have h1 := hQ4 (by simpa using h); simp [h1])
  case x1hs5 =>
    intro s a' w' hsk hdep hI K hK
    try dsimp only at hI hK
    obtain ⟨v5, v6, v7, v8, v9, v10, v11, v12, v13, v14, v15, v16, v17, v18, v19, v20, v21, hact, hR, hX, hP4, hQ4, _⟩ := hI
    subst hact
    have HK := Lib.hid hK
    clear hK
    have e6 : v6 = .int .i64 a := by obtain ⟨h5, h6, h7, h8, h9, h10, h11, h12, h13, h14, h15, h16, h17, h18, h19, h20, h21, _⟩ := hR.out; exact h6 (hdep ⟨1, .data⟩ (by simp) rfl)
    subst e6
    have e9 : v9 = .int .i64 (2 * m + 1) := by obtain ⟨h5, h6, h7, h8, h9, h10, h11, h12, h13, h14, h15, h16, h17, h18, h19, h20, h21, _⟩ := hR.out; exact h9 (hdep ⟨4, .data⟩ (by simp) rfl)
    subst e9
    have kc0 : w'.cell? ⟨w.heap.size, 0, none⟩ = some (.int .i64 a) := hX.cell (by first | (simp; done) | (simp; omega)) (by first | assumption | (go_simp; done) | (simp; done))
    have kc1 : w'.cell? ⟨w.heap.size, 1, none⟩ = some (.int .i64 b) := hX.cell (by first | (simp; done) | (simp; omega)) (by first | assumption | (go_simp; done) | (simp; done))
    obtain ⟨b4_0, b4_1, pb4, pt4, pf4⟩ := hP4
    have hs0 : s 17 = false := Bool.eq_false_iff.2 fun h => (by have := hQ4 h; simp [hsk] at this)
    obtain ⟨q4_0, q4_1⟩ := pf4 hs0
    subst q4_0
    subst q4_1
    clear hs0
    have kp4_0 := cell_of_row w' (w.heap.size + 1) 0 _ _ _ pb4
    have kp4_1 := cell_of_row w' (w.heap.size + 1) 1 _ _ _ pb4
    simp only [List.getElem?_toArray, List.getElem?_cons_zero, List.getElem?_cons_succ] at kp4_0 kp4_1
    have kq4 : ∀ o, w'.frozen? ⟨w.heap.size + 1, o, none⟩ = false := fun o => frozen_of_row w' _ o _ _ pb4
    have hPB4 := Lib.hid pb4
    clear pb4
    have hPT4 := Lib.hid pt4
    clear pt4
    have hPF4 := Lib.hid pf4
    clear pf4
    clear hdep
    refine StepG.mk rfl ?_; rw [ha0]; simp only [putL, Act.put, List.setIfInBounds_toArray, List.set_cons_zero, List.set_cons_succ]
    go_wp2_with fail
    refine ((HA.out _)).mono ?_
    rintro e wn ⟨rfl, hb⟩
    go_wp2_with fail
    refine HK.out _ _ ?_
    refine ⟨v5, (.int .i64 a), v7, v8, (.int .i64 (2 * m + 1)), (.int .i64 U1), v11, v12, v13, v14, v15, v16, v17, v18, v19, v20, v21, (by rw [ha0]; simp only [putL, Act.put, List.setIfInBounds_toArray, List.set_cons_zero, List.set_cons_succ]), ?_, ?_, ?_, ?_, trivial⟩
    · obtain ⟨h5, h6, h7, h8, h9, h10, h11, h12, h13, h14, h15, h16, h17, h18, h19, h20, h21, _⟩ := hR.out
      exact Lib.hid ⟨fun h => h5 (by simpa using h), fun _ => rfl, fun h => h7 (by simpa using h), fun h => h8 (by simpa using h), fun _ => rfl, fun _ => rfl, fun h => h11 (by simpa using h), fun h => h12 (by simpa using h), fun h => h13 (by simpa using h), fun h => h14 (by simpa using h), fun h => h15 (by simpa using h), fun h => h16 (by simpa using h), fun h => h17 (by simpa using h), fun h => h18 (by simpa using h), fun h => h19 (by simpa using h), fun h => h20 (by simpa using h), fun h => h21 (by simpa using h), trivial⟩
    · exact hX.call hb
    · exact ⟨_, _, (hb.block _ (blk_lt hPB4.out)).trans hPB4.out, fun h => hPT4.out (by simpa using h), fun h => ⟨rfl, rfl⟩⟩
    · exact fun h => (by have h1 := hQ4 (by simpa using h); simp [h1])
  case x1hs6 =>
    intro s a' w' hsk hdep hI K hK
    try dsimp only at hI hK
    obtain ⟨v5, v6, v7, v8, v9, v10, v11, v12, v13, v14, v15, v16, v17, v18, v19, v20, v21, hact, hR, hX, hP4, hQ4, _⟩ := hI
    subst hact
    have HK := Lib.hid hK
    clear hK
    have kc0 : w'.cell? ⟨w.heap.size, 0, none⟩ = some (.int .i64 a) := hX.cell (by first | (simp; done) | (simp; omega)) (by first | assumption | (go_simp; done) | (simp; done))
    have kc1 : w'.cell? ⟨w.heap.size, 1, none⟩ = some (.int .i64 b) := hX.cell (by first | (simp; done) | (simp; omega)) (by first | assumption | (go_simp; done) | (simp; done))
    obtain ⟨b4_0, b4_1, pb4, pt4, pf4⟩ := hP4
    have hs0 : s 17 = false := Bool.eq_false_iff.2 fun h => (by have := hQ4 h; simp [hsk] at this)
    obtain ⟨q4_0, q4_1⟩ := pf4 hs0
    subst q4_0
    subst q4_1
    clear hs0
    have kp4_0 := cell_of_row w' (w.heap.size + 1) 0 _ _ _ pb4
    have kp4_1 := cell_of_row w' (w.heap.size + 1) 1 _ _ _ pb4
    simp only [List.getElem?_toArray, List.getElem?_cons_zero, List.getElem?_cons_succ] at kp4_0 kp4_1
    have kq4 : ∀ o, w'.frozen? ⟨w.heap.size + 1, o, none⟩ = false := fun o => frozen_of_row w' _ o _ _ pb4
    have hPB4 := Lib.hid pb4
    clear pb4
    have hPT4 := Lib.hid pt4
    clear pt4
    have hPF4 := Lib.hid pf4
    clear pf4
    clear hdep
    refine StepG.mk rfl ?_; rw [ha0]; simp only [putL, Act.put, List.setIfInBounds_toArray, List.set_cons_zero, List.set_cons_succ]
    go_wp2_with fail
    refine HK.out _ _ ?_
    refine ⟨v5, v6, v7, v8, v9, v10, (.int .i64 m), v12, v13, v14, v15, v16, v17, v18, v19, v20, v21, (by rw [ha0]; simp only [putL, Act.put, List.setIfInBounds_toArray, List.set_cons_zero, List.set_cons_succ]), ?_, ?_, ?_, ?_, trivial⟩
    · obtain ⟨h5, h6, h7, h8, h9, h10, h11, h12, h13, h14, h15, h16, h17, h18, h19, h20, h21, _⟩ := hR.out
      exact Lib.hid ⟨fun h => h5 (by simpa using h), fun h => h6 (by simpa using h), fun h => h7 (by simpa using h), fun h => h8 (by simpa using h), fun h => h9 (by simpa using h), fun h => h10 (by simpa using h), fun _ => rfl, fun h => h12 (by simpa using h), fun h => h13 (by simpa using h), fun h => h14 (by simpa using h), fun h => h15 (by simpa using h), fun h => h16 (by simpa using h), fun h => h17 (by simpa using h), fun h => h18 (by simpa using h), fun h => h19 (by simpa using h), fun h => h20 (by simpa using h), fun h => h21 (by simpa using h), trivial⟩
    · exact hX
    · exact ⟨_, _, hPB4.out, fun h => hPT4.out (by simpa using h), fun h => ⟨rfl, rfl⟩⟩
    · exact fun h => (by have h1 := hQ4 (by simpa using h); simp [h1])
  case x1hs7 =>
    intro s a' w' hsk hdep hI K hK
    try dsimp only at hI hK
    obtain ⟨v5, v6, v7, v8, v9, v10, v11, v12, v13, v14, v15, v16, v17, v18, v19, v20, v21, hact, hR, hX, hP4, hQ4, _⟩ := hI
    subst hact
    have HK := Lib.hid hK
    clear hK
    have e10 : v10 = .int .i64 U1 := by obtain ⟨h5, h6, h7, h8, h9, h10, h11, h12, h13, h14, h15, h16, h17, h18, h19, h20, h21, _⟩ := hR.out; exact h10 (hdep ⟨5, .data⟩ (by simp) rfl)
    subst e10
    have e11 : v11 = .int .i64 m := by obtain ⟨h5, h6, h7, h8, h9, h10, h11, h12, h13, h14, h15, h16, h17, h18, h19, h20, h21, _⟩ := hR.out; exact h11 (hdep ⟨6, .data⟩ (by simp) rfl)
    subst e11
    have kc0 : w'.cell? ⟨w.heap.size, 0, none⟩ = some (.int .i64 a) := hX.cell (by first | (simp; done) | (simp; omega)) (by first | assumption | (go_simp; done) | (simp; done))
    have kc1 : w'.cell? ⟨w.heap.size, 1, none⟩ = some (.int .i64 b) := hX.cell (by first | (simp; done) | (simp; omega)) (by first | assumption | (go_simp; done) | (simp; done))
    obtain ⟨b4_0, b4_1, pb4, pt4, pf4⟩ := hP4
    have hs0 : s 17 = false := Bool.eq_false_iff.2 fun h => (by have := hQ4 h; simp [hsk] at this)
    obtain ⟨q4_0, q4_1⟩ := pf4 hs0
    subst q4_0
    subst q4_1
    clear hs0
    have kp4_0 := cell_of_row w' (w.heap.size + 1) 0 _ _ _ pb4
    have kp4_1 := cell_of_row w' (w.heap.size + 1) 1 _ _ _ pb4
    simp only [List.getElem?_toArray, List.getElem?_cons_zero, List.getElem?_cons_succ] at kp4_0 kp4_1
    have kq4 : ∀ o, w'.frozen? ⟨w.heap.size + 1, o, none⟩ = false := fun o => frozen_of_row w' _ o _ _ pb4
    have hPB4 := Lib.hid pb4
    clear pb4
    have hPT4 := Lib.hid pt4
    clear pt4
    have hPF4 := Lib.hid pf4
    clear pf4
    clear hdep
    refine StepG.mk rfl ?_; rw [ha0]; simp only [putL, Act.put, List.setIfInBounds_toArray, List.set_cons_zero, List.set_cons_succ]
    go_wp2_with fail
    refine HK.out _ _ ?_
    refine ⟨v5, v6, v7, v8, v9, (.int .i64 U1), (.int .i64 m), (.int .i64 (U1 - m)), v13, v14, v15, v16, v17, v18, v19, v20, v21, (by rw [ha0]; simp only [putL, Act.put, List.setIfInBounds_toArray, List.set_cons_zero, List.set_cons_succ]), ?_, ?_, ?_, ?_, trivial⟩
    · obtain ⟨h5, h6, h7, h8, h9, h10, h11, h12, h13, h14, h15, h16, h17, h18, h19, h20, h21, _⟩ := hR.out
      exact Lib.hid ⟨fun h => h5 (by simpa using h), fun h => h6 (by simpa using h), fun h => h7 (by simpa using h), fun h => h8 (by simpa using h), fun h => h9 (by simpa using h), fun _ => rfl, fun _ => rfl, fun _ => rfl, fun h => h13 (by simpa using h), fun h => h14 (by simpa using h), fun h => h15 (by simpa using h), fun h => h16 (by simpa using h), fun h => h17 (by simpa using h), fun h => h18 (by simpa using h), fun h => h19 (by simpa using h), fun h => h20 (by simpa using h), fun h => h21 (by simpa using h), trivial⟩
    · exact hX
    · exact ⟨_, _, hPB4.out, fun h => hPT4.out (by simpa using h), fun h => ⟨rfl, rfl⟩⟩
    · exact fun h => (by have h1 := hQ4 (by simpa using h); simp [h1])
  case x1hs8 =>
    intro s a' w' hsk hdep hI K hK
    try dsimp only at hI hK
    obtain ⟨v5, v6, v7, v8, v9, v10, v11, v12, v13, v14, v15, v16, v17, v18, v19, v20, v21, hact, hR, hX, hP4, hQ4, _⟩ := hI
    subst hact
    have HK := Lib.hid hK
    clear hK
    have kc0 : w'.cell? ⟨w.heap.size, 0, none⟩ = some (.int .i64 a) := hX.cell (by first | (simp; done) | (simp; omega)) (by first | assumption | (go_simp; done) | (simp; done))
    have kc1 : w'.cell? ⟨w.heap.size, 1, none⟩ = some (.int .i64 b) := hX.cell (by first | (simp; done) | (simp; omega)) (by first | assumption | (go_simp; done) | (simp; done))
    obtain ⟨b4_0, b4_1, pb4, pt4, pf4⟩ := hP4
    have hs0 : s 17 = false := Bool.eq_false_iff.2 fun h => (by have := hQ4 h; simp [hsk] at this)
    obtain ⟨q4_0, q4_1⟩ := pf4 hs0
    subst q4_0
    subst q4_1
    clear hs0
    have kp4_0 := cell_of_row w' (w.heap.size + 1) 0 _ _ _ pb4
    have kp4_1 := cell_of_row w' (w.heap.size + 1) 1 _ _ _ pb4
    simp only [List.getElem?_toArray, List.getElem?_cons_zero, List.getElem?_cons_succ] at kp4_0 kp4_1
    have kq4 : ∀ o, w'.frozen? ⟨w.heap.size + 1, o, none⟩ = false := fun o => frozen_of_row w' _ o _ _ pb4
    have hPB4 := Lib.hid pb4
    clear pb4
    have hPT4 := Lib.hid pt4
    clear pt4
    have hPF4 := Lib.hid pf4
    clear pf4
    clear hdep
    refine StepG.mk rfl ?_; rw [ha0]; simp only [putL, Act.put, List.setIfInBounds_toArray, List.set_cons_zero, List.set_cons_succ]
    go_wp2_with fail
    refine HK.out _ _ ?_
    refine ⟨v5, v6, v7, v8, v9, v10, v11, v12, (.pointer (some ⟨w.heap.size, 1, none⟩)), v14, v15, v16, v17, v18, v19, v20, v21, (by rw [ha0]; simp only [putL, Act.put, List.setIfInBounds_toArray, List.set_cons_zero, List.set_cons_succ]), ?_, ?_, ?_, ?_, trivial⟩
    · obtain ⟨h5, h6, h7, h8, h9, h10, h11, h12, h13, h14, h15, h16, h17, h18, h19, h20, h21, _⟩ := hR.out
      exact Lib.hid ⟨fun h => h5 (by simpa using h), fun h => h6 (by simpa using h), fun h => h7 (by simpa using h), fun h => h8 (by simpa using h), fun h => h9 (by simpa using h), fun h => h10 (by simpa using h), fun h => h11 (by simpa using h), fun h => h12 (by simpa using h), fun _ => rfl, fun h => h14 (by simpa using h), fun h => h15 (by simpa using h), fun h => h16 (by simpa using h), fun h => h17 (by simpa using h), fun h => h18 (by simpa using h), fun h => h19 (by simpa using h), fun h => h20 (by simpa using h), fun h => h21 (by simpa using h), trivial⟩
    · exact hX
    · exact ⟨_, _, hPB4.out, fun h => hPT4.out (by simpa using h), fun h => ⟨rfl, rfl⟩⟩
    · exact fun h => (by have h1 := hQ4 (by simpa using h); simp [h1])
  case x1hs9 =>
    intro s a' w' hsk hdep hI K hK
    try dsimp only at hI hK
    obtain ⟨v5, v6, v7, v8, v9, v10, v11, v12, v13, v14, v15, v16, v17, v18, v19, v20, v21, hact, hR, hX, hP4, hQ4, _⟩ := hI
    subst hact
    have HK := Lib.hid hK
    clear hK
    have e13 : v13 = .pointer (some ⟨w.heap.size, 1, none⟩) := by obtain ⟨h5, h6, h7, h8, h9, h10, h11, h12, h13, h14, h15, h16, h17, h18, h19, h20, h21, _⟩ := hR.out; exact h13 (hdep ⟨8, .data⟩ (by simp) rfl)
    subst e13
    have kc0 : w'.cell? ⟨w.heap.size, 0, none⟩ = some (.int .i64 a) := hX.cell (by first | (simp; done) | (simp; omega)) (by first | assumption | (go_simp; done) | (simp; done))
    have kc1 : w'.cell? ⟨w.heap.size, 1, none⟩ = some (.int .i64 b) := hX.cell (by first | (simp; done) | (simp; omega)) (by first | assumption | (go_simp; done) | (simp; done))
    obtain ⟨b4_0, b4_1, pb4, pt4, pf4⟩ := hP4
    have hs0 : s 17 = false := Bool.eq_false_iff.2 fun h => (by have := hQ4 h; simp [hsk] at this)
    obtain ⟨q4_0, q4_1⟩ := pf4 hs0
    subst q4_0
    subst q4_1
    clear hs0
    have kp4_0 := cell_of_row w' (w.heap.size + 1) 0 _ _ _ pb4
    have kp4_1 := cell_of_row w' (w.heap.size + 1) 1 _ _ _ pb4
    simp only [List.getElem?_toArray, List.getElem?_cons_zero, List.getElem?_cons_succ] at kp4_0 kp4_1
    have kq4 : ∀ o, w'.frozen? ⟨w.heap.size + 1, o, none⟩ = false := fun o => frozen_of_row w' _ o _ _ pb4
    have hPB4 := Lib.hid pb4
    clear pb4
    have hPT4 := Lib.hid pt4
    clear pt4
    have hPF4 := Lib.hid pf4
    clear pf4
    clear hdep
    refine StepG.mk rfl ?_; rw [ha0]; simp only [putL, Act.put, List.setIfInBounds_toArray, List.set_cons_zero, List.set_cons_succ]
    go_wp2_with fail
    refine HK.out _ _ ?_
    refine ⟨v5, v6, v7, v8, v9, v10, v11, v12, (.pointer (some ⟨w.heap.size, 1, none⟩)), (.int .i64 b), v15, v16, v17, v18, v19, v20, v21, (by rw [ha0]; simp only [putL, Act.put, List.setIfInBounds_toArray, List.set_cons_zero, List.set_cons_succ]), ?_, ?_, ?_, ?_, trivial⟩
    · obtain ⟨h5, h6, h7, h8, h9, h10, h11, h12, h13, h14, h15, h16, h17, h18, h19, h20, h21, _⟩ := hR.out
      exact Lib.hid ⟨fun h => h5 (by simpa using h), fun h => h6 (by simpa using h), fun h => h7 (by simpa using h), fun h => h8 (by simpa using h), fun h => h9 (by simpa using h), fun h => h10 (by simpa using h), fun h => h11 (by simpa using h), fun h => h12 (by simpa using h), fun _ => rfl, fun _ => rfl, fun h => h15 (by simpa using h), fun h => h16 (by simpa using h), fun h => h17 (by simpa using h), fun h => h18 (by simpa using h), fun h => h19 (by simpa using h), fun h => h20 (by simpa using h), fun h => h21 (by simpa using h), trivial⟩
    · exact hX
    · exact ⟨_, _, hPB4.out, fun h => hPT4.out (by simpa using h), fun h => ⟨rfl, rfl⟩⟩
    · exact fun h => (by have h1 := hQ4 (by simpa using h); simp [h1])
  case x1hs10 =>
    intro s a' w' hsk hdep hI K hK
    try dsimp only at hI hK
    obtain ⟨v5, v6, v7, v8, v9, v10, v11, v12, v13, v14, v15, v16, v17, v18, v19, v20, v21, hact, hR, hX, hP4, hQ4, _⟩ := hI
    subst hact
    have HK := Lib.hid hK
    clear hK
    have kc0 : w'.cell? ⟨w.heap.size, 0, none⟩ = some (.int .i64 a) := hX.cell (by first | (simp; done) | (simp; omega)) (by first | assumption | (go_simp; done) | (simp; done))
    have kc1 : w'.cell? ⟨w.heap.size, 1, none⟩ = some (.int .i64 b) := hX.cell (by first | (simp; done) | (simp; omega)) (by first | assumption | (go_simp; done) | (simp; done))
    obtain ⟨b4_0, b4_1, pb4, pt4, pf4⟩ := hP4
    have hs0 : s 17 = false := Bool.eq_false_iff.2 fun h => (by have := hQ4 h; simp [hsk] at this)
    obtain ⟨q4_0, q4_1⟩ := pf4 hs0
    subst q4_0
    subst q4_1
    clear hs0
    have kp4_0 := cell_of_row w' (w.heap.size + 1) 0 _ _ _ pb4
    have kp4_1 := cell_of_row w' (w.heap.size + 1) 1 _ _ _ pb4
    simp only [List.getElem?_toArray, List.getElem?_cons_zero, List.getElem?_cons_succ] at kp4_0 kp4_1
    have kq4 : ∀ o, w'.frozen? ⟨w.heap.size + 1, o, none⟩ = false := fun o => frozen_of_row w' _ o _ _ pb4
    have hPB4 := Lib.hid pb4
    clear pb4
    have hPT4 := Lib.hid pt4
    clear pt4
    have hPF4 := Lib.hid pf4
    clear pf4
    clear hdep
    refine StepG.mk rfl ?_; rw [ha0]; simp only [putL, Act.put, List.setIfInBounds_toArray, List.set_cons_zero, List.set_cons_succ]
    go_wp2_with fail
    refine HK.out _ _ ?_
    refine ⟨v5, v6, v7, v8, v9, v10, v11, v12, v13, v14, (.int .i64 m), v16, v17, v18, v19, v20, v21, (by rw [ha0]; simp only [putL, Act.put, List.setIfInBounds_toArray, List.set_cons_zero, List.set_cons_succ]), ?_, ?_, ?_, ?_, trivial⟩
    · obtain ⟨h5, h6, h7, h8, h9, h10, h11, h12, h13, h14, h15, h16, h17, h18, h19, h20, h21, _⟩ := hR.out
      exact Lib.hid ⟨fun h => h5 (by simpa using h), fun h => h6 (by simpa using h), fun h => h7 (by simpa using h), fun h => h8 (by simpa using h), fun h => h9 (by simpa using h), fun h => h10 (by simpa using h), fun h => h11 (by simpa using h), fun h => h12 (by simpa using h), fun h => h13 (by simpa using h), fun h => h14 (by simpa using h), fun _ => rfl, fun h => h16 (by simpa using h), fun h => h17 (by simpa using h), fun h => h18 (by simpa using h), fun h => h19 (by simpa using h), fun h => h20 (by simpa using h), fun h => h21 (by simpa using h), trivial⟩
    · exact hX
    · exact ⟨_, _, hPB4.out, fun h => hPT4.out (by simpa using h), fun h => ⟨rfl, rfl⟩⟩
    · exact fun h => (by have h1 := hQ4 (by simpa using h); simp [h1])
  case x1hs11 =>
    intro s a' w' hsk hdep hI K hK
    try dsimp only at hI hK
    obtain ⟨v5, v6, v7, v8, v9, v10, v11, v12, v13, v14, v15, v16, v17, v18, v19, v20, v21, hact, hR, hX, hP4, hQ4, _⟩ := hI
    subst hact
    have HK := Lib.hid hK
    clear hK
    have e15 : v15 = .int .i64 m := by obtain ⟨h5, h6, h7, h8, h9, h10, h11, h12, h13, h14, h15, h16, h17, h18, h19, h20, h21, _⟩ := hR.out; exact h15 (hdep ⟨10, .data⟩ (by simp) rfl)
    subst e15
    have kc0 : w'.cell? ⟨w.heap.size, 0, none⟩ = some (.int .i64 a) := hX.cell (by first | (simp; done) | (simp; omega)) (by first | assumption | (go_simp; done) | (simp; done))
    have kc1 : w'.cell? ⟨w.heap.size, 1, none⟩ = some (.int .i64 b) := hX.cell (by first | (simp; done) | (simp; omega)) (by first | assumption | (go_simp; done) | (simp; done))
    obtain ⟨b4_0, b4_1, pb4, pt4, pf4⟩ := hP4
    have hs0 : s 17 = false := Bool.eq_false_iff.2 fun h => (by have := hQ4 h; simp [hsk] at this)
    obtain ⟨q4_0, q4_1⟩ := pf4 hs0
    subst q4_0
    subst q4_1
    clear hs0
    have kp4_0 := cell_of_row w' (w.heap.size + 1) 0 _ _ _ pb4
    have kp4_1 := cell_of_row w' (w.heap.size + 1) 1 _ _ _ pb4
    simp only [List.getElem?_toArray, List.getElem?_cons_zero, List.getElem?_cons_succ] at kp4_0 kp4_1
    have kq4 : ∀ o, w'.frozen? ⟨w.heap.size + 1, o, none⟩ = false := fun o => frozen_of_row w' _ o _ _ pb4
    have hPB4 := Lib.hid pb4
    clear pb4
    have hPT4 := Lib.hid pt4
    clear pt4
    have hPF4 := Lib.hid pf4
    clear pf4
    clear hdep
    refine StepG.mk rfl ?_; rw [ha0]; simp only [putL, Act.put, List.setIfInBounds_toArray, List.set_cons_zero, List.set_cons_succ]
    go_wp2_with fail
    refine HK.out _ _ ?_
    refine ⟨v5, v6, v7, v8, v9, v10, v11, v12, v13, v14, (.int .i64 m), (.int .i64 (2 * m)), v17, v18, v19, v20, v21, (by rw [ha0]; simp only [putL, Act.put, List.setIfInBounds_toArray, List.set_cons_zero, List.set_cons_succ]), ?_, ?_, ?_, ?_, trivial⟩
    · obtain ⟨h5, h6, h7, h8, h9, h10, h11, h12, h13, h14, h15, h16, h17, h18, h19, h20, h21, _⟩ := hR.out
      exact Lib.hid ⟨fun h => h5 (by simpa using h), fun h => h6 (by simpa using h), fun h => h7 (by simpa using h), fun h => h8 (by simpa using h), fun h => h9 (by simpa using h), fun h => h10 (by simpa using h), fun h => h11 (by simpa using h), fun h => h12 (by simpa using h), fun h => h13 (by simpa using h), fun h => h14 (by simpa using h), fun _ => rfl, fun _ => rfl, fun h => h17 (by simpa using h), fun h => h18 (by simpa using h), fun h => h19 (by simpa using h), fun h => h20 (by simpa using h), fun h => h21 (by simpa using h), trivial⟩
    · exact hX
    · exact ⟨_, _, hPB4.out, fun h => hPT4.out (by simpa using h), fun h => ⟨rfl, rfl⟩⟩
    · exact fun h => (by have h1 := hQ4 (by simpa using h); simp [h1])
  case x1hs12 =>
    intro s a' w' hsk hdep hI K hK
    try dsimp only at hI hK
    obtain ⟨v5, v6, v7, v8, v9, v10, v11, v12, v13, v14, v15, v16, v17, v18, v19, v20, v21, hact, hR, hX, hP4, hQ4, _⟩ := hI
    subst hact
    have HK := Lib.hid hK
    clear hK
    have e16 : v16 = .int .i64 (2 * m) := by obtain ⟨h5, h6, h7, h8, h9, h10, h11, h12, h13, h14, h15, h16, h17, h18, h19, h20, h21, _⟩ := hR.out; exact h16 (hdep ⟨11, .data⟩ (by simp) rfl)
    subst e16
    have kc0 : w'.cell? ⟨w.heap.size, 0, none⟩ = some (.int .i64 a) := hX.cell (by first | (simp; done) | (simp; omega)) (by first | assumption | (go_simp; done) | (simp; done))
    have kc1 : w'.cell? ⟨w.heap.size, 1, none⟩ = some (.int .i64 b) := hX.cell (by first | (simp; done) | (simp; omega)) (by first | assumption | (go_simp; done) | (simp; done))
    obtain ⟨b4_0, b4_1, pb4, pt4, pf4⟩ := hP4
    have hs0 : s 17 = false := Bool.eq_false_iff.2 fun h => (by have := hQ4 h; simp [hsk] at this)
    obtain ⟨q4_0, q4_1⟩ := pf4 hs0
    subst q4_0
    subst q4_1
    clear hs0
    have kp4_0 := cell_of_row w' (w.heap.size + 1) 0 _ _ _ pb4
    have kp4_1 := cell_of_row w' (w.heap.size + 1) 1 _ _ _ pb4
    simp only [List.getElem?_toArray, List.getElem?_cons_zero, List.getElem?_cons_succ] at kp4_0 kp4_1
    have kq4 : ∀ o, w'.frozen? ⟨w.heap.size + 1, o, none⟩ = false := fun o => frozen_of_row w' _ o _ _ pb4
    have hPB4 := Lib.hid pb4
    clear pb4
    have hPT4 := Lib.hid pt4
    clear pt4
    have hPF4 := Lib.hid pf4
    clear pf4
    clear hdep
    refine StepG.mk rfl ?_; rw [ha0]; simp only [putL, Act.put, List.setIfInBounds_toArray, List.set_cons_zero, List.set_cons_succ]
    go_wp2_with fail
    refine HK.out _ _ ?_
    refine ⟨v5, v6, v7, v8, v9, v10, v11, v12, v13, v14, v15, (.int .i64 (2 * m)), (.int .i64 (2 * m + 1)), v18, v19, v20, v21, (by rw [ha0]; simp only [putL, Act.put, List.setIfInBounds_toArray, List.set_cons_zero, List.set_cons_succ]), ?_, ?_, ?_, ?_, trivial⟩
    · obtain ⟨h5, h6, h7, h8, h9, h10, h11, h12, h13, h14, h15, h16, h17, h18, h19, h20, h21, _⟩ := hR.out
      exact Lib.hid ⟨fun h => h5 (by simpa using h), fun h => h6 (by simpa using h), fun h => h7 (by simpa using h), fun h => h8 (by simpa using h), fun h => h9 (by simpa using h), fun h => h10 (by simpa using h), fun h => h11 (by simpa using h), fun h => h12 (by simpa using h), fun h => h13 (by simpa using h), fun h => h14 (by simpa using h), fun h => h15 (by simpa using h), fun _ => rfl, fun _ => rfl, fun h => h18 (by simpa using h), fun h => h19 (by simpa using h), fun h => h20 (by simpa using h), fun h => h21 (by simpa using h), trivial⟩
    · exact hX
    · exact ⟨_, _, hPB4.out, fun h => hPT4.out (by simpa using h), fun h => ⟨rfl, rfl⟩⟩
    · exact fun h => (by have h1 := hQ4 (by simpa using h); simp [h1])
  case x1hs13 =>
    intro s a' w' hsk hdep hI K hK
    try dsimp only at hI hK
    obtain ⟨v5, v6, v7, v8, v9, v10, v11, v12, v13, v14, v15, v16, v17, v18, v19, v20, v21, hact, hR, hX, hP4, hQ4, _⟩ := hI
    subst hact
    have HK := Lib.hid hK
    clear hK
    have e14 : v14 = .int .i64 b := by obtain ⟨h5, h6, h7, h8, h9, h10, h11, h12, h13, h14, h15, h16, h17, h18, h19, h20, h21, _⟩ := hR.out; exact h14 (hdep ⟨9, .data⟩ (by simp) rfl)
    subst e14
    have e17 : v17 = .int .i64 (2 * m + 1) := by obtain ⟨h5, h6, h7, h8, h9, h10, h11, h12, h13, h14, h15, h16, h17, h18, h19, h20, h21, _⟩ := hR.out; exact h17 (hdep ⟨12, .data⟩ (by simp) rfl)
    subst e17
    have kc0 : w'.cell? ⟨w.heap.size, 0, none⟩ = some (.int .i64 a) := hX.cell (by first | (simp; done) | (simp; omega)) (by first | assumption | (go_simp; done) | (simp; done))
    have kc1 : w'.cell? ⟨w.heap.size, 1, none⟩ = some (.int .i64 b) := hX.cell (by first | (simp; done) | (simp; omega)) (by first | assumption | (go_simp; done) | (simp; done))
    obtain ⟨b4_0, b4_1, pb4, pt4, pf4⟩ := hP4
    have hs0 : s 17 = false := Bool.eq_false_iff.2 fun h => (by have := hQ4 h; simp [hsk] at this)
    obtain ⟨q4_0, q4_1⟩ := pf4 hs0
    subst q4_0
    subst q4_1
    clear hs0
    have kp4_0 := cell_of_row w' (w.heap.size + 1) 0 _ _ _ pb4
    have kp4_1 := cell_of_row w' (w.heap.size + 1) 1 _ _ _ pb4
    simp only [List.getElem?_toArray, List.getElem?_cons_zero, List.getElem?_cons_succ] at kp4_0 kp4_1
    have kq4 : ∀ o, w'.frozen? ⟨w.heap.size + 1, o, none⟩ = false := fun o => frozen_of_row w' _ o _ _ pb4
    have hPB4 := Lib.hid pb4
    clear pb4
    have hPT4 := Lib.hid pt4
    clear pt4
    have hPF4 := Lib.hid pf4
    clear pf4
    clear hdep
    refine StepG.mk rfl ?_; rw [ha0]; simp only [putL, Act.put, List.setIfInBounds_toArray, List.set_cons_zero, List.set_cons_succ]
    go_wp2_with fail
    refine ((HB.out _)).mono ?_
    rintro e wn ⟨rfl, hb⟩
    go_wp2_with fail
    refine HK.out _ _ ?_
    refine ⟨v5, v6, v7, v8, v9, v10, v11, v12, v13, (.int .i64 b), v15, v16, (.int .i64 (2 * m + 1)), (.int .i64 V1), v19, v20, v21, (by rw [ha0]; simp only [putL, Act.put, List.setIfInBounds_toArray, List.set_cons_zero, List.set_cons_succ]), ?_, ?_, ?_, ?_, trivial⟩
    · obtain ⟨h5, h6, h7, h8, h9, h10, h11, h12, h13, h14, h15, h16, h17, h18, h19, h20, h21, _⟩ := hR.out
      exact Lib.hid ⟨fun h => h5 (by simpa using h), fun h => h6 (by simpa using h), fun h => h7 (by simpa using h), fun h => h8 (by simpa using h), fun h => h9 (by simpa using h), fun h => h10 (by simpa using h), fun h => h11 (by simpa using h), fun h => h12 (by simpa using h), fun h => h13 (by simpa using h), fun _ => rfl, fun h => h15 (by simpa using h), fun h => h16 (by simpa using h), fun _ => rfl, fun _ => rfl, fun h => h19 (by simpa using h), fun h => h20 (by simpa using h), fun h => h21 (by simpa using h), trivial⟩
    · exact hX.call hb
    · exact ⟨_, _, (hb.block _ (blk_lt hPB4.out)).trans hPB4.out, fun h => hPT4.out (by simpa using h), fun h => ⟨rfl, rfl⟩⟩
    · exact fun h => (by have h1 := hQ4 (by simpa using h); simp [h1])
  case x1hs14 =>
    intro s a' w' hsk hdep hI K hK
    try dsimp only at hI hK
    obtain ⟨v5, v6, v7, v8, v9, v10, v11, v12, v13, v14, v15, v16, v17, v18, v19, v20, v21, hact, hR, hX, hP4, hQ4, _⟩ := hI
    subst hact
    have HK := Lib.hid hK
    clear hK
    have kc0 : w'.cell? ⟨w.heap.size, 0, none⟩ = some (.int .i64 a) := hX.cell (by first | (simp; done) | (simp; omega)) (by first | assumption | (go_simp; done) | (simp; done))
    have kc1 : w'.cell? ⟨w.heap.size, 1, none⟩ = some (.int .i64 b) := hX.cell (by first | (simp; done) | (simp; omega)) (by first | assumption | (go_simp; done) | (simp; done))
    obtain ⟨b4_0, b4_1, pb4, pt4, pf4⟩ := hP4
    have hs0 : s 17 = false := Bool.eq_false_iff.2 fun h => (by have := hQ4 h; simp [hsk] at this)
    obtain ⟨q4_0, q4_1⟩ := pf4 hs0
    subst q4_0
    subst q4_1
    clear hs0
    have kp4_0 := cell_of_row w' (w.heap.size + 1) 0 _ _ _ pb4
    have kp4_1 := cell_of_row w' (w.heap.size + 1) 1 _ _ _ pb4
    simp only [List.getElem?_toArray, List.getElem?_cons_zero, List.getElem?_cons_succ] at kp4_0 kp4_1
    have kq4 : ∀ o, w'.frozen? ⟨w.heap.size + 1, o, none⟩ = false := fun o => frozen_of_row w' _ o _ _ pb4
    have hPB4 := Lib.hid pb4
    clear pb4
    have hPT4 := Lib.hid pt4
    clear pt4
    have hPF4 := Lib.hid pf4
    clear pf4
    clear hdep
    refine StepG.mk rfl ?_; rw [ha0]; simp only [putL, Act.put, List.setIfInBounds_toArray, List.set_cons_zero, List.set_cons_succ]
    go_wp2_with fail
    refine HK.out _ _ ?_
    refine ⟨v5, v6, v7, v8, v9, v10, v11, v12, v13, v14, v15, v16, v17, v18, (.int .i64 m), v20, v21, (by rw [ha0]; simp only [putL, Act.put, List.setIfInBounds_toArray, List.set_cons_zero, List.set_cons_succ]), ?_, ?_, ?_, ?_, trivial⟩
    · obtain ⟨h5, h6, h7, h8, h9, h10, h11, h12, h13, h14, h15, h16, h17, h18, h19, h20, h21, _⟩ := hR.out
      exact Lib.hid ⟨fun h => h5 (by simpa using h), fun h => h6 (by simpa using h), fun h => h7 (by simpa using h), fun h => h8 (by simpa using h), fun h => h9 (by simpa using h), fun h => h10 (by simpa using h), fun h => h11 (by simpa using h), fun h => h12 (by simpa using h), fun h => h13 (by simpa using h), fun h => h14 (by simpa using h), fun h => h15 (by simpa using h), fun h => h16 (by simpa using h), fun h => h17 (by simpa using h), fun h => h18 (by simpa using h), fun _ => rfl, fun h => h20 (by simpa using h), fun h => h21 (by simpa using h), trivial⟩
    · exact hX
    · exact ⟨_, _, hPB4.out, fun h => hPT4.out (by simpa using h), fun h => ⟨rfl, rfl⟩⟩
    · exact fun h => (by have h1 := hQ4 (by simpa using h); simp [h1])
  case x1hs15 =>
    intro s a' w' hsk hdep hI K hK
    try dsimp only at hI hK
    obtain ⟨v5, v6, v7, v8, v9, v10, v11, v12, v13, v14, v15, v16, v17, v18, v19, v20, v21, hact, hR, hX, hP4, hQ4, _⟩ := hI
    subst hact
    have HK := Lib.hid hK
    clear hK
    have e18 : v18 = .int .i64 V1 := by obtain ⟨h5, h6, h7, h8, h9, h10, h11, h12, h13, h14, h15, h16, h17, h18, h19, h20, h21, _⟩ := hR.out; exact h18 (hdep ⟨13, .data⟩ (by simp) rfl)
    subst e18
    have e19 : v19 = .int .i64 m := by obtain ⟨h5, h6, h7, h8, h9, h10, h11, h12, h13, h14, h15, h16, h17, h18, h19, h20, h21, _⟩ := hR.out; exact h19 (hdep ⟨14, .data⟩ (by simp) rfl)
    subst e19
    have kc0 : w'.cell? ⟨w.heap.size, 0, none⟩ = some (.int .i64 a) := hX.cell (by first | (simp; done) | (simp; omega)) (by first | assumption | (go_simp; done) | (simp; done))
    have kc1 : w'.cell? ⟨w.heap.size, 1, none⟩ = some (.int .i64 b) := hX.cell (by first | (simp; done) | (simp; omega)) (by first | assumption | (go_simp; done) | (simp; done))
    obtain ⟨b4_0, b4_1, pb4, pt4, pf4⟩ := hP4
    have hs0 : s 17 = false := Bool.eq_false_iff.2 fun h => (by have := hQ4 h; simp [hsk] at this)
    obtain ⟨q4_0, q4_1⟩ := pf4 hs0
    subst q4_0
    subst q4_1
    clear hs0
    have kp4_0 := cell_of_row w' (w.heap.size + 1) 0 _ _ _ pb4
    have kp4_1 := cell_of_row w' (w.heap.size + 1) 1 _ _ _ pb4
    simp only [List.getElem?_toArray, List.getElem?_cons_zero, List.getElem?_cons_succ] at kp4_0 kp4_1
    have kq4 : ∀ o, w'.frozen? ⟨w.heap.size + 1, o, none⟩ = false := fun o => frozen_of_row w' _ o _ _ pb4
    have hPB4 := Lib.hid pb4
    clear pb4
    have hPT4 := Lib.hid pt4
    clear pt4
    have hPF4 := Lib.hid pf4
    clear pf4
    clear hdep
    refine StepG.mk rfl ?_; rw [ha0]; simp only [putL, Act.put, List.setIfInBounds_toArray, List.set_cons_zero, List.set_cons_succ]
    go_wp2_with fail
    refine HK.out _ _ ?_
    refine ⟨v5, v6, v7, v8, v9, v10, v11, v12, v13, v14, v15, v16, v17, (.int .i64 V1), (.int .i64 m), (.int .i64 (V1 - m)), v21, (by rw [ha0]; simp only [putL, Act.put, List.setIfInBounds_toArray, List.set_cons_zero, List.set_cons_succ]), ?_, ?_, ?_, ?_, trivial⟩
    · obtain ⟨h5, h6, h7, h8, h9, h10, h11, h12, h13, h14, h15, h16, h17, h18, h19, h20, h21, _⟩ := hR.out
      exact Lib.hid ⟨fun h => h5 (by simpa using h), fun h => h6 (by simpa using h), fun h => h7 (by simpa using h), fun h => h8 (by simpa using h), fun h => h9 (by simpa using h), fun h => h10 (by simpa using h), fun h => h11 (by simpa using h), fun h => h12 (by simpa using h), fun h => h13 (by simpa using h), fun h => h14 (by simpa using h), fun h => h15 (by simpa using h), fun h => h16 (by simpa using h), fun h => h17 (by simpa using h), fun _ => rfl, fun _ => rfl, fun _ => rfl, fun h => h21 (by simpa using h), trivial⟩
    · exact hX
    · exact ⟨_, _, hPB4.out, fun h => hPT4.out (by simpa using h), fun h => ⟨rfl, rfl⟩⟩
    · exact fun h => (by have h1 := hQ4 (by simpa using h); simp [h1])
  case x1hs16 =>
    intro s a' w' hsk hdep hI K hK
    try dsimp only at hI hK
    obtain ⟨v5, v6, v7, v8, v9, v10, v11, v12, v13, v14, v15, v16, v17, v18, v19, v20, v21, hact, hR, hX, hP4, hQ4, _⟩ := hI
    subst hact
    have HK := Lib.hid hK
    clear hK
    have e12 : v12 = .int .i64 (U1 - m) := by obtain ⟨h5, h6, h7, h8, h9, h10, h11, h12, h13, h14, h15, h16, h17, h18, h19, h20, h21, _⟩ := hR.out; exact h12 (hdep ⟨7, .data⟩ (by simp) rfl)
    subst e12
    have e20 : v20 = .int .i64 (V1 - m) := by obtain ⟨h5, h6, h7, h8, h9, h10, h11, h12, h13, h14, h15, h16, h17, h18, h19, h20, h21, _⟩ := hR.out; exact h20 (hdep ⟨15, .data⟩ (by simp) rfl)
    subst e20
    have kc0 : w'.cell? ⟨w.heap.size, 0, none⟩ = some (.int .i64 a) := hX.cell (by first | (simp; done) | (simp; omega)) (by first | assumption | (go_simp; done) | (simp; done))
    have kc1 : w'.cell? ⟨w.heap.size, 1, none⟩ = some (.int .i64 b) := hX.cell (by first | (simp; done) | (simp; omega)) (by first | assumption | (go_simp; done) | (simp; done))
    obtain ⟨b4_0, b4_1, pb4, pt4, pf4⟩ := hP4
    have hs0 : s 17 = false := Bool.eq_false_iff.2 fun h => (by have := hQ4 h; simp [hsk] at this)
    obtain ⟨q4_0, q4_1⟩ := pf4 hs0
    subst q4_0
    subst q4_1
    clear hs0
    have kp4_0 := cell_of_row w' (w.heap.size + 1) 0 _ _ _ pb4
    have kp4_1 := cell_of_row w' (w.heap.size + 1) 1 _ _ _ pb4
    simp only [List.getElem?_toArray, List.getElem?_cons_zero, List.getElem?_cons_succ] at kp4_0 kp4_1
    have kq4 : ∀ o, w'.frozen? ⟨w.heap.size + 1, o, none⟩ = false := fun o => frozen_of_row w' _ o _ _ pb4
    have hPB4 := Lib.hid pb4
    clear pb4
    have hPT4 := Lib.hid pt4
    clear pt4
    have hPF4 := Lib.hid pf4
    clear pf4
    clear hdep
    refine StepG.mk rfl ?_; rw [ha0]; simp only [putL, Act.put, List.setIfInBounds_toArray, List.set_cons_zero, List.set_cons_succ]
    go_wp2_with fail
    refine HK.out _ _ ?_
    refine ⟨v5, v6, v7, v8, v9, v10, v11, (.int .i64 (U1 - m)), v13, v14, v15, v16, v17, v18, v19, (.int .i64 (V1 - m)), (.agg #[.int .i64 (U1 - m), .int .i64 (V1 - m)]), (by rw [ha0]; simp only [putL, Act.put, List.setIfInBounds_toArray, List.set_cons_zero, List.set_cons_succ]), ?_, ?_, ?_, ?_, trivial⟩
    · obtain ⟨h5, h6, h7, h8, h9, h10, h11, h12, h13, h14, h15, h16, h17, h18, h19, h20, h21, _⟩ := hR.out
      exact Lib.hid ⟨fun h => h5 (by simpa using h), fun h => h6 (by simpa using h), fun h => h7 (by simpa using h), fun h => h8 (by simpa using h), fun h => h9 (by simpa using h), fun h => h10 (by simpa using h), fun h => h11 (by simpa using h), fun _ => rfl, fun h => h13 (by simpa using h), fun h => h14 (by simpa using h), fun h => h15 (by simpa using h), fun h => h16 (by simpa using h), fun h => h17 (by simpa using h), fun h => h18 (by simpa using h), fun h => h19 (by simpa using h), fun _ => rfl, fun _ => rfl, trivial⟩
    · exact hX
    · exact ⟨_, _, hPB4.out, fun h => hPT4.out (by simpa using h), fun h => ⟨rfl, rfl⟩⟩
    · exact fun h => (by have h1 := hQ4 (by simpa using h); simp [h1])
  case x1hs17 =>
    intro s a' w' hsk hdep hI K hK
    try dsimp only at hI hK
    obtain ⟨v5, v6, v7, v8, v9, v10, v11, v12, v13, v14, v15, v16, v17, v18, v19, v20, v21, hact, hR, hX, hP4, hQ4, _⟩ := hI
    subst hact
    have HK := Lib.hid hK
    clear hK
    have e21 : v21 = .agg #[.int .i64 (U1 - m), .int .i64 (V1 - m)] := by obtain ⟨h5, h6, h7, h8, h9, h10, h11, h12, h13, h14, h15, h16, h17, h18, h19, h20, h21, _⟩ := hR.out; exact h21 (hdep ⟨16, .data⟩ (by simp) rfl)
    subst e21
    have kc0 : w'.cell? ⟨w.heap.size, 0, none⟩ = some (.int .i64 a) := hX.cell (by first | (simp; done) | (simp; omega)) (by first | assumption | (go_simp; done) | (simp; done))
    have kc1 : w'.cell? ⟨w.heap.size, 1, none⟩ = some (.int .i64 b) := hX.cell (by first | (simp; done) | (simp; omega)) (by first | assumption | (go_simp; done) | (simp; done))
    obtain ⟨b4_0, b4_1, pb4, pt4, pf4⟩ := hP4
    have hs0 : s 17 = false := hsk
    obtain ⟨q4_0, q4_1⟩ := pf4 hs0
    subst q4_0
    subst q4_1
    clear hs0
    have kp4_0 := cell_of_row w' (w.heap.size + 1) 0 _ _ _ pb4
    have kp4_1 := cell_of_row w' (w.heap.size + 1) 1 _ _ _ pb4
    simp only [List.getElem?_toArray, List.getElem?_cons_zero, List.getElem?_cons_succ] at kp4_0 kp4_1
    have kq4 : ∀ o, w'.frozen? ⟨w.heap.size + 1, o, none⟩ = false := fun o => frozen_of_row w' _ o _ _ pb4
    have hPB4 := Lib.hid pb4
    clear pb4
    have hPT4 := Lib.hid pt4
    clear pt4
    have hPF4 := Lib.hid pf4
    clear pf4
    have hd0 : s 0 = true := hdep ⟨0, .phase⟩ (by simp) rfl
    have hd1 : s 1 = true := hdep ⟨1, .phase⟩ (by simp) rfl
    have hd2 : s 2 = true := hdep ⟨2, .phase⟩ (by simp) rfl
    have hd3 : s 3 = true := hdep ⟨3, .phase⟩ (by simp) rfl
    have hd4 : s 4 = true := hdep ⟨4, .phase⟩ (by simp) rfl
    have hd5 : s 5 = true := hdep ⟨5, .phase⟩ (by simp) rfl
    have hd6 : s 6 = true := hdep ⟨6, .phase⟩ (by simp) rfl
    have hd7 : s 7 = true := hdep ⟨7, .phase⟩ (by simp) rfl
    have hd8 : s 8 = true := hdep ⟨8, .phase⟩ (by simp) rfl
    have hd9 : s 9 = true := hdep ⟨9, .phase⟩ (by simp) rfl
    have hd10 : s 10 = true := hdep ⟨10, .phase⟩ (by simp) rfl
    have hd11 : s 11 = true := hdep ⟨11, .phase⟩ (by simp) rfl
    have hd12 : s 12 = true := hdep ⟨12, .phase⟩ (by simp) rfl
    have hd13 : s 13 = true := hdep ⟨13, .chain⟩ (by simp) rfl
    have hd14 : s 14 = true := hdep ⟨14, .phase⟩ (by simp) rfl
    have hd15 : s 15 = true := hdep ⟨15, .phase⟩ (by simp) rfl
    have hd16 : s 16 = true := hdep ⟨16, .data⟩ (by simp) rfl
    clear hdep
    refine StepG.mk rfl ?_; rw [ha0]; simp only [putL, Act.put, List.setIfInBounds_toArray, List.set_cons_zero, List.set_cons_succ]
    go_wp2_with fail
    refine HK.out _ _ ?_
    refine ⟨v5, v6, v7, v8, v9, v10, v11, v12, v13, v14, v15, v16, v17, v18, v19, v20, (.agg #[.int .i64 (U1 - m), .int .i64 (V1 - m)]), (by rw [ha0]; simp only [putL, Act.put, List.setIfInBounds_toArray, List.set_cons_zero, List.set_cons_succ]), ?_, ?_, ?_, ?_, trivial⟩
    · obtain ⟨h5, h6, h7, h8, h9, h10, h11, h12, h13, h14, h15, h16, h17, h18, h19, h20, h21, _⟩ := hR.out
      exact Lib.hid ⟨fun h => h5 (by simpa using h), fun h => h6 (by simpa using h), fun h => h7 (by simpa using h), fun h => h8 (by simpa using h), fun h => h9 (by simpa using h), fun h => h10 (by simpa using h), fun h => h11 (by simpa using h), fun h => h12 (by simpa using h), fun h => h13 (by simpa using h), fun h => h14 (by simpa using h), fun h => h15 (by simpa using h), fun h => h16 (by simpa using h), fun h => h17 (by simpa using h), fun h => h18 (by simpa using h), fun h => h19 (by simpa using h), fun h => h20 (by simpa using h), fun _ => rfl, trivial⟩
    · exact ((hX.setOld (p := ⟨w.heap.size + 1, 0, none⟩) (by simp) _).setOld (p := ⟨w.heap.size + 1, 1, none⟩) (by simp) _)
    · exact ⟨_, _, blk_set2 hPB4.out, fun _ => ⟨rfl, rfl⟩, fun h => (by simp at h)⟩
    · exact fun _ => (by simp [hd0, hd1, hd2, hd3, hd4, hd5, hd6, hd7, hd8, hd9, hd10, hd11, hd12, hd13, hd14, hd15, hd16])
  intro s a' w2 hall hI
  try dsimp only at hI
  obtain ⟨v5, v6, v7, v8, v9, v10, v11, v12, v13, v14, v15, v16, v17, v18, v19, v20, v21, hact, hR, hXR, hP4, hQ4, _⟩ := hI
  subst hact
  obtain ⟨h5, h6, h7, h8, h9, h10, h11, h12, h13, h14, h15, h16, h17, h18, h19, h20, h21, _⟩ := hR.out
  clear hR
  have e5 := h5 (hall 0 (by decide))
  subst e5
  clear h5
  have e6 := h6 (hall 1 (by decide))
  subst e6
  clear h6
  have e7 := h7 (hall 2 (by decide))
  subst e7
  clear h7
  have e8 := h8 (hall 3 (by decide))
  subst e8
  clear h8
  have e9 := h9 (hall 4 (by decide))
  subst e9
  clear h9
  have e10 := h10 (hall 5 (by decide))
  subst e10
  clear h10
  have e11 := h11 (hall 6 (by decide))
  subst e11
  clear h11
  have e12 := h12 (hall 7 (by decide))
  subst e12
  clear h12
  have e13 := h13 (hall 8 (by decide))
  subst e13
  clear h13
  have e14 := h14 (hall 9 (by decide))
  subst e14
  clear h14
  have e15 := h15 (hall 10 (by decide))
  subst e15
  clear h15
  have e16 := h16 (hall 11 (by decide))
  subst e16
  clear h16
  have e17 := h17 (hall 12 (by decide))
  subst e17
  clear h17
  have e18 := h18 (hall 13 (by decide))
  subst e18
  clear h18
  have e19 := h19 (hall 14 (by decide))
  subst e19
  clear h19
  have e20 := h20 (hall 15 (by decide))
  subst e20
  clear h20
  have e21 := h21 (hall 16 (by decide))
  subst e21
  clear h21
  obtain ⟨c0, c1, pblkR4, hpt, _⟩ := hP4
  clear hQ4
  obtain ⟨es0, es1⟩ := hpt (hall 17 (by decide))
  subst es0
  subst es1
  clear hpt
  try clear pblk4
  have pblk4 := pblkR4
  clear pblkR4
  clear hall
  rw [ha0]; simp only [putL, Act.put, List.setIfInBounds_toArray, List.set_cons_zero, List.set_cons_succ]
  clear ha0
  have B2 : Below w.heap.size w w2 := hXR.below (by first | assumption | exact (by repeat (first | exact Below.refl _ _ | exact Nat.le_refl _ | refine Below.alloc ?_ ?_ _ | refine Below.setCell ?_ ?_ _ | refine Below.drew ?_ | refine bl_drewN ?_ _ | (assumption) | refine bl_call ?_ (by assumption) ?_ | omega | (simp <;> omega)))) (by first | omega | (simp <;> omega)) (by simp <;> omega)
  clear hXR
  have c0 := row2_0 pblk4
  have c1 := row2_1 pblk4
  go_wp2_with fail
  exact bodyPost_ret (v := .agg #[.int .i64 (U1 - m), .int .i64 (V1 - m)]) (by simp [results, Tryd.results37, go_sem, *]) rfl ⟨rfl, (by repeat (first | exact Below.refl _ _ | exact Nat.le_refl _ | refine Below.alloc ?_ ?_ _ | refine Below.setCell ?_ ?_ _ | refine Below.drew ?_ | refine bl_drewN ?_ _ | (assumption) | refine bl_call ?_ (by assumption) ?_ | omega | (simp <;> omega)))⟩
end Go.Proofs.YtgocloilagcfoabDoor
