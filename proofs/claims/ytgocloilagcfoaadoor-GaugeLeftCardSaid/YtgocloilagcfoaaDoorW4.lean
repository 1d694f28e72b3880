/- GaugeLeft: for every two numbers the law returns true. -/
import Derived.Test.YtgocloilagcfoaaDoorL1
import Derived.Test.YtgocloilagcfoaaDoorL2
import Derived.Test.YtgocloilagcfoaaDoorC4
import Derived.Test.YtgocloilagcfoaaDoorM6
import Derived.Test.YtgocloilagcfoaaDoorF1
namespace Go.Proofs.YtgocloilagcfoaaDoor
open Go.RowKit
attribute [local go_sem ↓] Go.wp_at_zero Go.wp_at_succ

set_option maxRecDepth 100000 in
set_option maxHeartbeats 8000000 in
theorem GaugeLeft_walk (a b c d : Int) (w : World) (ha : -9223372036854775808 ≤ a ∧ a ≤ 9223372036854775807) (hb : -9223372036854775808 ≤ b ∧ b ≤ 9223372036854775807) (hc : -9223372036854775808 ≤ c ∧ c ≤ 9223372036854775807) (hd : -9223372036854775808 ≤ d ∧ d ≤ 9223372036854775807) :
    Calls Tryd.prog 14 #[.agg #[.int .i64 a, .int .i64 b], .agg #[.int .i64 c, .int .i64 d]] w fun e w' => e = .returned (.bool true) ∧ Below w.heap.size w w' := by
  have hX := fun wx => tame_any a b 100000 wx (by omega) (by omega) ha.1 ha.2 hb.1 hb.2
  have hY := fun wx => tame_any c d 1000 wx (by omega) (by omega) hc.1 hc.2 hd.1 hd.2
  have bX1 := modZ_bd a (2 * 100000 + 1) (by decide)
  have bX2 := modZ_bd b (2 * 100000 + 1) (by decide)
  have bY1 := modZ_bd c (2 * 1000 + 1) (by decide)
  have bY2 := modZ_bd d (2 * 1000 + 1) (by decide)
  obtain ⟨X1, e1⟩ : ∃ x, modZ a (2 * 100000 + 1) - 100000 = x := ⟨_, rfl⟩
  obtain ⟨X2, e2⟩ : ∃ x, modZ b (2 * 100000 + 1) - 100000 = x := ⟨_, rfl⟩
  obtain ⟨Y1, e3⟩ : ∃ x, modZ c (2 * 1000 + 1) - 1000 = x := ⟨_, rfl⟩
  obtain ⟨Y2, e4⟩ : ∃ x, modZ d (2 * 1000 + 1) - 1000 = x := ⟨_, rfl⟩
  rw [e1, e2] at hX
  rw [e3, e4] at hY
  have x1 : -100000 ≤ X1 ∧ X1 ≤ 100000 := by omega
  have x2 : -100000 ≤ X2 ∧ X2 ≤ 100000 := by omega
  have y1 : -1000 ≤ Y1 ∧ Y1 ≤ 1000 := by omega
  have y2 : -1000 ≤ Y2 ∧ Y2 ≤ 1000 := by omega
  clear e1 e2 e3 e4 bX1 bX2 bY1 bY2 ha hb hc hd
  have num : ∀ p q : Int, -1000000 ≤ p → p ≤ 1000000 → -1000000 ≤ q → q ≤ 1000000 → isN p q = true := fun p q h1 h2 h3 h4 => (isN_iff p q).2 ⟨h1, h2, h3, h4⟩
  have nX := num X1 X2 (by omega) (by omega) (by omega) (by omega)
  have nY := num Y1 Y2 (by omega) (by omega) (by omega) (by omega)
  have HX := Lib.hid hX
  have HY := Lib.hid hY
  clear hX hY
  go_enter Tryd.func14, Tryd.ntmps14
  go_upto_region 1 with fail
  obtain ⟨w1, hw1⟩ : ∃ wx : World, wx = ((w.alloc (.cells #[.int .i64 a, .int .i64 b] 23)).alloc (.cells #[.int .i64 c, .int .i64 d] 23)) := ⟨_, rfl⟩
  rw [← hw1]
  have q1_0 : w1.heap[w.heap.size]? = some (.cells #[.int .i64 a, .int .i64 b] 23 (0, 0)) := by rw [hw1]; exact blk_old (blk_new _ _)
  have z1_0 : w.heap.size < w1.heap.size := by rw [hw1]; simp <;> omega
  have c1_0_0 : w1.cell? ⟨w.heap.size, 0, none⟩ = some (.int .i64 a) := by rw [hw1]; first | (go_simp; done) | simp
  have c1_0_1 : w1.cell? ⟨w.heap.size, 1, none⟩ = some (.int .i64 b) := by rw [hw1]; first | (go_simp; done) | simp
  have f1_0 : ∀ o, w1.frozen? ⟨w.heap.size, o, none⟩ = false := by intro o; rw [hw1]; first | (go_simp; done) | simp
  have q1_1 : w1.heap[w.heap.size + 1]? = some (.cells #[.int .i64 c, .int .i64 d] 23 (0, 0)) := by rw [hw1]; rw [show w.heap.size + 1 = (w.alloc (.cells #[.int .i64 a, .int .i64 b] 23)).heap.size from by simp]; exact blk_new _ _
  have z1_1 : w.heap.size + 1 < w1.heap.size := by rw [hw1]; simp <;> omega
  have c1_1_0 : w1.cell? ⟨w.heap.size + 1, 0, none⟩ = some (.int .i64 c) := by rw [hw1]; first | (go_simp; done) | simp
  have c1_1_1 : w1.cell? ⟨w.heap.size + 1, 1, none⟩ = some (.int .i64 d) := by rw [hw1]; first | (go_simp; done) | simp
  have f1_1 : ∀ o, w1.frozen? ⟨w.heap.size + 1, o, none⟩ = false := by intro o; rw [hw1]; first | (go_simp; done) | simp
  have B1 : Below w.heap.size w w1 := by rw [hw1]; exact (by repeat (first | exact Below.refl _ _ | exact Nat.le_refl _ | refine Below.alloc ?_ ?_ _ | refine Below.setCell ?_ ?_ _ | refine Below.drew ?_ | refine bl_drewN ?_ _ | (assumption) | refine bl_call ?_ (by assumption) ?_ | omega | (simp <;> omega)))
  clear hw1
  have pblk2 := q1_0
  have pblk3 := q1_1
  have pblk2 : w1.heap[w.heap.size]? = some (.cells #[.int .i64 a, .int .i64 b] 23 (0, 0)) := by first | assumption | exact hblk2
  have pblk3 : w1.heap[w.heap.size + 1]? = some (.cells #[.int .i64 c, .int .i64 d] 23 (0, 0)) := by first | assumption | exact hblk3
  refine with_act fun a0 ha0 => ?_
  refine wp_region_inv (by kernel_rfl) (by kernel_rfl) (fun s a' w' => ∃ v19 v20 v21 v22 : Value, a' = putL a0 [(19, v19), (20, v20), (21, v21), (22, v22)] ∧ Hid ((s 0 = true → v19 = .agg #[.int .i64 a, .int .i64 b]) ∧ (s 1 = true → v20 = .agg #[.int .i64 X1, .int .i64 X2]) ∧ (s 2 = true → v21 = .agg #[.int .i64 c, .int .i64 d]) ∧ (s 3 = true → v22 = .agg #[.int .i64 Y1, .int .i64 Y2]) ∧ True) ∧ BelX [w.heap.size, w.heap.size + 1] w1 w' ∧ (∃ (c0 c1 : Value), w'.heap[w.heap.size]? = some (.cells #[c0, c1] 23 (0, 0)) ∧ (s 4 = true → c0 = .int .i64 X1 ∧ c1 = .int .i64 X2) ∧ (s 4 = false → c0 = .int .i64 a ∧ c1 = .int .i64 b)) ∧ (s 4 = true → s 0 = true ∧ s 1 = true ∧ s 3 = true ∧ True) ∧ (∃ (c0 c1 : Value), w'.heap[w.heap.size + 1]? = some (.cells #[c0, c1] 23 (0, 0)) ∧ (s 5 = true → c0 = .int .i64 Y1 ∧ c1 = .int .i64 Y2) ∧ (s 5 = false → c0 = .int .i64 c ∧ c1 = .int .i64 d)) ∧ (s 5 = true → s 0 = true ∧ s 1 = true ∧ s 2 = true ∧ s 3 = true ∧ s 4 = true ∧ True) ∧ True) ?x1hzero ⟨?x1hs0, ?x1hs1, ?x1hs2, ?x1hs3, ?x1hs4, ?x1hs5, trivial⟩ ?x1hdone
  case x1hzero =>
    refine ⟨a0.tmps.getD 19 undef, a0.tmps.getD 20 undef, a0.tmps.getD 21 undef, a0.tmps.getD 22 undef, ?_, ?_, ?_, ?_, ?_, ?_, ?_, trivial⟩
    · simp only [putL, put_self]
    · exact Lib.hid ⟨fun h => (by simp at h), fun h => (by simp at h), fun h => (by simp at h), fun h => (by simp at h), trivial⟩
    · exact BelX.start _ _
    · exact ⟨.int .i64 a, .int .i64 b, pblk2, fun h => (by simp at h), fun _ => ⟨rfl, rfl⟩⟩
    · exact fun h => (by simp at h)
    · exact ⟨.int .i64 c, .int .i64 d, pblk3, fun h => (by simp at h), fun _ => ⟨rfl, rfl⟩⟩
    · exact fun h => (by simp at h)
  case x1hs0 =>
    intro s a' w' hsk hdep hI K hK
    try dsimp only at hI hK
    obtain ⟨v19, v20, v21, v22, hact, hR, hX, hP2, hQ2, hP3, hQ3, _⟩ := hI
    subst hact
    have HK := Lib.hid hK
    clear hK
    obtain ⟨b2_0, b2_1, pb2, pt2, pf2⟩ := hP2
    have hs0 : s 4 = false := Bool.eq_false_iff.2 fun h => (by have := hQ2 h; simp [hsk] at this)
    obtain ⟨q2_0, q2_1⟩ := pf2 hs0
    subst q2_0
    subst q2_1
    clear hs0
    have kp2_0 := cell_of_row w' (w.heap.size) 0 _ _ _ pb2
    have kp2_1 := cell_of_row w' (w.heap.size) 1 _ _ _ pb2
    simp only [List.getElem?_toArray, List.getElem?_cons_zero, List.getElem?_cons_succ] at kp2_0 kp2_1
    have kq2 : ∀ o, w'.frozen? ⟨w.heap.size, o, none⟩ = false := fun o => frozen_of_row w' _ o _ _ pb2
    have hPB2 := Lib.hid pb2
    clear pb2
    have hPT2 := Lib.hid pt2
    clear pt2
    have hPF2 := Lib.hid pf2
    clear pf2
    obtain ⟨b3_0, b3_1, pb3, pt3, pf3⟩ := hP3
    have hs0 : s 5 = false := Bool.eq_false_iff.2 fun h => (by have := hQ3 h; simp [hsk] at this)
    obtain ⟨q3_0, q3_1⟩ := pf3 hs0
    subst q3_0
    subst q3_1
    clear hs0
    have kp3_0 := cell_of_row w' (w.heap.size + 1) 0 _ _ _ pb3
    have kp3_1 := cell_of_row w' (w.heap.size + 1) 1 _ _ _ pb3
    simp only [List.getElem?_toArray, List.getElem?_cons_zero, List.getElem?_cons_succ] at kp3_0 kp3_1
    have kq3 : ∀ o, w'.frozen? ⟨w.heap.size + 1, o, none⟩ = false := fun o => frozen_of_row w' _ o _ _ pb3
    have hPB3 := Lib.hid pb3
    clear pb3
    have hPT3 := Lib.hid pt3
    clear pt3
    have hPF3 := Lib.hid pf3
    clear pf3
    clear hdep
    refine StepG.mk rfl ?_; rw [ha0]; simp only [putL, Act.put, List.setIfInBounds_toArray, List.set_cons_zero, List.set_cons_succ]
    go_wp2_with fail
    refine HK.out _ _ ?_
    refine ⟨(.agg #[.int .i64 a, .int .i64 b]), v20, v21, v22, (by rw [ha0]; simp only [putL, Act.put, List.setIfInBounds_toArray, List.set_cons_zero, List.set_cons_succ]), ?_, ?_, ?_, ?_, ?_, ?_, trivial⟩
    · obtain ⟨h19, h20, h21, h22, _⟩ := hR.out
      exact Lib.hid ⟨fun _ => rfl, fun h => h20 (by simpa using h), fun h => h21 (by simpa using h), fun h => h22 (by simpa using h), trivial⟩
    · exact hX
    · exact ⟨_, _, hPB2.out, fun h => hPT2.out (by simpa using h), fun h => ⟨rfl, rfl⟩⟩
    · exact fun h => (by have h1 := hQ2 (by simpa using h); simp [h1])
    · exact ⟨_, _, hPB3.out, fun h => hPT3.out (by simpa using h), fun h => ⟨rfl, rfl⟩⟩
    · exact fun h => (by have h1 := hQ3 (by simpa using h); simp [h1])
  case x1hs1 =>
    intro s a' w' hsk hdep hI K hK
    try dsimp only at hI hK
    obtain ⟨v19, v20, v21, v22, hact, hR, hX, hP2, hQ2, hP3, hQ3, _⟩ := hI
    subst hact
    have HK := Lib.hid hK
    clear hK
    have e19 : v19 = .agg #[.int .i64 a, .int .i64 b] := by obtain ⟨h19, h20, h21, h22, _⟩ := hR.out; exact h19 (hdep ⟨0, .data⟩ (by simp) rfl)
    subst e19
    obtain ⟨b2_0, b2_1, pb2, pt2, pf2⟩ := hP2
    have hs0 : s 4 = false := Bool.eq_false_iff.2 fun h => (by have := hQ2 h; simp [hsk] at this)
    obtain ⟨q2_0, q2_1⟩ := pf2 hs0
    subst q2_0
    subst q2_1
    clear hs0
    have kp2_0 := cell_of_row w' (w.heap.size) 0 _ _ _ pb2
    have kp2_1 := cell_of_row w' (w.heap.size) 1 _ _ _ pb2
    simp only [List.getElem?_toArray, List.getElem?_cons_zero, List.getElem?_cons_succ] at kp2_0 kp2_1
    have kq2 : ∀ o, w'.frozen? ⟨w.heap.size, o, none⟩ = false := fun o => frozen_of_row w' _ o _ _ pb2
    have hPB2 := Lib.hid pb2
    clear pb2
    have hPT2 := Lib.hid pt2
    clear pt2
    have hPF2 := Lib.hid pf2
    clear pf2
    obtain ⟨b3_0, b3_1, pb3, pt3, pf3⟩ := hP3
    have hs0 : s 5 = false := Bool.eq_false_iff.2 fun h => (by have := hQ3 h; simp [hsk] at this)
    obtain ⟨q3_0, q3_1⟩ := pf3 hs0
    subst q3_0
    subst q3_1
    clear hs0
    have kp3_0 := cell_of_row w' (w.heap.size + 1) 0 _ _ _ pb3
    have kp3_1 := cell_of_row w' (w.heap.size + 1) 1 _ _ _ pb3
    simp only [List.getElem?_toArray, List.getElem?_cons_zero, List.getElem?_cons_succ] at kp3_0 kp3_1
    have kq3 : ∀ o, w'.frozen? ⟨w.heap.size + 1, o, none⟩ = false := fun o => frozen_of_row w' _ o _ _ pb3
    have hPB3 := Lib.hid pb3
    clear pb3
    have hPT3 := Lib.hid pt3
    clear pt3
    have hPF3 := Lib.hid pf3
    clear pf3
    clear hdep
    refine StepG.mk rfl ?_; rw [ha0]; simp only [putL, Act.put, List.setIfInBounds_toArray, List.set_cons_zero, List.set_cons_succ]
    go_wp2_with fail
    refine ((HX.out _)).mono ?_
    rintro e wn ⟨rfl, hb⟩
    go_wp2_with fail
    refine HK.out _ _ ?_
    refine ⟨(.agg #[.int .i64 a, .int .i64 b]), (.agg #[.int .i64 X1, .int .i64 X2]), v21, v22, (by rw [ha0]; simp only [putL, Act.put, List.setIfInBounds_toArray, List.set_cons_zero, List.set_cons_succ]), ?_, ?_, ?_, ?_, ?_, ?_, trivial⟩
    · obtain ⟨h19, h20, h21, h22, _⟩ := hR.out
      exact Lib.hid ⟨fun _ => rfl, fun _ => rfl, fun h => h21 (by simpa using h), fun h => h22 (by simpa using h), trivial⟩
    · exact hX.call hb
    · exact ⟨_, _, (hb.block _ (blk_lt hPB2.out)).trans hPB2.out, fun h => hPT2.out (by simpa using h), fun h => ⟨rfl, rfl⟩⟩
    · exact fun h => (by have h1 := hQ2 (by simpa using h); simp [h1])
    · exact ⟨_, _, (hb.block _ (blk_lt hPB3.out)).trans hPB3.out, fun h => hPT3.out (by simpa using h), fun h => ⟨rfl, rfl⟩⟩
    · exact fun h => (by have h1 := hQ3 (by simpa using h); simp [h1])
  case x1hs2 =>
    intro s a' w' hsk hdep hI K hK
    try dsimp only at hI hK
    obtain ⟨v19, v20, v21, v22, hact, hR, hX, hP2, hQ2, hP3, hQ3, _⟩ := hI
    subst hact
    have HK := Lib.hid hK
    clear hK
    obtain ⟨b2_0, b2_1, pb2, pt2, pf2⟩ := hP2
    have kp2_0 := cell_of_row w' (w.heap.size) 0 _ _ _ pb2
    have kp2_1 := cell_of_row w' (w.heap.size) 1 _ _ _ pb2
    simp only [List.getElem?_toArray, List.getElem?_cons_zero, List.getElem?_cons_succ] at kp2_0 kp2_1
    have kq2 : ∀ o, w'.frozen? ⟨w.heap.size, o, none⟩ = false := fun o => frozen_of_row w' _ o _ _ pb2
    have hPB2 := Lib.hid pb2
    clear pb2
    have hPT2 := Lib.hid pt2
    clear pt2
    have hPF2 := Lib.hid pf2
    clear pf2
    obtain ⟨b3_0, b3_1, pb3, pt3, pf3⟩ := hP3
    have hs0 : s 5 = false := Bool.eq_false_iff.2 fun h => (by have := hQ3 h; simp [hsk] at this)
    obtain ⟨q3_0, q3_1⟩ := pf3 hs0
    subst q3_0
    subst q3_1
    clear hs0
    have kp3_0 := cell_of_row w' (w.heap.size + 1) 0 _ _ _ pb3
    have kp3_1 := cell_of_row w' (w.heap.size + 1) 1 _ _ _ pb3
    simp only [List.getElem?_toArray, List.getElem?_cons_zero, List.getElem?_cons_succ] at kp3_0 kp3_1
    have kq3 : ∀ o, w'.frozen? ⟨w.heap.size + 1, o, none⟩ = false := fun o => frozen_of_row w' _ o _ _ pb3
    have hPB3 := Lib.hid pb3
    clear pb3
    have hPT3 := Lib.hid pt3
    clear pt3
    have hPF3 := Lib.hid pf3
    clear pf3
    clear hdep
    refine StepG.mk rfl ?_; rw [ha0]; simp only [putL, Act.put, List.setIfInBounds_toArray, List.set_cons_zero, List.set_cons_succ]
    go_wp2_with fail
    refine HK.out _ _ ?_
    refine ⟨v19, v20, (.agg #[.int .i64 c, .int .i64 d]), v22, (by rw [ha0]; simp only [putL, Act.put, List.setIfInBounds_toArray, List.set_cons_zero, List.set_cons_succ]), ?_, ?_, ?_, ?_, ?_, ?_, trivial⟩
    · obtain ⟨h19, h20, h21, h22, _⟩ := hR.out
      exact Lib.hid ⟨fun h => h19 (by simpa using h), fun h => h20 (by simpa using h), fun _ => rfl, fun h => h22 (by simpa using h), trivial⟩
    · exact hX
    · exact ⟨_, _, hPB2.out, fun h => hPT2.out (by simpa using h), fun h => (hPF2.out (by simpa using h))⟩
    · exact fun h => (by have h1 := hQ2 (by simpa using h); simp [h1])
    · exact ⟨_, _, hPB3.out, fun h => hPT3.out (by simpa using h), fun h => ⟨rfl, rfl⟩⟩
    · exact fun h => (by have h1 := hQ3 (by simpa using h); simp [h1])
  case x1hs3 =>
    intro s a' w' hsk hdep hI K hK
    try dsimp only at hI hK
    obtain ⟨v19, v20, v21, v22, hact, hR, hX, hP2, hQ2, hP3, hQ3, _⟩ := hI
    subst hact
    have HK := Lib.hid hK
    clear hK
    have e21 : v21 = .agg #[.int .i64 c, .int .i64 d] := by obtain ⟨h19, h20, h21, h22, _⟩ := hR.out; exact h21 (hdep ⟨2, .data⟩ (by simp) rfl)
    subst e21
    obtain ⟨b2_0, b2_1, pb2, pt2, pf2⟩ := hP2
    have hs0 : s 4 = false := Bool.eq_false_iff.2 fun h => (by have := hQ2 h; simp [hsk] at this)
    obtain ⟨q2_0, q2_1⟩ := pf2 hs0
    subst q2_0
    subst q2_1
    clear hs0
    have kp2_0 := cell_of_row w' (w.heap.size) 0 _ _ _ pb2
    have kp2_1 := cell_of_row w' (w.heap.size) 1 _ _ _ pb2
    simp only [List.getElem?_toArray, List.getElem?_cons_zero, List.getElem?_cons_succ] at kp2_0 kp2_1
    have kq2 : ∀ o, w'.frozen? ⟨w.heap.size, o, none⟩ = false := fun o => frozen_of_row w' _ o _ _ pb2
    have hPB2 := Lib.hid pb2
    clear pb2
    have hPT2 := Lib.hid pt2
    clear pt2
    have hPF2 := Lib.hid pf2
    clear pf2
    obtain ⟨b3_0, b3_1, pb3, pt3, pf3⟩ := hP3
    have hs0 : s 5 = false := Bool.eq_false_iff.2 fun h => (by have := hQ3 h; simp [hsk] at this)
    obtain ⟨q3_0, q3_1⟩ := pf3 hs0
    subst q3_0
    subst q3_1
    clear hs0
    have kp3_0 := cell_of_row w' (w.heap.size + 1) 0 _ _ _ pb3
    have kp3_1 := cell_of_row w' (w.heap.size + 1) 1 _ _ _ pb3
    simp only [List.getElem?_toArray, List.getElem?_cons_zero, List.getElem?_cons_succ] at kp3_0 kp3_1
    have kq3 : ∀ o, w'.frozen? ⟨w.heap.size + 1, o, none⟩ = false := fun o => frozen_of_row w' _ o _ _ pb3
    have hPB3 := Lib.hid pb3
    clear pb3
    have hPT3 := Lib.hid pt3
    clear pt3
    have hPF3 := Lib.hid pf3
    clear pf3
    clear hdep
    refine StepG.mk rfl ?_; rw [ha0]; simp only [putL, Act.put, List.setIfInBounds_toArray, List.set_cons_zero, List.set_cons_succ]
    go_wp2_with fail
    refine ((HY.out _)).mono ?_
    rintro e wn ⟨rfl, hb⟩
    go_wp2_with fail
    refine HK.out _ _ ?_
    refine ⟨v19, v20, (.agg #[.int .i64 c, .int .i64 d]), (.agg #[.int .i64 Y1, .int .i64 Y2]), (by rw [ha0]; simp only [putL, Act.put, List.setIfInBounds_toArray, List.set_cons_zero, List.set_cons_succ]), ?_, ?_, ?_, ?_, ?_, ?_, trivial⟩
    · obtain ⟨h19, h20, h21, h22, _⟩ := hR.out
      exact Lib.hid ⟨fun h => h19 (by simpa using h), fun h => h20 (by simpa using h), fun _ => rfl, fun _ => rfl, trivial⟩
    · exact hX.call hb
    · exact ⟨_, _, (hb.block _ (blk_lt hPB2.out)).trans hPB2.out, fun h => hPT2.out (by simpa using h), fun h => ⟨rfl, rfl⟩⟩
    · exact fun h => (by have h1 := hQ2 (by simpa using h); simp [h1])
    · exact ⟨_, _, (hb.block _ (blk_lt hPB3.out)).trans hPB3.out, fun h => hPT3.out (by simpa using h), fun h => ⟨rfl, rfl⟩⟩
    · exact fun h => (by have h1 := hQ3 (by simpa using h); simp [h1])
  case x1hs4 =>
    intro s a' w' hsk hdep hI K hK
    try dsimp only at hI hK
    obtain ⟨v19, v20, v21, v22, hact, hR, hX, hP2, hQ2, hP3, hQ3, _⟩ := hI
    subst hact
    have HK := Lib.hid hK
    clear hK
    have e20 : v20 = .agg #[.int .i64 X1, .int .i64 X2] := by obtain ⟨h19, h20, h21, h22, _⟩ := hR.out; exact h20 (hdep ⟨1, .data⟩ (by simp) rfl)
    subst e20
    obtain ⟨b2_0, b2_1, pb2, pt2, pf2⟩ := hP2
    have hs0 : s 4 = false := hsk
    obtain ⟨q2_0, q2_1⟩ := pf2 hs0
    subst q2_0
    subst q2_1
    clear hs0
    have kp2_0 := cell_of_row w' (w.heap.size) 0 _ _ _ pb2
    have kp2_1 := cell_of_row w' (w.heap.size) 1 _ _ _ pb2
    simp only [List.getElem?_toArray, List.getElem?_cons_zero, List.getElem?_cons_succ] at kp2_0 kp2_1
    have kq2 : ∀ o, w'.frozen? ⟨w.heap.size, o, none⟩ = false := fun o => frozen_of_row w' _ o _ _ pb2
    have hPB2 := Lib.hid pb2
    clear pb2
    have hPT2 := Lib.hid pt2
    clear pt2
    have hPF2 := Lib.hid pf2
    clear pf2
    obtain ⟨b3_0, b3_1, pb3, pt3, pf3⟩ := hP3
    have hs0 : s 5 = false := Bool.eq_false_iff.2 fun h => (by have := hQ3 h; simp [hsk] at this)
    obtain ⟨q3_0, q3_1⟩ := pf3 hs0
    subst q3_0
    subst q3_1
    clear hs0
    have kp3_0 := cell_of_row w' (w.heap.size + 1) 0 _ _ _ pb3
    have kp3_1 := cell_of_row w' (w.heap.size + 1) 1 _ _ _ pb3
    simp only [List.getElem?_toArray, List.getElem?_cons_zero, List.getElem?_cons_succ] at kp3_0 kp3_1
    have kq3 : ∀ o, w'.frozen? ⟨w.heap.size + 1, o, none⟩ = false := fun o => frozen_of_row w' _ o _ _ pb3
    have hPB3 := Lib.hid pb3
    clear pb3
    have hPT3 := Lib.hid pt3
    clear pt3
    have hPF3 := Lib.hid pf3
    clear pf3
    have hd0 : s 0 = true := hdep ⟨0, .phase⟩ (by simp) rfl
    have hd1 : s 1 = true := hdep ⟨1, .data⟩ (by simp) rfl
    have hd3 : s 3 = true := hdep ⟨3, .chain⟩ (by simp) rfl
    clear hdep
    refine StepG.mk rfl ?_; rw [ha0]; simp only [putL, Act.put, List.setIfInBounds_toArray, List.set_cons_zero, List.set_cons_succ]
    go_wp2_with fail
    refine HK.out _ _ ?_
    refine ⟨v19, (.agg #[.int .i64 X1, .int .i64 X2]), v21, v22, (by rw [ha0]; simp only [putL, Act.put, List.setIfInBounds_toArray, List.set_cons_zero, List.set_cons_succ]), ?_, ?_, ?_, ?_, ?_, ?_, trivial⟩
    · obtain ⟨h19, h20, h21, h22, _⟩ := hR.out
      exact Lib.hid ⟨fun h => h19 (by simpa using h), fun _ => rfl, fun h => h21 (by simpa using h), fun h => h22 (by simpa using h), trivial⟩
    · exact ((hX.setOld (p := ⟨w.heap.size, 0, none⟩) (by simp) _).setOld (p := ⟨w.heap.size, 1, none⟩) (by simp) _)
    · exact ⟨_, _, blk_set2 hPB2.out, fun _ => ⟨rfl, rfl⟩, fun h => (by simp at h)⟩
    · exact fun _ => (by simp [hd0, hd1, hd3])
    · exact ⟨_, _, blk_far2 (by simp <;> omega) hPB3.out, fun h => hPT3.out (by simpa using h), fun h => ⟨rfl, rfl⟩⟩
    · exact fun h => (by have h1 := hQ3 (by simpa using h); simp [h1])
  case x1hs5 =>
    intro s a' w' hsk hdep hI K hK
    try dsimp only at hI hK
    obtain ⟨v19, v20, v21, v22, hact, hR, hX, hP2, hQ2, hP3, hQ3, _⟩ := hI
    subst hact
    have HK := Lib.hid hK
    clear hK
    have e22 : v22 = .agg #[.int .i64 Y1, .int .i64 Y2] := by obtain ⟨h19, h20, h21, h22, _⟩ := hR.out; exact h22 (hdep ⟨3, .data⟩ (by simp) rfl)
    subst e22
    obtain ⟨b2_0, b2_1, pb2, pt2, pf2⟩ := hP2
    have kp2_0 := cell_of_row w' (w.heap.size) 0 _ _ _ pb2
    have kp2_1 := cell_of_row w' (w.heap.size) 1 _ _ _ pb2
    simp only [List.getElem?_toArray, List.getElem?_cons_zero, List.getElem?_cons_succ] at kp2_0 kp2_1
    have kq2 : ∀ o, w'.frozen? ⟨w.heap.size, o, none⟩ = false := fun o => frozen_of_row w' _ o _ _ pb2
    have hPB2 := Lib.hid pb2
    clear pb2
    have hPT2 := Lib.hid pt2
    clear pt2
    have hPF2 := Lib.hid pf2
    clear pf2
    obtain ⟨b3_0, b3_1, pb3, pt3, pf3⟩ := hP3
    have hs0 : s 5 = false := hsk
    obtain ⟨q3_0, q3_1⟩ := pf3 hs0
    subst q3_0
    subst q3_1
    clear hs0
    have kp3_0 := cell_of_row w' (w.heap.size + 1) 0 _ _ _ pb3
    have kp3_1 := cell_of_row w' (w.heap.size + 1) 1 _ _ _ pb3
    simp only [List.getElem?_toArray, List.getElem?_cons_zero, List.getElem?_cons_succ] at kp3_0 kp3_1
    have kq3 : ∀ o, w'.frozen? ⟨w.heap.size + 1, o, none⟩ = false := fun o => frozen_of_row w' _ o _ _ pb3
    have hPB3 := Lib.hid pb3
    clear pb3
    have hPT3 := Lib.hid pt3
    clear pt3
    have hPF3 := Lib.hid pf3
    clear pf3
    have hd0 : s 0 = true := hdep ⟨0, .phase⟩ (by simp) rfl
    have hd1 : s 1 = true := hdep ⟨1, .phase⟩ (by simp) rfl
    have hd2 : s 2 = true := hdep ⟨2, .phase⟩ (by simp) rfl
    have hd3 : s 3 = true := hdep ⟨3, .data⟩ (by simp) rfl
    have hd4 : s 4 = true := hdep ⟨4, .chain⟩ (by simp) rfl
    clear hdep
    refine StepG.mk rfl ?_; rw [ha0]; simp only [putL, Act.put, List.setIfInBounds_toArray, List.set_cons_zero, List.set_cons_succ]
    go_wp2_with fail
    refine HK.out _ _ ?_
    refine ⟨v19, v20, v21, (.agg #[.int .i64 Y1, .int .i64 Y2]), (by rw [ha0]; simp only [putL, Act.put, List.setIfInBounds_toArray, List.set_cons_zero, List.set_cons_succ]), ?_, ?_, ?_, ?_, ?_, ?_, trivial⟩
    · obtain ⟨h19, h20, h21, h22, _⟩ := hR.out
      exact Lib.hid ⟨fun h => h19 (by simpa using h), fun h => h20 (by simpa using h), fun h => h21 (by simpa using h), fun _ => rfl, trivial⟩
    · exact ((hX.setOld (p := ⟨w.heap.size + 1, 0, none⟩) (by simp) _).setOld (p := ⟨w.heap.size + 1, 1, none⟩) (by simp) _)
    · exact ⟨_, _, blk_far2 (by simp <;> omega) hPB2.out, fun h => hPT2.out (by simpa using h), fun h => (hPF2.out (by simpa using h))⟩
    · exact fun h => (by have h1 := hQ2 (by simpa using h); simp [h1])
    · exact ⟨_, _, blk_set2 hPB3.out, fun _ => ⟨rfl, rfl⟩, fun h => (by simp at h)⟩
    · exact fun _ => (by simp [hd0, hd1, hd2, hd3, hd4])
  intro s a' w2 hall hI
  try dsimp only at hI
  obtain ⟨v19, v20, v21, v22, hact, hR, hXR, hP2, hQ2, hP3, hQ3, _⟩ := hI
  subst hact
  obtain ⟨h19, h20, h21, h22, _⟩ := hR.out
  clear hR
  have e19 := h19 (hall 0 (by decide))
  subst e19
  clear h19
  have e20 := h20 (hall 1 (by decide))
  subst e20
  clear h20
  have e21 := h21 (hall 2 (by decide))
  subst e21
  clear h21
  have e22 := h22 (hall 3 (by decide))
  subst e22
  clear h22
  obtain ⟨c0, c1, pblkR2, hpt, _⟩ := hP2
  clear hQ2
  obtain ⟨es0, es1⟩ := hpt (hall 4 (by decide))
  subst es0
  subst es1
  clear hpt
  try clear pblk2
  have pblk2 := pblkR2
  clear pblkR2
  obtain ⟨c0, c1, pblkR3, hpt, _⟩ := hP3
  clear hQ3
  obtain ⟨es0, es1⟩ := hpt (hall 5 (by decide))
  subst es0
  subst es1
  clear hpt
  try clear pblk3
  have pblk3 := pblkR3
  clear pblkR3
  clear hall
  rw [ha0]; simp only [putL, Act.put, List.setIfInBounds_toArray, List.set_cons_zero, List.set_cons_succ]
  clear ha0
  have B2 : Below w.heap.size w w2 := hXR.below (by first | assumption | exact (by repeat (first | exact Below.refl _ _ | exact Nat.le_refl _ | refine Below.alloc ?_ ?_ _ | refine Below.setCell ?_ ?_ _ | refine Below.drew ?_ | refine bl_drewN ?_ _ | (assumption) | refine bl_call ?_ (by assumption) ?_ | omega | (simp <;> omega)))) (by first | omega | (simp <;> omega)) (by simp <;> omega)
  have ce1_0 := row2_0 pblk2
  have ce1_1 := row2_1 pblk2
  have ce2_0 := row2_0 pblk3
  have ce2_1 := row2_1 pblk3
  clear hXR HX HY
  have hsz_2 := B2.size
  have zz2 := blk_lt pblk3
  by_cases h3 : Y1 = 0 ∧ Y2 = 0
  · obtain ⟨rfl, rfl⟩ := h3
    have HC := Lib.hid (fun wx => Divide_no X1 X2 0 0 wx (.inr ⟨rfl, rfl⟩))
    clear num nX nY
    go_wp2_with fail
    refine (HC.out _).mono ?_
    rintro e w3 ⟨rfl, hb3⟩
    have z3_0 : w.heap.size < w3.heap.size := by have := hb3.size; (try simp at this); omega
    have z3_1 : w.heap.size + 1 < w3.heap.size := by have := hb3.size; (try simp at this); omega
    have cew_heap_size3_0 : w3.cell? ⟨w.heap.size, 0, none⟩ = some (.int .i64 X1) := keep_cell hb3 (by first | assumption | (go_simp; done) | (simp; done) | simp [*])
    have zew_heap_size3 : w.heap.size < w3.heap.size := block_lt_of_cell cew_heap_size3_0
    have cew_heap_size3_1 : w3.cell? ⟨w.heap.size, 1, none⟩ = some (.int .i64 X2) := keep_cell hb3 (by first | assumption | (go_simp; done) | (simp; done) | simp [*])
    have cew_heap_size_13_0 : w3.cell? ⟨w.heap.size + 1, 0, none⟩ = some (.int .i64 0) := keep_cell hb3 (by first | assumption | (go_simp; done) | (simp; done) | simp [*])
    have zew_heap_size_13 : w.heap.size + 1 < w3.heap.size := block_lt_of_cell cew_heap_size_13_0
    have cew_heap_size_13_1 : w3.cell? ⟨w.heap.size + 1, 1, none⟩ = some (.int .i64 0) := keep_cell hb3 (by first | assumption | (go_simp; done) | (simp; done) | simp [*])
    have B3 : Below w.heap.size w w3 := bl_call (by repeat (first | exact Below.refl _ _ | exact Nat.le_refl _ | refine Below.alloc ?_ ?_ _ | refine Below.setCell ?_ ?_ _ | refine Below.drew ?_ | refine bl_drewN ?_ _ | (assumption) | refine bl_call ?_ (by assumption) ?_ | omega | (simp <;> omega))) hb3 (by first | assumption | (simp; done) | (simp; omega) | omega)
    clear hb3
    have hsz_3 := B3.size
    go_wp2_with fail
    refine (awake_any _).mono ?_
    rintro e w4 ⟨rfl, hb4⟩
    have z4_0 : w.heap.size < w4.heap.size := by have := hb4.size; (try simp at this); omega
    have z4_1 : w.heap.size + 1 < w4.heap.size := by have := hb4.size; (try simp at this); omega
    have cew_heap_size4_0 : w4.cell? ⟨w.heap.size, 0, none⟩ = some (.int .i64 X1) := keep_cell hb4 (by first | assumption | (go_simp; done) | (simp; done) | simp [*])
    have zew_heap_size4 : w.heap.size < w4.heap.size := block_lt_of_cell cew_heap_size4_0
    have cew_heap_size4_1 : w4.cell? ⟨w.heap.size, 1, none⟩ = some (.int .i64 X2) := keep_cell hb4 (by first | assumption | (go_simp; done) | (simp; done) | simp [*])
    have cew_heap_size_14_0 : w4.cell? ⟨w.heap.size + 1, 0, none⟩ = some (.int .i64 0) := keep_cell hb4 (by first | assumption | (go_simp; done) | (simp; done) | simp [*])
    have zew_heap_size_14 : w.heap.size + 1 < w4.heap.size := block_lt_of_cell cew_heap_size_14_0
    have cew_heap_size_14_1 : w4.cell? ⟨w.heap.size + 1, 1, none⟩ = some (.int .i64 0) := keep_cell hb4 (by first | assumption | (go_simp; done) | (simp; done) | simp [*])
    have cew3_heap_size4_0 : w4.cell? ⟨w3.heap.size, 0, none⟩ = some (.int .i64 0) := keep_cell hb4 (by first | assumption | (go_simp; done) | (simp; done) | simp [*])
    have zew3_heap_size4 : w3.heap.size < w4.heap.size := block_lt_of_cell cew3_heap_size4_0
    have cew3_heap_size4_1 : w4.cell? ⟨w3.heap.size, 1, none⟩ = some (.int .i64 0) := keep_cell hb4 (by first | assumption | (go_simp; done) | (simp; done) | simp [*])
    have cew3_heap_size_14_0 : w4.cell? ⟨w3.heap.size + 1, 0, none⟩ = some (.int .i64 0) := keep_cell hb4 (by first | assumption | (go_simp; done) | (simp; done) | simp [*])
    have zew3_heap_size_14 : w3.heap.size + 1 < w4.heap.size := block_lt_of_cell cew3_heap_size_14_0
    have cew3_heap_size_14_1 : w4.cell? ⟨w3.heap.size + 1, 1, none⟩ = some (.int .i64 0) := keep_cell hb4 (by first | assumption | (go_simp; done) | (simp; done) | simp [*])
    have B4 : Below w.heap.size w w4 := bl_call (by repeat (first | exact Below.refl _ _ | exact Nat.le_refl _ | refine Below.alloc ?_ ?_ _ | refine Below.setCell ?_ ?_ _ | refine Below.drew ?_ | refine bl_drewN ?_ _ | (assumption) | refine bl_call ?_ (by assumption) ?_ | omega | (simp <;> omega))) hb4 (by first | assumption | (simp; done) | (simp; omega) | omega)
    clear hb4
    have hsz_4 := B4.size
    go_wp2_with fail
    go_ret
    exact ⟨rfl, (by repeat (first | exact Below.refl _ _ | exact Nat.le_refl _ | refine Below.alloc ?_ ?_ _ | refine Below.setCell ?_ ?_ _ | refine Below.drew ?_ | refine bl_drewN ?_ _ | (assumption) | refine bl_call ?_ (by assumption) ?_ | omega | (simp <;> omega)))⟩
  · have hne : ((Y1 == 0) && (Y2 == 0)) = false := by
      cases h : (Y1 == 0) && (Y2 == 0)
      · rfl
      · exfalso; apply h3; simpa using h
    have heq : ∀ wx : World, (binOp .eql 23 (.agg #[.int .i64 Y1, .int .i64 Y2]) (.agg #[.int .i64 0, .int .i64 0])).run Tryd.prog wx = .ok (.bool false) wx := by
      intro wx
      rw [← hne]
      by_cases hc : Y1 = 0 <;> by_cases hd : Y2 = 0 <;> simp [go_sem, hc, hd]
    clear hne
    have hD := fun wx => Divide_yes X1 X2 Y1 Y2 wx nX nY h3
    obtain ⟨hn0, q1, q2, q3, q4⟩ := quo_bd (a := X1) (b := X2) (c := Y1) (d := Y2) (by omega) (by omega) (by omega) (by omega) (by omega) (by omega) (by omega) (by omega) h3
    have hrs := rest_small X1 X2 Y1 Y2 hn0
    have hdv : divV X1 X2 Y1 Y2 = if isN (quo X1 X2 Y1 Y2).1 (quo X1 X2 Y1 Y2).2 && isN (X1 - ((quo X1 X2 Y1 Y2).1 * Y1 + (quo X1 X2 Y1 Y2).2 * Y2)) (X2 - ((quo X1 X2 Y1 Y2).1 * Y2 + (quo X1 X2 Y1 Y2).2 * Y1 + (quo X1 X2 Y1 Y2).2 * Y2)) then .tuple #[.agg #[.int .i64 (quo X1 X2 Y1 Y2).1, .int .i64 (quo X1 X2 Y1 Y2).2], .agg #[.int .i64 (X1 - ((quo X1 X2 Y1 Y2).1 * Y1 + (quo X1 X2 Y1 Y2).2 * Y2)), .int .i64 (X2 - ((quo X1 X2 Y1 Y2).1 * Y2 + (quo X1 X2 Y1 Y2).2 * Y1 + (quo X1 X2 Y1 Y2).2 * Y2))], .int .i64 0]
      else .tuple #[.agg #[.int .i64 0, .int .i64 0], .agg #[.int .i64 0, .int .i64 0], .int .i64 5] := rfl
    rw [hdv] at hD
    clear hdv
    obtain ⟨⟨Q1, Q2⟩, hq⟩ : ∃ q, quo X1 X2 Y1 Y2 = q := ⟨_, rfl⟩
    rw [hq] at hD q1 q2 q3 q4 hrs
    dsimp only at hD q1 q2 q3 q4 hrs
    clear hq
    have HEQ := Lib.hid heq
    clear heq
    by_cases hk : (isN Q1 Q2 && isN (X1 - (Q1 * Y1 + Q2 * Y2)) (X2 - (Q1 * Y2 + Q2 * Y1 + Q2 * Y2))) = true
    · have HC := Lib.hid (fun wx => by have := hD wx; rw [if_pos hk] at this; exact this)
      clear hD
      have k1 : isN Q1 Q2 = true := by cases h : isN Q1 Q2 <;> simp [h] at hk ⊢
      have k2 : isN (X1 - (Q1 * Y1 + Q2 * Y2)) (X2 - (Q1 * Y2 + Q2 * Y1 + Q2 * Y2)) = true := by rw [k1] at hk; simpa using hk
      obtain ⟨b1, b2, b3, b4⟩ := (isN_iff _ _).1 k1
      obtain ⟨b5, b6, b7, b8⟩ := (isN_iff _ _).1 k2
      simp only [] at b1 b2 b3 b4 b5 b6 b7 b8
      have hT := fun wx => refTimes2 Q1 Q2 Y1 Y2 wx (by omega) (by omega) (by omega) (by omega) (by omega) (by omega) (by omega) (by omega)
      have hN1 := fun wx => Norm_yes _ _ wx k2
      have hN2 := fun wx => Norm_yes Y1 Y2 wx nY
      have hP := fun wx => refPlus (Q1 * Y1 + Q2 * Y2) (Q1 * Y2 + Q2 * Y1 + Q2 * Y2) (X1 - (Q1 * Y1 + Q2 * Y2)) (X2 - (Q1 * Y2 + Q2 * Y1 + Q2 * Y2)) wx (by omega) (by omega) (by omega) (by omega)
      rw [show Q1 * Y1 + Q2 * Y2 + (X1 - (Q1 * Y1 + Q2 * Y2)) = X1 by omega, show Q1 * Y2 + Q2 * Y1 + Q2 * Y2 + (X2 - (Q1 * Y2 + Q2 * Y1 + Q2 * Y2)) = X2 by omega] at hP
      unfold nm at hrs hn0
      obtain ⟨R1, hR1⟩ : ∃ x, X1 - (Q1 * Y1 + Q2 * Y2) = x := ⟨_, rfl⟩
      obtain ⟨R2, hR2⟩ : ∃ x, X2 - (Q1 * Y2 + Q2 * Y1 + Q2 * Y2) = x := ⟨_, rfl⟩
      obtain ⟨P1, hP1⟩ : ∃ x, Q1 * Y1 + Q2 * Y2 = x := ⟨_, rfl⟩
      obtain ⟨P2, hP2⟩ : ∃ x, Q1 * Y2 + Q2 * Y1 + Q2 * Y2 = x := ⟨_, rfl⟩
      rw [hR1, hR2] at HC k2 hN1 hP hrs
      rw [hP1, hP2] at hT hP
      clear hP1 hP2 hR1 hR2 hk b5 b6 b7 b8
      obtain ⟨N, hN⟩ : ∃ x, Y1 * Y1 + Y1 * Y2 - Y2 * Y2 = x := ⟨_, rfl⟩
      obtain ⟨M, hM⟩ : ∃ x, R1 * R1 + R1 * R2 - R2 * R2 = x := ⟨_, rfl⟩
      obtain ⟨pa, qa⟩ := mul_bd (a := Y1) (b := Y1) (A := 1000) (B := 1000) y1.1 y1.2 y1.1 y1.2
      obtain ⟨pb, qb⟩ := mul_bd (a := Y1) (b := Y2) (A := 1000) (B := 1000) y1.1 y1.2 y2.1 y2.2
      obtain ⟨pc, qc⟩ := mul_bd (a := Y2) (b := Y2) (A := 1000) (B := 1000) y2.1 y2.2 y2.1 y2.2
      simp only [Int.reduceMul, Int.reduceNeg] at pa qa pb qb pc qc
      have bN : -3000000 ≤ N ∧ N ≤ 3000000 := by omega
      rw [hN] at hN2 hrs hn0
      rw [hM] at hN1 hrs
      have gM : ¬ max N (-N) ≤ max M (-M) := by omega
      have bM : -3000000 ≤ M ∧ M ≤ 3000000 := by omega
      clear hN hM hrs pa qa pb qb pc qc hn0
      -- the multiples
      have hZt := fun wx => tame_any X1 X2 400 wx (by omega) (by omega) (by omega) (by omega) (by omega) (by omega)
      have bZ1 := modZ_bd X1 (2 * 400 + 1) (by decide)
      have bZ2 := modZ_bd X2 (2 * 400 + 1) (by decide)
      obtain ⟨Z1, f1⟩ : ∃ x, modZ X1 (2 * 400 + 1) - 400 = x := ⟨_, rfl⟩
      obtain ⟨Z2, f2⟩ : ∃ x, modZ X2 (2 * 400 + 1) - 400 = x := ⟨_, rfl⟩
      rw [f1, f2] at hZt
      have z1 : -400 ≤ Z1 ∧ Z1 ≤ 400 := by omega
      have z2 : -400 ≤ Z2 ∧ Z2 ≤ 400 := by omega
      clear f1 f2 bZ1 bZ2
      have hT2 := fun wx => refTimes2 Z1 Z2 Y1 Y2 wx (by omega) (by omega) (by omega) (by omega) (by omega) (by omega) (by omega) (by omega)
      have hNQ := fun wx => refNumber Q1 Q2 wx
      have hNR := fun wx => refNumber R1 R2 wx
      rw [k1] at hNQ
      rw [k2] at hNR
      have hbig : (isN (Z1 * Y1 + Z2 * Y2) (Z1 * Y2 + Z2 * Y1 + Z2 * Y2) = true ∧ ∀ wx, Calls Tryd.prog 20 #[.agg #[.int .i64 (Z1 * Y1 + Z2 * Y2), .int .i64 (Z1 * Y2 + Z2 * Y1 + Z2 * Y2)], .agg #[.int .i64 Y1, .int .i64 Y2]] wx fun e w' => e = .returned (.tuple #[.agg #[.int .i64 Z1, .int .i64 Z2], .agg #[.int .i64 0, .int .i64 0], .int .i64 0]) ∧ Below wx.heap.size wx w')
          ∨ (isN (Z1 * Y1 + Z2 * Y2) (Z1 * Y2 + Z2 * Y1 + Z2 * Y2) = false ∧ ∀ wx, Calls Tryd.prog 20 #[.agg #[.int .i64 (Z1 * Y1 + Z2 * Y2), .int .i64 (Z1 * Y2 + Z2 * Y1 + Z2 * Y2)], .agg #[.int .i64 Y1, .int .i64 Y2]] wx fun e w' => e = .returned (.tuple #[.agg #[.int .i64 0, .int .i64 0], .agg #[.int .i64 0, .int .i64 0], .int .i64 2]) ∧ Below wx.heap.size wx w') := by
        by_cases kT : isN (Z1 * Y1 + Z2 * Y2) (Z1 * Y2 + Z2 * Y1 + Z2 * Y2) = true
        · refine .inl ⟨kT, fun wx => ?_⟩
          have h := Divide_yes _ _ Y1 Y2 wx kT nY h3
          have e : divV (Z1 * Y1 + Z2 * Y2) (Z1 * Y2 + Z2 * Y1 + Z2 * Y2) Y1 Y2 = .tuple #[.agg #[.int .i64 Z1, .int .i64 Z2], .agg #[.int .i64 0, .int .i64 0], .int .i64 0] := by
            unfold divV rem
            rw [quo_mul Z1 Z2 Y1 Y2 (fun e => h3 (nm_zero _ _ e))]
            dsimp only
            rw [Int.sub_self, Int.sub_self, num Z1 Z2 (by omega) (by omega) (by omega) (by omega)]
            rfl
          rw [e] at h
          exact h
        · have kT' : isN (Z1 * Y1 + Z2 * Y2) (Z1 * Y2 + Z2 * Y1 + Z2 * Y2) = false := by simpa using kT
          exact .inr ⟨kT', fun wx => Divide_no _ _ Y1 Y2 wx (.inl (by rw [kT', Bool.false_and]))⟩
      obtain ⟨T1, g1⟩ : ∃ x, Z1 * Y1 + Z2 * Y2 = x := ⟨_, rfl⟩
      obtain ⟨T2, g2⟩ : ∃ x, Z1 * Y2 + Z2 * Y1 + Z2 * Y2 = x := ⟨_, rfl⟩
      rw [g1, g2] at hT2 hbig
      clear g1 g2 num nX nY h3
      have HBIG := Lib.hid hbig
      have HT := Lib.hid hT
      have HT2 := Lib.hid hT2
      have HP := Lib.hid hP
      have HNQ := Lib.hid hNQ
      have HNR := Lib.hid hNR
      have HN1 := Lib.hid hN1
      have HN2 := Lib.hid hN2
      have HZ := Lib.hid hZt
      have K1 := Lib.hid k1
      have K2 := Lib.hid k2
      clear hbig hT hT2 hP hNQ hNR hN1 hN2 hZt k1 k2 q1 q2 q3 q4
      have heq2 := HEQ.out
      go_wp2_with fail
      refine (HC.out _).mono ?_
      rintro e w3 ⟨rfl, hb3⟩
      have z3_0 : w.heap.size < w3.heap.size := by have := hb3.size; (try simp at this); omega
      have z3_1 : w.heap.size + 1 < w3.heap.size := by have := hb3.size; (try simp at this); omega
      have cew_heap_size3_0 : w3.cell? ⟨w.heap.size, 0, none⟩ = some (.int .i64 X1) := keep_cell hb3 (by first | assumption | (go_simp; done) | (simp; done) | simp [*])
      have zew_heap_size3 : w.heap.size < w3.heap.size := block_lt_of_cell cew_heap_size3_0
      have cew_heap_size3_1 : w3.cell? ⟨w.heap.size, 1, none⟩ = some (.int .i64 X2) := keep_cell hb3 (by first | assumption | (go_simp; done) | (simp; done) | simp [*])
      have cew_heap_size_13_0 : w3.cell? ⟨w.heap.size + 1, 0, none⟩ = some (.int .i64 Y1) := keep_cell hb3 (by first | assumption | (go_simp; done) | (simp; done) | simp [*])
      have zew_heap_size_13 : w.heap.size + 1 < w3.heap.size := block_lt_of_cell cew_heap_size_13_0
      have cew_heap_size_13_1 : w3.cell? ⟨w.heap.size + 1, 1, none⟩ = some (.int .i64 Y2) := keep_cell hb3 (by first | assumption | (go_simp; done) | (simp; done) | simp [*])
      have B3 : Below w.heap.size w w3 := bl_call (by repeat (first | exact Below.refl _ _ | exact Nat.le_refl _ | refine Below.alloc ?_ ?_ _ | refine Below.setCell ?_ ?_ _ | refine Below.drew ?_ | refine bl_drewN ?_ _ | (assumption) | refine bl_call ?_ (by assumption) ?_ | omega | (simp <;> omega))) hb3 (by first | assumption | (simp; done) | (simp; omega) | omega)
      clear hb3
      have hsz_3 := B3.size
      go_upto_region 8 with fail
      clear heq2
      refine with_act fun a0 ha0 => ?_
      refine wp_region_inv (by kernel_rfl) (by kernel_rfl) (fun s a' w' => ∃ v52 v53 v54 v55 v56 v57 v58 v59 v60 v61 v62 v63 v64 v65 v66 v67 v68 : Value, a' = putL a0 [(52, v52), (53, v53), (54, v54), (55, v55), (56, v56), (57, v57), (58, v58), (59, v59), (60, v60), (61, v61), (62, v62), (63, v63), (64, v64), (65, v65), (66, v66), (67, v67), (68, v68)] ∧ Hid ((s 0 = true → v52 = .agg #[.int .i64 Q1, .int .i64 Q2]) ∧ (s 1 = true → v53 = .bool true) ∧ (s 2 = true → v54 = .bool false) ∧ (s 3 = true → v55 = .bool false) ∧ (s 4 = true → v56 = .agg #[.int .i64 R1, .int .i64 R2]) ∧ (s 5 = true → v57 = .bool true) ∧ (s 6 = true → v58 = .bool false) ∧ (s 7 = true → v59 = .bool false) ∧ (s 8 = true → v60 = .bool false) ∧ (s 9 = true → v61 = .agg #[.int .i64 Q1, .int .i64 Q2]) ∧ (s 10 = true → v62 = .agg #[.int .i64 Y1, .int .i64 Y2]) ∧ (s 11 = true → v63 = .agg #[.int .i64 P1, .int .i64 P2]) ∧ (s 12 = true → v64 = .agg #[.int .i64 R1, .int .i64 R2]) ∧ (s 13 = true → v65 = .agg #[.int .i64 X1, .int .i64 X2]) ∧ (s 14 = true → v66 = .agg #[.int .i64 X1, .int .i64 X2]) ∧ (s 15 = true → v67 = .bool false) ∧ (s 16 = true → v68 = .bool false) ∧ True) ∧ BelX [] ((w3.alloc (.cells #[.int .i64 Q1, .int .i64 Q2] 23)).alloc (.cells #[.int .i64 R1, .int .i64 R2] 23)) w' ∧ True) ?x2hzero ⟨?x2hs0, ?x2hs1, ?x2hs2, ?x2hs3, ?x2hs4, ?x2hs5, ?x2hs6, ?x2hs7, ?x2hs8, ?x2hs9, ?x2hs10, ?x2hs11, ?x2hs12, ?x2hs13, ?x2hs14, ?x2hs15, ?x2hs16, trivial⟩ ?x2hdone
      case x2hzero =>
        refine ⟨a0.tmps.getD 52 undef, a0.tmps.getD 53 undef, a0.tmps.getD 54 undef, a0.tmps.getD 55 undef, a0.tmps.getD 56 undef, a0.tmps.getD 57 undef, a0.tmps.getD 58 undef, a0.tmps.getD 59 undef, a0.tmps.getD 60 undef, a0.tmps.getD 61 undef, a0.tmps.getD 62 undef, a0.tmps.getD 63 undef, a0.tmps.getD 64 undef, a0.tmps.getD 65 undef, a0.tmps.getD 66 undef, a0.tmps.getD 67 undef, a0.tmps.getD 68 undef, ?_, ?_, ?_, trivial⟩
        · simp only [putL, put_self]
        · exact Lib.hid ⟨fun h => (by simp at h), fun h => (by simp at h), fun h => (by simp at h), fun h => (by simp at h), fun h => (by simp at h), fun h => (by simp at h), fun h => (by simp at h), fun h => (by simp at h), fun h => (by simp at h), fun h => (by simp at h), fun h => (by simp at h), fun h => (by simp at h), fun h => (by simp at h), fun h => (by simp at h), fun h => (by simp at h), fun h => (by simp at h), fun h => (by simp at h), trivial⟩
        · exact BelX.start _ _
      case x2hs0 =>
        intro s a' w' hsk hdep hI K hK
        try dsimp only at hI hK
        obtain ⟨v52, v53, v54, v55, v56, v57, v58, v59, v60, v61, v62, v63, v64, v65, v66, v67, v68, hact, hR, hX, _⟩ := hI
        subst hact
        have HK := Lib.hid hK
        clear hK
        have kc0 : w'.cell? ⟨w.heap.size, 0, none⟩ = some (.int .i64 X1) := hX.cell (by first | (simp; done) | (simp; omega)) (by first | assumption | (go_simp; done) | (simp; done))
        have kc1 : w'.cell? ⟨w.heap.size, 1, none⟩ = some (.int .i64 X2) := hX.cell (by first | (simp; done) | (simp; omega)) (by first | assumption | (go_simp; done) | (simp; done))
        have kc2 : w'.cell? ⟨w.heap.size + 1, 0, none⟩ = some (.int .i64 Y1) := hX.cell (by first | (simp; done) | (simp; omega)) (by first | assumption | (go_simp; done) | (simp; done))
        have kc3 : w'.cell? ⟨w.heap.size + 1, 1, none⟩ = some (.int .i64 Y2) := hX.cell (by first | (simp; done) | (simp; omega)) (by first | assumption | (go_simp; done) | (simp; done))
        have kc4 : w'.cell? ⟨w3.heap.size, 0, none⟩ = some (.int .i64 Q1) := hX.cell (by first | (simp; done) | (simp; omega)) (by first | assumption | (go_simp; done) | (simp; done))
        have kc5 : w'.cell? ⟨w3.heap.size, 1, none⟩ = some (.int .i64 Q2) := hX.cell (by first | (simp; done) | (simp; omega)) (by first | assumption | (go_simp; done) | (simp; done))
        have kc6 : w'.cell? ⟨w3.heap.size + 1, 0, none⟩ = some (.int .i64 R1) := hX.cell (by first | (simp; done) | (simp; omega)) (by first | assumption | (go_simp; done) | (simp; done))
        have kc7 : w'.cell? ⟨w3.heap.size + 1, 1, none⟩ = some (.int .i64 R2) := hX.cell (by first | (simp; done) | (simp; omega)) (by first | assumption | (go_simp; done) | (simp; done))
        clear hdep
        refine StepG.mk rfl ?_; rw [ha0]; simp only [putL, Act.put, List.setIfInBounds_toArray, List.set_cons_zero, List.set_cons_succ]
        go_wp2_with fail
        refine HK.out _ _ ?_
        refine ⟨(.agg #[.int .i64 Q1, .int .i64 Q2]), v53, v54, v55, v56, v57, v58, v59, v60, v61, v62, v63, v64, v65, v66, v67, v68, (by rw [ha0]; simp only [putL, Act.put, List.setIfInBounds_toArray, List.set_cons_zero, List.set_cons_succ]), ?_, ?_, trivial⟩
        · obtain ⟨h52, h53, h54, h55, h56, h57, h58, h59, h60, h61, h62, h63, h64, h65, h66, h67, h68, _⟩ := hR.out
          exact Lib.hid ⟨fun _ => rfl, fun h => h53 (by simpa using h), fun h => h54 (by simpa using h), fun h => h55 (by simpa using h), fun h => h56 (by simpa using h), fun h => h57 (by simpa using h), fun h => h58 (by simpa using h), fun h => h59 (by simpa using h), fun h => h60 (by simpa using h), fun h => h61 (by simpa using h), fun h => h62 (by simpa using h), fun h => h63 (by simpa using h), fun h => h64 (by simpa using h), fun h => h65 (by simpa using h), fun h => h66 (by simpa using h), fun h => h67 (by simpa using h), fun h => h68 (by simpa using h), trivial⟩
        · exact hX
      case x2hs1 =>
        intro s a' w' hsk hdep hI K hK
        try dsimp only at hI hK
        obtain ⟨v52, v53, v54, v55, v56, v57, v58, v59, v60, v61, v62, v63, v64, v65, v66, v67, v68, hact, hR, hX, _⟩ := hI
        subst hact
        have HK := Lib.hid hK
        clear hK
        have e52 : v52 = .agg #[.int .i64 Q1, .int .i64 Q2] := by obtain ⟨h52, h53, h54, h55, h56, h57, h58, h59, h60, h61, h62, h63, h64, h65, h66, h67, h68, _⟩ := hR.out; exact h52 (hdep ⟨0, .data⟩ (by simp) rfl)
        subst e52
        have kc0 : w'.cell? ⟨w.heap.size, 0, none⟩ = some (.int .i64 X1) := hX.cell (by first | (simp; done) | (simp; omega)) (by first | assumption | (go_simp; done) | (simp; done))
        have kc1 : w'.cell? ⟨w.heap.size, 1, none⟩ = some (.int .i64 X2) := hX.cell (by first | (simp; done) | (simp; omega)) (by first | assumption | (go_simp; done) | (simp; done))
        have kc2 : w'.cell? ⟨w.heap.size + 1, 0, none⟩ = some (.int .i64 Y1) := hX.cell (by first | (simp; done) | (simp; omega)) (by first | assumption | (go_simp; done) | (simp; done))
        have kc3 : w'.cell? ⟨w.heap.size + 1, 1, none⟩ = some (.int .i64 Y2) := hX.cell (by first | (simp; done) | (simp; omega)) (by first | assumption | (go_simp; done) | (simp; done))
        have kc4 : w'.cell? ⟨w3.heap.size, 0, none⟩ = some (.int .i64 Q1) := hX.cell (by first | (simp; done) | (simp; omega)) (by first | assumption | (go_simp; done) | (simp; done))
        have kc5 : w'.cell? ⟨w3.heap.size, 1, none⟩ = some (.int .i64 Q2) := hX.cell (by first | (simp; done) | (simp; omega)) (by first | assumption | (go_simp; done) | (simp; done))
        have kc6 : w'.cell? ⟨w3.heap.size + 1, 0, none⟩ = some (.int .i64 R1) := hX.cell (by first | (simp; done) | (simp; omega)) (by first | assumption | (go_simp; done) | (simp; done))
        have kc7 : w'.cell? ⟨w3.heap.size + 1, 1, none⟩ = some (.int .i64 R2) := hX.cell (by first | (simp; done) | (simp; omega)) (by first | assumption | (go_simp; done) | (simp; done))
        clear hdep
        refine StepG.mk rfl ?_; rw [ha0]; simp only [putL, Act.put, List.setIfInBounds_toArray, List.set_cons_zero, List.set_cons_succ]
        go_wp2_with fail
        refine ((HNQ.out _)).mono ?_
        rintro e wn ⟨rfl, hb⟩
        go_wp2_with fail
        refine HK.out _ _ ?_
        refine ⟨(.agg #[.int .i64 Q1, .int .i64 Q2]), (.bool true), v54, v55, v56, v57, v58, v59, v60, v61, v62, v63, v64, v65, v66, v67, v68, (by rw [ha0]; simp only [putL, Act.put, List.setIfInBounds_toArray, List.set_cons_zero, List.set_cons_succ]), ?_, ?_, trivial⟩
        · obtain ⟨h52, h53, h54, h55, h56, h57, h58, h59, h60, h61, h62, h63, h64, h65, h66, h67, h68, _⟩ := hR.out
          exact Lib.hid ⟨fun _ => rfl, fun _ => rfl, fun h => h54 (by simpa using h), fun h => h55 (by simpa using h), fun h => h56 (by simpa using h), fun h => h57 (by simpa using h), fun h => h58 (by simpa using h), fun h => h59 (by simpa using h), fun h => h60 (by simpa using h), fun h => h61 (by simpa using h), fun h => h62 (by simpa using h), fun h => h63 (by simpa using h), fun h => h64 (by simpa using h), fun h => h65 (by simpa using h), fun h => h66 (by simpa using h), fun h => h67 (by simpa using h), fun h => h68 (by simpa using h), trivial⟩
        · exact hX.call hb
      case x2hs2 =>
        intro s a' w' hsk hdep hI K hK
        try dsimp only at hI hK
        obtain ⟨v52, v53, v54, v55, v56, v57, v58, v59, v60, v61, v62, v63, v64, v65, v66, v67, v68, hact, hR, hX, _⟩ := hI
        subst hact
        have HK := Lib.hid hK
        clear hK
        have e53 : v53 = .bool true := by obtain ⟨h52, h53, h54, h55, h56, h57, h58, h59, h60, h61, h62, h63, h64, h65, h66, h67, h68, _⟩ := hR.out; exact h53 (hdep ⟨1, .data⟩ (by simp) rfl)
        subst e53
        have kc0 : w'.cell? ⟨w.heap.size, 0, none⟩ = some (.int .i64 X1) := hX.cell (by first | (simp; done) | (simp; omega)) (by first | assumption | (go_simp; done) | (simp; done))
        have kc1 : w'.cell? ⟨w.heap.size, 1, none⟩ = some (.int .i64 X2) := hX.cell (by first | (simp; done) | (simp; omega)) (by first | assumption | (go_simp; done) | (simp; done))
        have kc2 : w'.cell? ⟨w.heap.size + 1, 0, none⟩ = some (.int .i64 Y1) := hX.cell (by first | (simp; done) | (simp; omega)) (by first | assumption | (go_simp; done) | (simp; done))
        have kc3 : w'.cell? ⟨w.heap.size + 1, 1, none⟩ = some (.int .i64 Y2) := hX.cell (by first | (simp; done) | (simp; omega)) (by first | assumption | (go_simp; done) | (simp; done))
        have kc4 : w'.cell? ⟨w3.heap.size, 0, none⟩ = some (.int .i64 Q1) := hX.cell (by first | (simp; done) | (simp; omega)) (by first | assumption | (go_simp; done) | (simp; done))
        have kc5 : w'.cell? ⟨w3.heap.size, 1, none⟩ = some (.int .i64 Q2) := hX.cell (by first | (simp; done) | (simp; omega)) (by first | assumption | (go_simp; done) | (simp; done))
        have kc6 : w'.cell? ⟨w3.heap.size + 1, 0, none⟩ = some (.int .i64 R1) := hX.cell (by first | (simp; done) | (simp; omega)) (by first | assumption | (go_simp; done) | (simp; done))
        have kc7 : w'.cell? ⟨w3.heap.size + 1, 1, none⟩ = some (.int .i64 R2) := hX.cell (by first | (simp; done) | (simp; omega)) (by first | assumption | (go_simp; done) | (simp; done))
        clear hdep
        refine StepG.mk rfl ?_; rw [ha0]; simp only [putL, Act.put, List.setIfInBounds_toArray, List.set_cons_zero, List.set_cons_succ]
        go_wp2_with fail
        refine HK.out _ _ ?_
        refine ⟨v52, (.bool true), (.bool false), v55, v56, v57, v58, v59, v60, v61, v62, v63, v64, v65, v66, v67, v68, (by rw [ha0]; simp only [putL, Act.put, List.setIfInBounds_toArray, List.set_cons_zero, List.set_cons_succ]), ?_, ?_, trivial⟩
        · obtain ⟨h52, h53, h54, h55, h56, h57, h58, h59, h60, h61, h62, h63, h64, h65, h66, h67, h68, _⟩ := hR.out
          exact Lib.hid ⟨fun h => h52 (by simpa using h), fun _ => rfl, fun _ => rfl, fun h => h55 (by simpa using h), fun h => h56 (by simpa using h), fun h => h57 (by simpa using h), fun h => h58 (by simpa using h), fun h => h59 (by simpa using h), fun h => h60 (by simpa using h), fun h => h61 (by simpa using h), fun h => h62 (by simpa using h), fun h => h63 (by simpa using h), fun h => h64 (by simpa using h), fun h => h65 (by simpa using h), fun h => h66 (by simpa using h), fun h => h67 (by simpa using h), fun h => h68 (by simpa using h), trivial⟩
        · exact hX
      case x2hs3 =>
        intro s a' w' hsk hdep hI K hK
        try dsimp only at hI hK
        obtain ⟨v52, v53, v54, v55, v56, v57, v58, v59, v60, v61, v62, v63, v64, v65, v66, v67, v68, hact, hR, hX, _⟩ := hI
        subst hact
        have HK := Lib.hid hK
        clear hK
        have e54 : v54 = .bool false := by obtain ⟨h52, h53, h54, h55, h56, h57, h58, h59, h60, h61, h62, h63, h64, h65, h66, h67, h68, _⟩ := hR.out; exact h54 (hdep ⟨2, .data⟩ (by simp) rfl)
        subst e54
        have kc0 : w'.cell? ⟨w.heap.size, 0, none⟩ = some (.int .i64 X1) := hX.cell (by first | (simp; done) | (simp; omega)) (by first | assumption | (go_simp; done) | (simp; done))
        have kc1 : w'.cell? ⟨w.heap.size, 1, none⟩ = some (.int .i64 X2) := hX.cell (by first | (simp; done) | (simp; omega)) (by first | assumption | (go_simp; done) | (simp; done))
        have kc2 : w'.cell? ⟨w.heap.size + 1, 0, none⟩ = some (.int .i64 Y1) := hX.cell (by first | (simp; done) | (simp; omega)) (by first | assumption | (go_simp; done) | (simp; done))
        have kc3 : w'.cell? ⟨w.heap.size + 1, 1, none⟩ = some (.int .i64 Y2) := hX.cell (by first | (simp; done) | (simp; omega)) (by first | assumption | (go_simp; done) | (simp; done))
        have kc4 : w'.cell? ⟨w3.heap.size, 0, none⟩ = some (.int .i64 Q1) := hX.cell (by first | (simp; done) | (simp; omega)) (by first | assumption | (go_simp; done) | (simp; done))
        have kc5 : w'.cell? ⟨w3.heap.size, 1, none⟩ = some (.int .i64 Q2) := hX.cell (by first | (simp; done) | (simp; omega)) (by first | assumption | (go_simp; done) | (simp; done))
        have kc6 : w'.cell? ⟨w3.heap.size + 1, 0, none⟩ = some (.int .i64 R1) := hX.cell (by first | (simp; done) | (simp; omega)) (by first | assumption | (go_simp; done) | (simp; done))
        have kc7 : w'.cell? ⟨w3.heap.size + 1, 1, none⟩ = some (.int .i64 R2) := hX.cell (by first | (simp; done) | (simp; omega)) (by first | assumption | (go_simp; done) | (simp; done))
        clear hdep
        refine StepG.mk rfl ?_; rw [ha0]; simp only [putL, Act.put, List.setIfInBounds_toArray, List.set_cons_zero, List.set_cons_succ]
        go_wp2_with fail
        refine HK.out _ _ ?_
        refine ⟨v52, v53, (.bool false), (.bool false), v56, v57, v58, v59, v60, v61, v62, v63, v64, v65, v66, v67, v68, (by rw [ha0]; simp only [putL, Act.put, List.setIfInBounds_toArray, List.set_cons_zero, List.set_cons_succ]), ?_, ?_, trivial⟩
        · obtain ⟨h52, h53, h54, h55, h56, h57, h58, h59, h60, h61, h62, h63, h64, h65, h66, h67, h68, _⟩ := hR.out
          exact Lib.hid ⟨fun h => h52 (by simpa using h), fun h => h53 (by simpa using h), fun _ => rfl, fun _ => rfl, fun h => h56 (by simpa using h), fun h => h57 (by simpa using h), fun h => h58 (by simpa using h), fun h => h59 (by simpa using h), fun h => h60 (by simpa using h), fun h => h61 (by simpa using h), fun h => h62 (by simpa using h), fun h => h63 (by simpa using h), fun h => h64 (by simpa using h), fun h => h65 (by simpa using h), fun h => h66 (by simpa using h), fun h => h67 (by simpa using h), fun h => h68 (by simpa using h), trivial⟩
        · exact hX
      case x2hs4 =>
        intro s a' w' hsk hdep hI K hK
        try dsimp only at hI hK
        obtain ⟨v52, v53, v54, v55, v56, v57, v58, v59, v60, v61, v62, v63, v64, v65, v66, v67, v68, hact, hR, hX, _⟩ := hI
        subst hact
        have HK := Lib.hid hK
        clear hK
        have e55 : v55 = .bool false := by obtain ⟨h52, h53, h54, h55, h56, h57, h58, h59, h60, h61, h62, h63, h64, h65, h66, h67, h68, _⟩ := hR.out; exact h55 (hdep ⟨3, .guard⟩ (by simp) rfl)
        subst e55
        have kc0 : w'.cell? ⟨w.heap.size, 0, none⟩ = some (.int .i64 X1) := hX.cell (by first | (simp; done) | (simp; omega)) (by first | assumption | (go_simp; done) | (simp; done))
        have kc1 : w'.cell? ⟨w.heap.size, 1, none⟩ = some (.int .i64 X2) := hX.cell (by first | (simp; done) | (simp; omega)) (by first | assumption | (go_simp; done) | (simp; done))
        have kc2 : w'.cell? ⟨w.heap.size + 1, 0, none⟩ = some (.int .i64 Y1) := hX.cell (by first | (simp; done) | (simp; omega)) (by first | assumption | (go_simp; done) | (simp; done))
        have kc3 : w'.cell? ⟨w.heap.size + 1, 1, none⟩ = some (.int .i64 Y2) := hX.cell (by first | (simp; done) | (simp; omega)) (by first | assumption | (go_simp; done) | (simp; done))
        have kc4 : w'.cell? ⟨w3.heap.size, 0, none⟩ = some (.int .i64 Q1) := hX.cell (by first | (simp; done) | (simp; omega)) (by first | assumption | (go_simp; done) | (simp; done))
        have kc5 : w'.cell? ⟨w3.heap.size, 1, none⟩ = some (.int .i64 Q2) := hX.cell (by first | (simp; done) | (simp; omega)) (by first | assumption | (go_simp; done) | (simp; done))
        have kc6 : w'.cell? ⟨w3.heap.size + 1, 0, none⟩ = some (.int .i64 R1) := hX.cell (by first | (simp; done) | (simp; omega)) (by first | assumption | (go_simp; done) | (simp; done))
        have kc7 : w'.cell? ⟨w3.heap.size + 1, 1, none⟩ = some (.int .i64 R2) := hX.cell (by first | (simp; done) | (simp; omega)) (by first | assumption | (go_simp; done) | (simp; done))
        clear hdep
        refine StepG.lay ?_; rw [ha0]; simp only [putL, Act.put, List.setIfInBounds_toArray, List.set_cons_zero, List.set_cons_succ]
        go_wp2_with fail
        refine HK.out _ _ ?_
        refine ⟨v52, v53, v54, (.bool false), (.agg #[.int .i64 R1, .int .i64 R2]), v57, v58, v59, v60, v61, v62, v63, v64, v65, v66, v67, v68, (by rw [ha0]; simp only [putL, Act.put, List.setIfInBounds_toArray, List.set_cons_zero, List.set_cons_succ]), ?_, ?_, trivial⟩
        · obtain ⟨h52, h53, h54, h55, h56, h57, h58, h59, h60, h61, h62, h63, h64, h65, h66, h67, h68, _⟩ := hR.out
          exact Lib.hid ⟨fun h => h52 (by simpa using h), fun h => h53 (by simpa using h), fun h => h54 (by simpa using h), fun _ => rfl, fun _ => rfl, fun h => h57 (by simpa using h), fun h => h58 (by simpa using h), fun h => h59 (by simpa using h), fun h => h60 (by simpa using h), fun h => h61 (by simpa using h), fun h => h62 (by simpa using h), fun h => h63 (by simpa using h), fun h => h64 (by simpa using h), fun h => h65 (by simpa using h), fun h => h66 (by simpa using h), fun h => h67 (by simpa using h), fun h => h68 (by simpa using h), trivial⟩
        · exact hX
      case x2hs5 =>
        intro s a' w' hsk hdep hI K hK
        try dsimp only at hI hK
        obtain ⟨v52, v53, v54, v55, v56, v57, v58, v59, v60, v61, v62, v63, v64, v65, v66, v67, v68, hact, hR, hX, _⟩ := hI
        subst hact
        have HK := Lib.hid hK
        clear hK
        have e56 : v56 = .agg #[.int .i64 R1, .int .i64 R2] := by obtain ⟨h52, h53, h54, h55, h56, h57, h58, h59, h60, h61, h62, h63, h64, h65, h66, h67, h68, _⟩ := hR.out; exact h56 (hdep ⟨4, .data⟩ (by simp) rfl)
        subst e56
        have e55 : v55 = .bool false := by obtain ⟨h52, h53, h54, h55, h56, h57, h58, h59, h60, h61, h62, h63, h64, h65, h66, h67, h68, _⟩ := hR.out; exact h55 (hdep ⟨3, .guard⟩ (by simp) rfl)
        subst e55
        have kc0 : w'.cell? ⟨w.heap.size, 0, none⟩ = some (.int .i64 X1) := hX.cell (by first | (simp; done) | (simp; omega)) (by first | assumption | (go_simp; done) | (simp; done))
        have kc1 : w'.cell? ⟨w.heap.size, 1, none⟩ = some (.int .i64 X2) := hX.cell (by first | (simp; done) | (simp; omega)) (by first | assumption | (go_simp; done) | (simp; done))
        have kc2 : w'.cell? ⟨w.heap.size + 1, 0, none⟩ = some (.int .i64 Y1) := hX.cell (by first | (simp; done) | (simp; omega)) (by first | assumption | (go_simp; done) | (simp; done))
        have kc3 : w'.cell? ⟨w.heap.size + 1, 1, none⟩ = some (.int .i64 Y2) := hX.cell (by first | (simp; done) | (simp; omega)) (by first | assumption | (go_simp; done) | (simp; done))
        have kc4 : w'.cell? ⟨w3.heap.size, 0, none⟩ = some (.int .i64 Q1) := hX.cell (by first | (simp; done) | (simp; omega)) (by first | assumption | (go_simp; done) | (simp; done))
        have kc5 : w'.cell? ⟨w3.heap.size, 1, none⟩ = some (.int .i64 Q2) := hX.cell (by first | (simp; done) | (simp; omega)) (by first | assumption | (go_simp; done) | (simp; done))
        have kc6 : w'.cell? ⟨w3.heap.size + 1, 0, none⟩ = some (.int .i64 R1) := hX.cell (by first | (simp; done) | (simp; omega)) (by first | assumption | (go_simp; done) | (simp; done))
        have kc7 : w'.cell? ⟨w3.heap.size + 1, 1, none⟩ = some (.int .i64 R2) := hX.cell (by first | (simp; done) | (simp; omega)) (by first | assumption | (go_simp; done) | (simp; done))
        clear hdep
        refine StepG.lay ?_; rw [ha0]; simp only [putL, Act.put, List.setIfInBounds_toArray, List.set_cons_zero, List.set_cons_succ]
        go_wp2_with fail
        refine ((HNR.out _)).mono ?_
        rintro e wn ⟨rfl, hb⟩
        go_wp2_with fail
        refine HK.out _ _ ?_
        refine ⟨v52, v53, v54, (.bool false), (.agg #[.int .i64 R1, .int .i64 R2]), (.bool true), v58, v59, v60, v61, v62, v63, v64, v65, v66, v67, v68, (by rw [ha0]; simp only [putL, Act.put, List.setIfInBounds_toArray, List.set_cons_zero, List.set_cons_succ]), ?_, ?_, trivial⟩
        · obtain ⟨h52, h53, h54, h55, h56, h57, h58, h59, h60, h61, h62, h63, h64, h65, h66, h67, h68, _⟩ := hR.out
          exact Lib.hid ⟨fun h => h52 (by simpa using h), fun h => h53 (by simpa using h), fun h => h54 (by simpa using h), fun _ => rfl, fun _ => rfl, fun _ => rfl, fun h => h58 (by simpa using h), fun h => h59 (by simpa using h), fun h => h60 (by simpa using h), fun h => h61 (by simpa using h), fun h => h62 (by simpa using h), fun h => h63 (by simpa using h), fun h => h64 (by simpa using h), fun h => h65 (by simpa using h), fun h => h66 (by simpa using h), fun h => h67 (by simpa using h), fun h => h68 (by simpa using h), trivial⟩
        · exact hX.call hb
      case x2hs6 =>
        intro s a' w' hsk hdep hI K hK
        try dsimp only at hI hK
        obtain ⟨v52, v53, v54, v55, v56, v57, v58, v59, v60, v61, v62, v63, v64, v65, v66, v67, v68, hact, hR, hX, _⟩ := hI
        subst hact
        have HK := Lib.hid hK
        clear hK
        have e57 : v57 = .bool true := by obtain ⟨h52, h53, h54, h55, h56, h57, h58, h59, h60, h61, h62, h63, h64, h65, h66, h67, h68, _⟩ := hR.out; exact h57 (hdep ⟨5, .data⟩ (by simp) rfl)
        subst e57
        have e55 : v55 = .bool false := by obtain ⟨h52, h53, h54, h55, h56, h57, h58, h59, h60, h61, h62, h63, h64, h65, h66, h67, h68, _⟩ := hR.out; exact h55 (hdep ⟨3, .guard⟩ (by simp) rfl)
        subst e55
        have kc0 : w'.cell? ⟨w.heap.size, 0, none⟩ = some (.int .i64 X1) := hX.cell (by first | (simp; done) | (simp; omega)) (by first | assumption | (go_simp; done) | (simp; done))
        have kc1 : w'.cell? ⟨w.heap.size, 1, none⟩ = some (.int .i64 X2) := hX.cell (by first | (simp; done) | (simp; omega)) (by first | assumption | (go_simp; done) | (simp; done))
        have kc2 : w'.cell? ⟨w.heap.size + 1, 0, none⟩ = some (.int .i64 Y1) := hX.cell (by first | (simp; done) | (simp; omega)) (by first | assumption | (go_simp; done) | (simp; done))
        have kc3 : w'.cell? ⟨w.heap.size + 1, 1, none⟩ = some (.int .i64 Y2) := hX.cell (by first | (simp; done) | (simp; omega)) (by first | assumption | (go_simp; done) | (simp; done))
        have kc4 : w'.cell? ⟨w3.heap.size, 0, none⟩ = some (.int .i64 Q1) := hX.cell (by first | (simp; done) | (simp; omega)) (by first | assumption | (go_simp; done) | (simp; done))
        have kc5 : w'.cell? ⟨w3.heap.size, 1, none⟩ = some (.int .i64 Q2) := hX.cell (by first | (simp; done) | (simp; omega)) (by first | assumption | (go_simp; done) | (simp; done))
        have kc6 : w'.cell? ⟨w3.heap.size + 1, 0, none⟩ = some (.int .i64 R1) := hX.cell (by first | (simp; done) | (simp; omega)) (by first | assumption | (go_simp; done) | (simp; done))
        have kc7 : w'.cell? ⟨w3.heap.size + 1, 1, none⟩ = some (.int .i64 R2) := hX.cell (by first | (simp; done) | (simp; omega)) (by first | assumption | (go_simp; done) | (simp; done))
        clear hdep
        refine StepG.lay ?_; rw [ha0]; simp only [putL, Act.put, List.setIfInBounds_toArray, List.set_cons_zero, List.set_cons_succ]
        go_wp2_with fail
        refine HK.out _ _ ?_
        refine ⟨v52, v53, v54, (.bool false), v56, (.bool true), (.bool false), v59, v60, v61, v62, v63, v64, v65, v66, v67, v68, (by rw [ha0]; simp only [putL, Act.put, List.setIfInBounds_toArray, List.set_cons_zero, List.set_cons_succ]), ?_, ?_, trivial⟩
        · obtain ⟨h52, h53, h54, h55, h56, h57, h58, h59, h60, h61, h62, h63, h64, h65, h66, h67, h68, _⟩ := hR.out
          exact Lib.hid ⟨fun h => h52 (by simpa using h), fun h => h53 (by simpa using h), fun h => h54 (by simpa using h), fun _ => rfl, fun h => h56 (by simpa using h), fun _ => rfl, fun _ => rfl, fun h => h59 (by simpa using h), fun h => h60 (by simpa using h), fun h => h61 (by simpa using h), fun h => h62 (by simpa using h), fun h => h63 (by simpa using h), fun h => h64 (by simpa using h), fun h => h65 (by simpa using h), fun h => h66 (by simpa using h), fun h => h67 (by simpa using h), fun h => h68 (by simpa using h), trivial⟩
        · exact hX
      case x2hs7 =>
        intro s a' w' hsk hdep hI K hK
        try dsimp only at hI hK
        obtain ⟨v52, v53, v54, v55, v56, v57, v58, v59, v60, v61, v62, v63, v64, v65, v66, v67, v68, hact, hR, hX, _⟩ := hI
        subst hact
        have HK := Lib.hid hK
        clear hK
        have e55 : v55 = .bool false := by obtain ⟨h52, h53, h54, h55, h56, h57, h58, h59, h60, h61, h62, h63, h64, h65, h66, h67, h68, _⟩ := hR.out; exact h55 (hdep ⟨3, .data⟩ (by simp) rfl)
        subst e55
        have e58 : v58 = .bool false := by obtain ⟨h52, h53, h54, h55, h56, h57, h58, h59, h60, h61, h62, h63, h64, h65, h66, h67, h68, _⟩ := hR.out; exact h58 (hdep ⟨6, .data⟩ (by simp) rfl)
        subst e58
        have kc0 : w'.cell? ⟨w.heap.size, 0, none⟩ = some (.int .i64 X1) := hX.cell (by first | (simp; done) | (simp; omega)) (by first | assumption | (go_simp; done) | (simp; done))
        have kc1 : w'.cell? ⟨w.heap.size, 1, none⟩ = some (.int .i64 X2) := hX.cell (by first | (simp; done) | (simp; omega)) (by first | assumption | (go_simp; done) | (simp; done))
        have kc2 : w'.cell? ⟨w.heap.size + 1, 0, none⟩ = some (.int .i64 Y1) := hX.cell (by first | (simp; done) | (simp; omega)) (by first | assumption | (go_simp; done) | (simp; done))
        have kc3 : w'.cell? ⟨w.heap.size + 1, 1, none⟩ = some (.int .i64 Y2) := hX.cell (by first | (simp; done) | (simp; omega)) (by first | assumption | (go_simp; done) | (simp; done))
        have kc4 : w'.cell? ⟨w3.heap.size, 0, none⟩ = some (.int .i64 Q1) := hX.cell (by first | (simp; done) | (simp; omega)) (by first | assumption | (go_simp; done) | (simp; done))
        have kc5 : w'.cell? ⟨w3.heap.size, 1, none⟩ = some (.int .i64 Q2) := hX.cell (by first | (simp; done) | (simp; omega)) (by first | assumption | (go_simp; done) | (simp; done))
        have kc6 : w'.cell? ⟨w3.heap.size + 1, 0, none⟩ = some (.int .i64 R1) := hX.cell (by first | (simp; done) | (simp; omega)) (by first | assumption | (go_simp; done) | (simp; done))
        have kc7 : w'.cell? ⟨w3.heap.size + 1, 1, none⟩ = some (.int .i64 R2) := hX.cell (by first | (simp; done) | (simp; omega)) (by first | assumption | (go_simp; done) | (simp; done))
        clear hdep
        refine StepG.mk rfl ?_; rw [ha0]; simp only [putL, Act.put, List.setIfInBounds_toArray, List.set_cons_zero, List.set_cons_succ]
        go_wp2_with fail
        refine HK.out _ _ ?_
        refine ⟨v52, v53, v54, (.bool false), v56, v57, (.bool false), (.bool false), v60, v61, v62, v63, v64, v65, v66, v67, v68, (by rw [ha0]; simp only [putL, Act.put, List.setIfInBounds_toArray, List.set_cons_zero, List.set_cons_succ]), ?_, ?_, trivial⟩
        · obtain ⟨h52, h53, h54, h55, h56, h57, h58, h59, h60, h61, h62, h63, h64, h65, h66, h67, h68, _⟩ := hR.out
          exact Lib.hid ⟨fun h => h52 (by simpa using h), fun h => h53 (by simpa using h), fun h => h54 (by simpa using h), fun _ => rfl, fun h => h56 (by simpa using h), fun h => h57 (by simpa using h), fun _ => rfl, fun _ => rfl, fun h => h60 (by simpa using h), fun h => h61 (by simpa using h), fun h => h62 (by simpa using h), fun h => h63 (by simpa using h), fun h => h64 (by simpa using h), fun h => h65 (by simpa using h), fun h => h66 (by simpa using h), fun h => h67 (by simpa using h), fun h => h68 (by simpa using h), trivial⟩
        · exact hX
      case x2hs8 =>
        intro s a' w' hsk hdep hI K hK
        try dsimp only at hI hK
        obtain ⟨v52, v53, v54, v55, v56, v57, v58, v59, v60, v61, v62, v63, v64, v65, v66, v67, v68, hact, hR, hX, _⟩ := hI
        subst hact
        have HK := Lib.hid hK
        clear hK
        have e59 : v59 = .bool false := by obtain ⟨h52, h53, h54, h55, h56, h57, h58, h59, h60, h61, h62, h63, h64, h65, h66, h67, h68, _⟩ := hR.out; exact h59 (hdep ⟨7, .data⟩ (by simp) rfl)
        subst e59
        have kc0 : w'.cell? ⟨w.heap.size, 0, none⟩ = some (.int .i64 X1) := hX.cell (by first | (simp; done) | (simp; omega)) (by first | assumption | (go_simp; done) | (simp; done))
        have kc1 : w'.cell? ⟨w.heap.size, 1, none⟩ = some (.int .i64 X2) := hX.cell (by first | (simp; done) | (simp; omega)) (by first | assumption | (go_simp; done) | (simp; done))
        have kc2 : w'.cell? ⟨w.heap.size + 1, 0, none⟩ = some (.int .i64 Y1) := hX.cell (by first | (simp; done) | (simp; omega)) (by first | assumption | (go_simp; done) | (simp; done))
        have kc3 : w'.cell? ⟨w.heap.size + 1, 1, none⟩ = some (.int .i64 Y2) := hX.cell (by first | (simp; done) | (simp; omega)) (by first | assumption | (go_simp; done) | (simp; done))
        have kc4 : w'.cell? ⟨w3.heap.size, 0, none⟩ = some (.int .i64 Q1) := hX.cell (by first | (simp; done) | (simp; omega)) (by first | assumption | (go_simp; done) | (simp; done))
        have kc5 : w'.cell? ⟨w3.heap.size, 1, none⟩ = some (.int .i64 Q2) := hX.cell (by first | (simp; done) | (simp; omega)) (by first | assumption | (go_simp; done) | (simp; done))
        have kc6 : w'.cell? ⟨w3.heap.size + 1, 0, none⟩ = some (.int .i64 R1) := hX.cell (by first | (simp; done) | (simp; omega)) (by first | assumption | (go_simp; done) | (simp; done))
        have kc7 : w'.cell? ⟨w3.heap.size + 1, 1, none⟩ = some (.int .i64 R2) := hX.cell (by first | (simp; done) | (simp; omega)) (by first | assumption | (go_simp; done) | (simp; done))
        clear hdep
        refine StepG.mk rfl ?_; rw [ha0]; simp only [putL, Act.put, List.setIfInBounds_toArray, List.set_cons_zero, List.set_cons_succ]
        go_wp2_with fail
        refine HK.out _ _ ?_
        refine ⟨v52, v53, v54, v55, v56, v57, v58, (.bool false), (.bool false), v61, v62, v63, v64, v65, v66, v67, v68, (by rw [ha0]; simp only [putL, Act.put, List.setIfInBounds_toArray, List.set_cons_zero, List.set_cons_succ]), ?_, ?_, trivial⟩
        · obtain ⟨h52, h53, h54, h55, h56, h57, h58, h59, h60, h61, h62, h63, h64, h65, h66, h67, h68, _⟩ := hR.out
          exact Lib.hid ⟨fun h => h52 (by simpa using h), fun h => h53 (by simpa using h), fun h => h54 (by simpa using h), fun h => h55 (by simpa using h), fun h => h56 (by simpa using h), fun h => h57 (by simpa using h), fun h => h58 (by simpa using h), fun _ => rfl, fun _ => rfl, fun h => h61 (by simpa using h), fun h => h62 (by simpa using h), fun h => h63 (by simpa using h), fun h => h64 (by simpa using h), fun h => h65 (by simpa using h), fun h => h66 (by simpa using h), fun h => h67 (by simpa using h), fun h => h68 (by simpa using h), trivial⟩
        · exact hX
      case x2hs9 =>
        intro s a' w' hsk hdep hI K hK
        try dsimp only at hI hK
        obtain ⟨v52, v53, v54, v55, v56, v57, v58, v59, v60, v61, v62, v63, v64, v65, v66, v67, v68, hact, hR, hX, _⟩ := hI
        subst hact
        have HK := Lib.hid hK
        clear hK
        have e60 : v60 = .bool false := by obtain ⟨h52, h53, h54, h55, h56, h57, h58, h59, h60, h61, h62, h63, h64, h65, h66, h67, h68, _⟩ := hR.out; exact h60 (hdep ⟨8, .guard⟩ (by simp) rfl)
        subst e60
        have kc0 : w'.cell? ⟨w.heap.size, 0, none⟩ = some (.int .i64 X1) := hX.cell (by first | (simp; done) | (simp; omega)) (by first | assumption | (go_simp; done) | (simp; done))
        have kc1 : w'.cell? ⟨w.heap.size, 1, none⟩ = some (.int .i64 X2) := hX.cell (by first | (simp; done) | (simp; omega)) (by first | assumption | (go_simp; done) | (simp; done))
        have kc2 : w'.cell? ⟨w.heap.size + 1, 0, none⟩ = some (.int .i64 Y1) := hX.cell (by first | (simp; done) | (simp; omega)) (by first | assumption | (go_simp; done) | (simp; done))
        have kc3 : w'.cell? ⟨w.heap.size + 1, 1, none⟩ = some (.int .i64 Y2) := hX.cell (by first | (simp; done) | (simp; omega)) (by first | assumption | (go_simp; done) | (simp; done))
        have kc4 : w'.cell? ⟨w3.heap.size, 0, none⟩ = some (.int .i64 Q1) := hX.cell (by first | (simp; done) | (simp; omega)) (by first | assumption | (go_simp; done) | (simp; done))
        have kc5 : w'.cell? ⟨w3.heap.size, 1, none⟩ = some (.int .i64 Q2) := hX.cell (by first | (simp; done) | (simp; omega)) (by first | assumption | (go_simp; done) | (simp; done))
        have kc6 : w'.cell? ⟨w3.heap.size + 1, 0, none⟩ = some (.int .i64 R1) := hX.cell (by first | (simp; done) | (simp; omega)) (by first | assumption | (go_simp; done) | (simp; done))
        have kc7 : w'.cell? ⟨w3.heap.size + 1, 1, none⟩ = some (.int .i64 R2) := hX.cell (by first | (simp; done) | (simp; omega)) (by first | assumption | (go_simp; done) | (simp; done))
        clear hdep
        refine StepG.lay ?_; rw [ha0]; simp only [putL, Act.put, List.setIfInBounds_toArray, List.set_cons_zero, List.set_cons_succ]
        go_wp2_with fail
        refine HK.out _ _ ?_
        refine ⟨v52, v53, v54, v55, v56, v57, v58, v59, (.bool false), (.agg #[.int .i64 Q1, .int .i64 Q2]), v62, v63, v64, v65, v66, v67, v68, (by rw [ha0]; simp only [putL, Act.put, List.setIfInBounds_toArray, List.set_cons_zero, List.set_cons_succ]), ?_, ?_, trivial⟩
        · obtain ⟨h52, h53, h54, h55, h56, h57, h58, h59, h60, h61, h62, h63, h64, h65, h66, h67, h68, _⟩ := hR.out
          exact Lib.hid ⟨fun h => h52 (by simpa using h), fun h => h53 (by simpa using h), fun h => h54 (by simpa using h), fun h => h55 (by simpa using h), fun h => h56 (by simpa using h), fun h => h57 (by simpa using h), fun h => h58 (by simpa using h), fun h => h59 (by simpa using h), fun _ => rfl, fun _ => rfl, fun h => h62 (by simpa using h), fun h => h63 (by simpa using h), fun h => h64 (by simpa using h), fun h => h65 (by simpa using h), fun h => h66 (by simpa using h), fun h => h67 (by simpa using h), fun h => h68 (by simpa using h), trivial⟩
        · exact hX
      case x2hs10 =>
        intro s a' w' hsk hdep hI K hK
        try dsimp only at hI hK
        obtain ⟨v52, v53, v54, v55, v56, v57, v58, v59, v60, v61, v62, v63, v64, v65, v66, v67, v68, hact, hR, hX, _⟩ := hI
        subst hact
        have HK := Lib.hid hK
        clear hK
        have e60 : v60 = .bool false := by obtain ⟨h52, h53, h54, h55, h56, h57, h58, h59, h60, h61, h62, h63, h64, h65, h66, h67, h68, _⟩ := hR.out; exact h60 (hdep ⟨8, .guard⟩ (by simp) rfl)
        subst e60
        have kc0 : w'.cell? ⟨w.heap.size, 0, none⟩ = some (.int .i64 X1) := hX.cell (by first | (simp; done) | (simp; omega)) (by first | assumption | (go_simp; done) | (simp; done))
        have kc1 : w'.cell? ⟨w.heap.size, 1, none⟩ = some (.int .i64 X2) := hX.cell (by first | (simp; done) | (simp; omega)) (by first | assumption | (go_simp; done) | (simp; done))
        have kc2 : w'.cell? ⟨w.heap.size + 1, 0, none⟩ = some (.int .i64 Y1) := hX.cell (by first | (simp; done) | (simp; omega)) (by first | assumption | (go_simp; done) | (simp; done))
        have kc3 : w'.cell? ⟨w.heap.size + 1, 1, none⟩ = some (.int .i64 Y2) := hX.cell (by first | (simp; done) | (simp; omega)) (by first | assumption | (go_simp; done) | (simp; done))
        have kc4 : w'.cell? ⟨w3.heap.size, 0, none⟩ = some (.int .i64 Q1) := hX.cell (by first | (simp; done) | (simp; omega)) (by first | assumption | (go_simp; done) | (simp; done))
        have kc5 : w'.cell? ⟨w3.heap.size, 1, none⟩ = some (.int .i64 Q2) := hX.cell (by first | (simp; done) | (simp; omega)) (by first | assumption | (go_simp; done) | (simp; done))
        have kc6 : w'.cell? ⟨w3.heap.size + 1, 0, none⟩ = some (.int .i64 R1) := hX.cell (by first | (simp; done) | (simp; omega)) (by first | assumption | (go_simp; done) | (simp; done))
        have kc7 : w'.cell? ⟨w3.heap.size + 1, 1, none⟩ = some (.int .i64 R2) := hX.cell (by first | (simp; done) | (simp; omega)) (by first | assumption | (go_simp; done) | (simp; done))
        clear hdep
        refine StepG.lay ?_; rw [ha0]; simp only [putL, Act.put, List.setIfInBounds_toArray, List.set_cons_zero, List.set_cons_succ]
        go_wp2_with fail
        refine HK.out _ _ ?_
        refine ⟨v52, v53, v54, v55, v56, v57, v58, v59, (.bool false), v61, (.agg #[.int .i64 Y1, .int .i64 Y2]), v63, v64, v65, v66, v67, v68, (by rw [ha0]; simp only [putL, Act.put, List.setIfInBounds_toArray, List.set_cons_zero, List.set_cons_succ]), ?_, ?_, trivial⟩
        · obtain ⟨h52, h53, h54, h55, h56, h57, h58, h59, h60, h61, h62, h63, h64, h65, h66, h67, h68, _⟩ := hR.out
          exact Lib.hid ⟨fun h => h52 (by simpa using h), fun h => h53 (by simpa using h), fun h => h54 (by simpa using h), fun h => h55 (by simpa using h), fun h => h56 (by simpa using h), fun h => h57 (by simpa using h), fun h => h58 (by simpa using h), fun h => h59 (by simpa using h), fun _ => rfl, fun h => h61 (by simpa using h), fun _ => rfl, fun h => h63 (by simpa using h), fun h => h64 (by simpa using h), fun h => h65 (by simpa using h), fun h => h66 (by simpa using h), fun h => h67 (by simpa using h), fun h => h68 (by simpa using h), trivial⟩
        · exact hX
      case x2hs11 =>
        intro s a' w' hsk hdep hI K hK
        try dsimp only at hI hK
        obtain ⟨v52, v53, v54, v55, v56, v57, v58, v59, v60, v61, v62, v63, v64, v65, v66, v67, v68, hact, hR, hX, _⟩ := hI
        subst hact
        have HK := Lib.hid hK
        clear hK
        have e61 : v61 = .agg #[.int .i64 Q1, .int .i64 Q2] := by obtain ⟨h52, h53, h54, h55, h56, h57, h58, h59, h60, h61, h62, h63, h64, h65, h66, h67, h68, _⟩ := hR.out; exact h61 (hdep ⟨9, .data⟩ (by simp) rfl)
        subst e61
        have e62 : v62 = .agg #[.int .i64 Y1, .int .i64 Y2] := by obtain ⟨h52, h53, h54, h55, h56, h57, h58, h59, h60, h61, h62, h63, h64, h65, h66, h67, h68, _⟩ := hR.out; exact h62 (hdep ⟨10, .data⟩ (by simp) rfl)
        subst e62
        have e60 : v60 = .bool false := by obtain ⟨h52, h53, h54, h55, h56, h57, h58, h59, h60, h61, h62, h63, h64, h65, h66, h67, h68, _⟩ := hR.out; exact h60 (hdep ⟨8, .guard⟩ (by simp) rfl)
        subst e60
        have kc0 : w'.cell? ⟨w.heap.size, 0, none⟩ = some (.int .i64 X1) := hX.cell (by first | (simp; done) | (simp; omega)) (by first | assumption | (go_simp; done) | (simp; done))
        have kc1 : w'.cell? ⟨w.heap.size, 1, none⟩ = some (.int .i64 X2) := hX.cell (by first | (simp; done) | (simp; omega)) (by first | assumption | (go_simp; done) | (simp; done))
        have kc2 : w'.cell? ⟨w.heap.size + 1, 0, none⟩ = some (.int .i64 Y1) := hX.cell (by first | (simp; done) | (simp; omega)) (by first | assumption | (go_simp; done) | (simp; done))
        have kc3 : w'.cell? ⟨w.heap.size + 1, 1, none⟩ = some (.int .i64 Y2) := hX.cell (by first | (simp; done) | (simp; omega)) (by first | assumption | (go_simp; done) | (simp; done))
        have kc4 : w'.cell? ⟨w3.heap.size, 0, none⟩ = some (.int .i64 Q1) := hX.cell (by first | (simp; done) | (simp; omega)) (by first | assumption | (go_simp; done) | (simp; done))
        have kc5 : w'.cell? ⟨w3.heap.size, 1, none⟩ = some (.int .i64 Q2) := hX.cell (by first | (simp; done) | (simp; omega)) (by first | assumption | (go_simp; done) | (simp; done))
        have kc6 : w'.cell? ⟨w3.heap.size + 1, 0, none⟩ = some (.int .i64 R1) := hX.cell (by first | (simp; done) | (simp; omega)) (by first | assumption | (go_simp; done) | (simp; done))
        have kc7 : w'.cell? ⟨w3.heap.size + 1, 1, none⟩ = some (.int .i64 R2) := hX.cell (by first | (simp; done) | (simp; omega)) (by first | assumption | (go_simp; done) | (simp; done))
        clear hdep
        refine StepG.lay ?_; rw [ha0]; simp only [putL, Act.put, List.setIfInBounds_toArray, List.set_cons_zero, List.set_cons_succ]
        go_wp2_with fail
        refine ((HT.out _)).mono ?_
        rintro e wn ⟨rfl, hb⟩
        go_wp2_with fail
        refine HK.out _ _ ?_
        refine ⟨v52, v53, v54, v55, v56, v57, v58, v59, (.bool false), (.agg #[.int .i64 Q1, .int .i64 Q2]), (.agg #[.int .i64 Y1, .int .i64 Y2]), (.agg #[.int .i64 P1, .int .i64 P2]), v64, v65, v66, v67, v68, (by rw [ha0]; simp only [putL, Act.put, List.setIfInBounds_toArray, List.set_cons_zero, List.set_cons_succ]), ?_, ?_, trivial⟩
        · obtain ⟨h52, h53, h54, h55, h56, h57, h58, h59, h60, h61, h62, h63, h64, h65, h66, h67, h68, _⟩ := hR.out
          exact Lib.hid ⟨fun h => h52 (by simpa using h), fun h => h53 (by simpa using h), fun h => h54 (by simpa using h), fun h => h55 (by simpa using h), fun h => h56 (by simpa using h), fun h => h57 (by simpa using h), fun h => h58 (by simpa using h), fun h => h59 (by simpa using h), fun _ => rfl, fun _ => rfl, fun _ => rfl, fun _ => rfl, fun h => h64 (by simpa using h), fun h => h65 (by simpa using h), fun h => h66 (by simpa using h), fun h => h67 (by simpa using h), fun h => h68 (by simpa using h), trivial⟩
        · exact hX.call hb
      case x2hs12 =>
        intro s a' w' hsk hdep hI K hK
        try dsimp only at hI hK
        obtain ⟨v52, v53, v54, v55, v56, v57, v58, v59, v60, v61, v62, v63, v64, v65, v66, v67, v68, hact, hR, hX, _⟩ := hI
        subst hact
        have HK := Lib.hid hK
        clear hK
        have e60 : v60 = .bool false := by obtain ⟨h52, h53, h54, h55, h56, h57, h58, h59, h60, h61, h62, h63, h64, h65, h66, h67, h68, _⟩ := hR.out; exact h60 (hdep ⟨8, .guard⟩ (by simp) rfl)
        subst e60
        have kc0 : w'.cell? ⟨w.heap.size, 0, none⟩ = some (.int .i64 X1) := hX.cell (by first | (simp; done) | (simp; omega)) (by first | assumption | (go_simp; done) | (simp; done))
        have kc1 : w'.cell? ⟨w.heap.size, 1, none⟩ = some (.int .i64 X2) := hX.cell (by first | (simp; done) | (simp; omega)) (by first | assumption | (go_simp; done) | (simp; done))
        have kc2 : w'.cell? ⟨w.heap.size + 1, 0, none⟩ = some (.int .i64 Y1) := hX.cell (by first | (simp; done) | (simp; omega)) (by first | assumption | (go_simp; done) | (simp; done))
        have kc3 : w'.cell? ⟨w.heap.size + 1, 1, none⟩ = some (.int .i64 Y2) := hX.cell (by first | (simp; done) | (simp; omega)) (by first | assumption | (go_simp; done) | (simp; done))
        have kc4 : w'.cell? ⟨w3.heap.size, 0, none⟩ = some (.int .i64 Q1) := hX.cell (by first | (simp; done) | (simp; omega)) (by first | assumption | (go_simp; done) | (simp; done))
        have kc5 : w'.cell? ⟨w3.heap.size, 1, none⟩ = some (.int .i64 Q2) := hX.cell (by first | (simp; done) | (simp; omega)) (by first | assumption | (go_simp; done) | (simp; done))
        have kc6 : w'.cell? ⟨w3.heap.size + 1, 0, none⟩ = some (.int .i64 R1) := hX.cell (by first | (simp; done) | (simp; omega)) (by first | assumption | (go_simp; done) | (simp; done))
        have kc7 : w'.cell? ⟨w3.heap.size + 1, 1, none⟩ = some (.int .i64 R2) := hX.cell (by first | (simp; done) | (simp; omega)) (by first | assumption | (go_simp; done) | (simp; done))
        clear hdep
        refine StepG.lay ?_; rw [ha0]; simp only [putL, Act.put, List.setIfInBounds_toArray, List.set_cons_zero, List.set_cons_succ]
        go_wp2_with fail
        refine HK.out _ _ ?_
        refine ⟨v52, v53, v54, v55, v56, v57, v58, v59, (.bool false), v61, v62, v63, (.agg #[.int .i64 R1, .int .i64 R2]), v65, v66, v67, v68, (by rw [ha0]; simp only [putL, Act.put, List.setIfInBounds_toArray, List.set_cons_zero, List.set_cons_succ]), ?_, ?_, trivial⟩
        · obtain ⟨h52, h53, h54, h55, h56, h57, h58, h59, h60, h61, h62, h63, h64, h65, h66, h67, h68, _⟩ := hR.out
          exact Lib.hid ⟨fun h => h52 (by simpa using h), fun h => h53 (by simpa using h), fun h => h54 (by simpa using h), fun h => h55 (by simpa using h), fun h => h56 (by simpa using h), fun h => h57 (by simpa using h), fun h => h58 (by simpa using h), fun h => h59 (by simpa using h), fun _ => rfl, fun h => h61 (by simpa using h), fun h => h62 (by simpa using h), fun h => h63 (by simpa using h), fun _ => rfl, fun h => h65 (by simpa using h), fun h => h66 (by simpa using h), fun h => h67 (by simpa using h), fun h => h68 (by simpa using h), trivial⟩
        · exact hX
      case x2hs13 =>
        intro s a' w' hsk hdep hI K hK
        try dsimp only at hI hK
        obtain ⟨v52, v53, v54, v55, v56, v57, v58, v59, v60, v61, v62, v63, v64, v65, v66, v67, v68, hact, hR, hX, _⟩ := hI
        subst hact
        have HK := Lib.hid hK
        clear hK
        have e63 : v63 = .agg #[.int .i64 P1, .int .i64 P2] := by obtain ⟨h52, h53, h54, h55, h56, h57, h58, h59, h60, h61, h62, h63, h64, h65, h66, h67, h68, _⟩ := hR.out; exact h63 (hdep ⟨11, .data⟩ (by simp) rfl)
        subst e63
        have e64 : v64 = .agg #[.int .i64 R1, .int .i64 R2] := by obtain ⟨h52, h53, h54, h55, h56, h57, h58, h59, h60, h61, h62, h63, h64, h65, h66, h67, h68, _⟩ := hR.out; exact h64 (hdep ⟨12, .data⟩ (by simp) rfl)
        subst e64
        have e60 : v60 = .bool false := by obtain ⟨h52, h53, h54, h55, h56, h57, h58, h59, h60, h61, h62, h63, h64, h65, h66, h67, h68, _⟩ := hR.out; exact h60 (hdep ⟨8, .guard⟩ (by simp) rfl)
        subst e60
        have kc0 : w'.cell? ⟨w.heap.size, 0, none⟩ = some (.int .i64 X1) := hX.cell (by first | (simp; done) | (simp; omega)) (by first | assumption | (go_simp; done) | (simp; done))
        have kc1 : w'.cell? ⟨w.heap.size, 1, none⟩ = some (.int .i64 X2) := hX.cell (by first | (simp; done) | (simp; omega)) (by first | assumption | (go_simp; done) | (simp; done))
        have kc2 : w'.cell? ⟨w.heap.size + 1, 0, none⟩ = some (.int .i64 Y1) := hX.cell (by first | (simp; done) | (simp; omega)) (by first | assumption | (go_simp; done) | (simp; done))
        have kc3 : w'.cell? ⟨w.heap.size + 1, 1, none⟩ = some (.int .i64 Y2) := hX.cell (by first | (simp; done) | (simp; omega)) (by first | assumption | (go_simp; done) | (simp; done))
        have kc4 : w'.cell? ⟨w3.heap.size, 0, none⟩ = some (.int .i64 Q1) := hX.cell (by first | (simp; done) | (simp; omega)) (by first | assumption | (go_simp; done) | (simp; done))
        have kc5 : w'.cell? ⟨w3.heap.size, 1, none⟩ = some (.int .i64 Q2) := hX.cell (by first | (simp; done) | (simp; omega)) (by first | assumption | (go_simp; done) | (simp; done))
        have kc6 : w'.cell? ⟨w3.heap.size + 1, 0, none⟩ = some (.int .i64 R1) := hX.cell (by first | (simp; done) | (simp; omega)) (by first | assumption | (go_simp; done) | (simp; done))
        have kc7 : w'.cell? ⟨w3.heap.size + 1, 1, none⟩ = some (.int .i64 R2) := hX.cell (by first | (simp; done) | (simp; omega)) (by first | assumption | (go_simp; done) | (simp; done))
        clear hdep
        refine StepG.lay ?_; rw [ha0]; simp only [putL, Act.put, List.setIfInBounds_toArray, List.set_cons_zero, List.set_cons_succ]
        go_wp2_with fail
        refine ((HP.out _)).mono ?_
        rintro e wn ⟨rfl, hb⟩
        go_wp2_with fail
        refine HK.out _ _ ?_
        refine ⟨v52, v53, v54, v55, v56, v57, v58, v59, (.bool false), v61, v62, (.agg #[.int .i64 P1, .int .i64 P2]), (.agg #[.int .i64 R1, .int .i64 R2]), (.agg #[.int .i64 X1, .int .i64 X2]), v66, v67, v68, (by rw [ha0]; simp only [putL, Act.put, List.setIfInBounds_toArray, List.set_cons_zero, List.set_cons_succ]), ?_, ?_, trivial⟩
        · obtain ⟨h52, h53, h54, h55, h56, h57, h58, h59, h60, h61, h62, h63, h64, h65, h66, h67, h68, _⟩ := hR.out
          exact Lib.hid ⟨fun h => h52 (by simpa using h), fun h => h53 (by simpa using h), fun h => h54 (by simpa using h), fun h => h55 (by simpa using h), fun h => h56 (by simpa using h), fun h => h57 (by simpa using h), fun h => h58 (by simpa using h), fun h => h59 (by simpa using h), fun _ => rfl, fun h => h61 (by simpa using h), fun h => h62 (by simpa using h), fun _ => rfl, fun _ => rfl, fun _ => rfl, fun h => h66 (by simpa using h), fun h => h67 (by simpa using h), fun h => h68 (by simpa using h), trivial⟩
        · exact hX.call hb
      case x2hs14 =>
        intro s a' w' hsk hdep hI K hK
        try dsimp only at hI hK
        obtain ⟨v52, v53, v54, v55, v56, v57, v58, v59, v60, v61, v62, v63, v64, v65, v66, v67, v68, hact, hR, hX, _⟩ := hI
        subst hact
        have HK := Lib.hid hK
        clear hK
        have e60 : v60 = .bool false := by obtain ⟨h52, h53, h54, h55, h56, h57, h58, h59, h60, h61, h62, h63, h64, h65, h66, h67, h68, _⟩ := hR.out; exact h60 (hdep ⟨8, .guard⟩ (by simp) rfl)
        subst e60
        have kc0 : w'.cell? ⟨w.heap.size, 0, none⟩ = some (.int .i64 X1) := hX.cell (by first | (simp; done) | (simp; omega)) (by first | assumption | (go_simp; done) | (simp; done))
        have kc1 : w'.cell? ⟨w.heap.size, 1, none⟩ = some (.int .i64 X2) := hX.cell (by first | (simp; done) | (simp; omega)) (by first | assumption | (go_simp; done) | (simp; done))
        have kc2 : w'.cell? ⟨w.heap.size + 1, 0, none⟩ = some (.int .i64 Y1) := hX.cell (by first | (simp; done) | (simp; omega)) (by first | assumption | (go_simp; done) | (simp; done))
        have kc3 : w'.cell? ⟨w.heap.size + 1, 1, none⟩ = some (.int .i64 Y2) := hX.cell (by first | (simp; done) | (simp; omega)) (by first | assumption | (go_simp; done) | (simp; done))
        have kc4 : w'.cell? ⟨w3.heap.size, 0, none⟩ = some (.int .i64 Q1) := hX.cell (by first | (simp; done) | (simp; omega)) (by first | assumption | (go_simp; done) | (simp; done))
        have kc5 : w'.cell? ⟨w3.heap.size, 1, none⟩ = some (.int .i64 Q2) := hX.cell (by first | (simp; done) | (simp; omega)) (by first | assumption | (go_simp; done) | (simp; done))
        have kc6 : w'.cell? ⟨w3.heap.size + 1, 0, none⟩ = some (.int .i64 R1) := hX.cell (by first | (simp; done) | (simp; omega)) (by first | assumption | (go_simp; done) | (simp; done))
        have kc7 : w'.cell? ⟨w3.heap.size + 1, 1, none⟩ = some (.int .i64 R2) := hX.cell (by first | (simp; done) | (simp; omega)) (by first | assumption | (go_simp; done) | (simp; done))
        clear hdep
        refine StepG.lay ?_; rw [ha0]; simp only [putL, Act.put, List.setIfInBounds_toArray, List.set_cons_zero, List.set_cons_succ]
        go_wp2_with fail
        refine HK.out _ _ ?_
        refine ⟨v52, v53, v54, v55, v56, v57, v58, v59, (.bool false), v61, v62, v63, v64, v65, (.agg #[.int .i64 X1, .int .i64 X2]), v67, v68, (by rw [ha0]; simp only [putL, Act.put, List.setIfInBounds_toArray, List.set_cons_zero, List.set_cons_succ]), ?_, ?_, trivial⟩
        · obtain ⟨h52, h53, h54, h55, h56, h57, h58, h59, h60, h61, h62, h63, h64, h65, h66, h67, h68, _⟩ := hR.out
          exact Lib.hid ⟨fun h => h52 (by simpa using h), fun h => h53 (by simpa using h), fun h => h54 (by simpa using h), fun h => h55 (by simpa using h), fun h => h56 (by simpa using h), fun h => h57 (by simpa using h), fun h => h58 (by simpa using h), fun h => h59 (by simpa using h), fun _ => rfl, fun h => h61 (by simpa using h), fun h => h62 (by simpa using h), fun h => h63 (by simpa using h), fun h => h64 (by simpa using h), fun h => h65 (by simpa using h), fun _ => rfl, fun h => h67 (by simpa using h), fun h => h68 (by simpa using h), trivial⟩
        · exact hX
      case x2hs15 =>
        intro s a' w' hsk hdep hI K hK
        try dsimp only at hI hK
        obtain ⟨v52, v53, v54, v55, v56, v57, v58, v59, v60, v61, v62, v63, v64, v65, v66, v67, v68, hact, hR, hX, _⟩ := hI
        subst hact
        have HK := Lib.hid hK
        clear hK
        have e65 : v65 = .agg #[.int .i64 X1, .int .i64 X2] := by obtain ⟨h52, h53, h54, h55, h56, h57, h58, h59, h60, h61, h62, h63, h64, h65, h66, h67, h68, _⟩ := hR.out; exact h65 (hdep ⟨13, .data⟩ (by simp) rfl)
        subst e65
        have e66 : v66 = .agg #[.int .i64 X1, .int .i64 X2] := by obtain ⟨h52, h53, h54, h55, h56, h57, h58, h59, h60, h61, h62, h63, h64, h65, h66, h67, h68, _⟩ := hR.out; exact h66 (hdep ⟨14, .data⟩ (by simp) rfl)
        subst e66
        have e60 : v60 = .bool false := by obtain ⟨h52, h53, h54, h55, h56, h57, h58, h59, h60, h61, h62, h63, h64, h65, h66, h67, h68, _⟩ := hR.out; exact h60 (hdep ⟨8, .guard⟩ (by simp) rfl)
        subst e60
        have kc0 : w'.cell? ⟨w.heap.size, 0, none⟩ = some (.int .i64 X1) := hX.cell (by first | (simp; done) | (simp; omega)) (by first | assumption | (go_simp; done) | (simp; done))
        have kc1 : w'.cell? ⟨w.heap.size, 1, none⟩ = some (.int .i64 X2) := hX.cell (by first | (simp; done) | (simp; omega)) (by first | assumption | (go_simp; done) | (simp; done))
        have kc2 : w'.cell? ⟨w.heap.size + 1, 0, none⟩ = some (.int .i64 Y1) := hX.cell (by first | (simp; done) | (simp; omega)) (by first | assumption | (go_simp; done) | (simp; done))
        have kc3 : w'.cell? ⟨w.heap.size + 1, 1, none⟩ = some (.int .i64 Y2) := hX.cell (by first | (simp; done) | (simp; omega)) (by first | assumption | (go_simp; done) | (simp; done))
        have kc4 : w'.cell? ⟨w3.heap.size, 0, none⟩ = some (.int .i64 Q1) := hX.cell (by first | (simp; done) | (simp; omega)) (by first | assumption | (go_simp; done) | (simp; done))
        have kc5 : w'.cell? ⟨w3.heap.size, 1, none⟩ = some (.int .i64 Q2) := hX.cell (by first | (simp; done) | (simp; omega)) (by first | assumption | (go_simp; done) | (simp; done))
        have kc6 : w'.cell? ⟨w3.heap.size + 1, 0, none⟩ = some (.int .i64 R1) := hX.cell (by first | (simp; done) | (simp; omega)) (by first | assumption | (go_simp; done) | (simp; done))
        have kc7 : w'.cell? ⟨w3.heap.size + 1, 1, none⟩ = some (.int .i64 R2) := hX.cell (by first | (simp; done) | (simp; omega)) (by first | assumption | (go_simp; done) | (simp; done))
        clear hdep
        refine StepG.lay ?_; rw [ha0]; simp only [putL, Act.put, List.setIfInBounds_toArray, List.set_cons_zero, List.set_cons_succ]
        go_wp2_with fail
        refine HK.out _ _ ?_
        refine ⟨v52, v53, v54, v55, v56, v57, v58, v59, (.bool false), v61, v62, v63, v64, (.agg #[.int .i64 X1, .int .i64 X2]), (.agg #[.int .i64 X1, .int .i64 X2]), (.bool false), v68, (by rw [ha0]; simp only [putL, Act.put, List.setIfInBounds_toArray, List.set_cons_zero, List.set_cons_succ]), ?_, ?_, trivial⟩
        · obtain ⟨h52, h53, h54, h55, h56, h57, h58, h59, h60, h61, h62, h63, h64, h65, h66, h67, h68, _⟩ := hR.out
          exact Lib.hid ⟨fun h => h52 (by simpa using h), fun h => h53 (by simpa using h), fun h => h54 (by simpa using h), fun h => h55 (by simpa using h), fun h => h56 (by simpa using h), fun h => h57 (by simpa using h), fun h => h58 (by simpa using h), fun h => h59 (by simpa using h), fun _ => rfl, fun h => h61 (by simpa using h), fun h => h62 (by simpa using h), fun h => h63 (by simpa using h), fun h => h64 (by simpa using h), fun _ => rfl, fun _ => rfl, fun _ => rfl, fun h => h68 (by simpa using h), trivial⟩
        · exact hX
      case x2hs16 =>
        intro s a' w' hsk hdep hI K hK
        try dsimp only at hI hK
        obtain ⟨v52, v53, v54, v55, v56, v57, v58, v59, v60, v61, v62, v63, v64, v65, v66, v67, v68, hact, hR, hX, _⟩ := hI
        subst hact
        have HK := Lib.hid hK
        clear hK
        have e60 : v60 = .bool false := by obtain ⟨h52, h53, h54, h55, h56, h57, h58, h59, h60, h61, h62, h63, h64, h65, h66, h67, h68, _⟩ := hR.out; exact h60 (hdep ⟨8, .data⟩ (by simp) rfl)
        subst e60
        have e67 : v67 = .bool false := by obtain ⟨h52, h53, h54, h55, h56, h57, h58, h59, h60, h61, h62, h63, h64, h65, h66, h67, h68, _⟩ := hR.out; exact h67 (hdep ⟨15, .data⟩ (by simp) rfl)
        subst e67
        have kc0 : w'.cell? ⟨w.heap.size, 0, none⟩ = some (.int .i64 X1) := hX.cell (by first | (simp; done) | (simp; omega)) (by first | assumption | (go_simp; done) | (simp; done))
        have kc1 : w'.cell? ⟨w.heap.size, 1, none⟩ = some (.int .i64 X2) := hX.cell (by first | (simp; done) | (simp; omega)) (by first | assumption | (go_simp; done) | (simp; done))
        have kc2 : w'.cell? ⟨w.heap.size + 1, 0, none⟩ = some (.int .i64 Y1) := hX.cell (by first | (simp; done) | (simp; omega)) (by first | assumption | (go_simp; done) | (simp; done))
        have kc3 : w'.cell? ⟨w.heap.size + 1, 1, none⟩ = some (.int .i64 Y2) := hX.cell (by first | (simp; done) | (simp; omega)) (by first | assumption | (go_simp; done) | (simp; done))
        have kc4 : w'.cell? ⟨w3.heap.size, 0, none⟩ = some (.int .i64 Q1) := hX.cell (by first | (simp; done) | (simp; omega)) (by first | assumption | (go_simp; done) | (simp; done))
        have kc5 : w'.cell? ⟨w3.heap.size, 1, none⟩ = some (.int .i64 Q2) := hX.cell (by first | (simp; done) | (simp; omega)) (by first | assumption | (go_simp; done) | (simp; done))
        have kc6 : w'.cell? ⟨w3.heap.size + 1, 0, none⟩ = some (.int .i64 R1) := hX.cell (by first | (simp; done) | (simp; omega)) (by first | assumption | (go_simp; done) | (simp; done))
        have kc7 : w'.cell? ⟨w3.heap.size + 1, 1, none⟩ = some (.int .i64 R2) := hX.cell (by first | (simp; done) | (simp; omega)) (by first | assumption | (go_simp; done) | (simp; done))
        clear hdep
        refine StepG.mk rfl ?_; rw [ha0]; simp only [putL, Act.put, List.setIfInBounds_toArray, List.set_cons_zero, List.set_cons_succ]
        go_wp2_with fail
        refine HK.out _ _ ?_
        refine ⟨v52, v53, v54, v55, v56, v57, v58, v59, (.bool false), v61, v62, v63, v64, v65, v66, (.bool false), (.bool false), (by rw [ha0]; simp only [putL, Act.put, List.setIfInBounds_toArray, List.set_cons_zero, List.set_cons_succ]), ?_, ?_, trivial⟩
        · obtain ⟨h52, h53, h54, h55, h56, h57, h58, h59, h60, h61, h62, h63, h64, h65, h66, h67, h68, _⟩ := hR.out
          exact Lib.hid ⟨fun h => h52 (by simpa using h), fun h => h53 (by simpa using h), fun h => h54 (by simpa using h), fun h => h55 (by simpa using h), fun h => h56 (by simpa using h), fun h => h57 (by simpa using h), fun h => h58 (by simpa using h), fun h => h59 (by simpa using h), fun _ => rfl, fun h => h61 (by simpa using h), fun h => h62 (by simpa using h), fun h => h63 (by simpa using h), fun h => h64 (by simpa using h), fun h => h65 (by simpa using h), fun h => h66 (by simpa using h), fun _ => rfl, fun _ => rfl, trivial⟩
        · exact hX
      intro s a' w4 hall hI
      try dsimp only at hI
      obtain ⟨v52, v53, v54, v55, v56, v57, v58, v59, v60, v61, v62, v63, v64, v65, v66, v67, v68, hact, hR, hXR, _⟩ := hI
      subst hact
      obtain ⟨h52, h53, h54, h55, h56, h57, h58, h59, h60, h61, h62, h63, h64, h65, h66, h67, h68, _⟩ := hR.out
      clear hR
      have e52 := h52 (hall 0 (by decide))
      subst e52
      clear h52
      have e53 := h53 (hall 1 (by decide))
      subst e53
      clear h53
      have e54 := h54 (hall 2 (by decide))
      subst e54
      clear h54
      have e55 := h55 (hall 3 (by decide))
      subst e55
      clear h55
      have e56 := h56 (hall 4 (by decide))
      subst e56
      clear h56
      have e57 := h57 (hall 5 (by decide))
      subst e57
      clear h57
      have e58 := h58 (hall 6 (by decide))
      subst e58
      clear h58
      have e59 := h59 (hall 7 (by decide))
      subst e59
      clear h59
      have e60 := h60 (hall 8 (by decide))
      subst e60
      clear h60
      have e61 := h61 (hall 9 (by decide))
      subst e61
      clear h61
      have e62 := h62 (hall 10 (by decide))
      subst e62
      clear h62
      have e63 := h63 (hall 11 (by decide))
      subst e63
      clear h63
      have e64 := h64 (hall 12 (by decide))
      subst e64
      clear h64
      have e65 := h65 (hall 13 (by decide))
      subst e65
      clear h65
      have e66 := h66 (hall 14 (by decide))
      subst e66
      clear h66
      have e67 := h67 (hall 15 (by decide))
      subst e67
      clear h67
      have e68 := h68 (hall 16 (by decide))
      subst e68
      clear h68
      clear hall
      rw [ha0]; simp only [putL, Act.put, List.setIfInBounds_toArray, List.set_cons_zero, List.set_cons_succ]
      clear ha0
      have B4 : Below w.heap.size w w4 := hXR.below (by first | assumption | exact (by repeat (first | exact Below.refl _ _ | exact Nat.le_refl _ | refine Below.alloc ?_ ?_ _ | refine Below.setCell ?_ ?_ _ | refine Below.drew ?_ | refine bl_drewN ?_ _ | (assumption) | refine bl_call ?_ (by assumption) ?_ | omega | (simp <;> omega)))) (by first | omega | (simp <;> omega)) (by simp <;> omega)
      have cew_heap_size4_0 : w4.cell? ⟨w.heap.size, 0, none⟩ = some (.int .i64 X1) := hXR.cell (by first | (simp; done) | (simp; omega)) (by first | assumption | (go_simp; done) | (simp; done))
      have cew_heap_size4_1 : w4.cell? ⟨w.heap.size, 1, none⟩ = some (.int .i64 X2) := hXR.cell (by first | (simp; done) | (simp; omega)) (by first | assumption | (go_simp; done) | (simp; done))
      have zew_heap_size4 : w.heap.size < w4.heap.size := block_lt_of_cell cew_heap_size4_0
      have cew_heap_size_14_0 : w4.cell? ⟨w.heap.size + 1, 0, none⟩ = some (.int .i64 Y1) := hXR.cell (by first | (simp; done) | (simp; omega)) (by first | assumption | (go_simp; done) | (simp; done))
      have cew_heap_size_14_1 : w4.cell? ⟨w.heap.size + 1, 1, none⟩ = some (.int .i64 Y2) := hXR.cell (by first | (simp; done) | (simp; omega)) (by first | assumption | (go_simp; done) | (simp; done))
      have zew_heap_size_14 : w.heap.size + 1 < w4.heap.size := block_lt_of_cell cew_heap_size_14_0
      have cew3_heap_size4_0 : w4.cell? ⟨w3.heap.size, 0, none⟩ = some (.int .i64 Q1) := hXR.cell (by first | (simp; done) | (simp; omega)) (by first | assumption | (go_simp; done) | (simp; done))
      have cew3_heap_size4_1 : w4.cell? ⟨w3.heap.size, 1, none⟩ = some (.int .i64 Q2) := hXR.cell (by first | (simp; done) | (simp; omega)) (by first | assumption | (go_simp; done) | (simp; done))
      have zew3_heap_size4 : w3.heap.size < w4.heap.size := block_lt_of_cell cew3_heap_size4_0
      have cew3_heap_size_14_0 : w4.cell? ⟨w3.heap.size + 1, 0, none⟩ = some (.int .i64 R1) := hXR.cell (by first | (simp; done) | (simp; omega)) (by first | assumption | (go_simp; done) | (simp; done))
      have cew3_heap_size_14_1 : w4.cell? ⟨w3.heap.size + 1, 1, none⟩ = some (.int .i64 R2) := hXR.cell (by first | (simp; done) | (simp; omega)) (by first | assumption | (go_simp; done) | (simp; done))
      have zew3_heap_size_14 : w3.heap.size + 1 < w4.heap.size := block_lt_of_cell cew3_heap_size_14_0
      have hsz_4 := B4.size
      clear hXR
      go_wp2_with fail
      refine (HN1.out _).mono ?_
      rintro e w5 ⟨rfl, hb5⟩
      have z5_0 : w.heap.size < w5.heap.size := by have := hb5.size; (try simp at this); omega
      have z5_1 : w.heap.size + 1 < w5.heap.size := by have := hb5.size; (try simp at this); omega
      have cew_heap_size5_0 : w5.cell? ⟨w.heap.size, 0, none⟩ = some (.int .i64 X1) := keep_cell hb5 (by first | assumption | (go_simp; done) | (simp; done) | simp [*])
      have zew_heap_size5 : w.heap.size < w5.heap.size := block_lt_of_cell cew_heap_size5_0
      have cew_heap_size5_1 : w5.cell? ⟨w.heap.size, 1, none⟩ = some (.int .i64 X2) := keep_cell hb5 (by first | assumption | (go_simp; done) | (simp; done) | simp [*])
      have cew_heap_size_15_0 : w5.cell? ⟨w.heap.size + 1, 0, none⟩ = some (.int .i64 Y1) := keep_cell hb5 (by first | assumption | (go_simp; done) | (simp; done) | simp [*])
      have zew_heap_size_15 : w.heap.size + 1 < w5.heap.size := block_lt_of_cell cew_heap_size_15_0
      have cew_heap_size_15_1 : w5.cell? ⟨w.heap.size + 1, 1, none⟩ = some (.int .i64 Y2) := keep_cell hb5 (by first | assumption | (go_simp; done) | (simp; done) | simp [*])
      have cew3_heap_size5_0 : w5.cell? ⟨w3.heap.size, 0, none⟩ = some (.int .i64 Q1) := keep_cell hb5 (by first | assumption | (go_simp; done) | (simp; done) | simp [*])
      have zew3_heap_size5 : w3.heap.size < w5.heap.size := block_lt_of_cell cew3_heap_size5_0
      have cew3_heap_size5_1 : w5.cell? ⟨w3.heap.size, 1, none⟩ = some (.int .i64 Q2) := keep_cell hb5 (by first | assumption | (go_simp; done) | (simp; done) | simp [*])
      have cew3_heap_size_15_0 : w5.cell? ⟨w3.heap.size + 1, 0, none⟩ = some (.int .i64 R1) := keep_cell hb5 (by first | assumption | (go_simp; done) | (simp; done) | simp [*])
      have zew3_heap_size_15 : w3.heap.size + 1 < w5.heap.size := block_lt_of_cell cew3_heap_size_15_0
      have cew3_heap_size_15_1 : w5.cell? ⟨w3.heap.size + 1, 1, none⟩ = some (.int .i64 R2) := keep_cell hb5 (by first | assumption | (go_simp; done) | (simp; done) | simp [*])
      have B5 : Below w.heap.size w w5 := bl_call (by repeat (first | exact Below.refl _ _ | exact Nat.le_refl _ | refine Below.alloc ?_ ?_ _ | refine Below.setCell ?_ ?_ _ | refine Below.drew ?_ | refine bl_drewN ?_ _ | (assumption) | refine bl_call ?_ (by assumption) ?_ | omega | (simp <;> omega))) hb5 (by first | assumption | (simp; done) | (simp; omega) | omega)
      clear hb5
      have hsz_5 := B5.size
      go_wp2_with fail
      refine (HN2.out _).mono ?_
      rintro e w6 ⟨rfl, hb6⟩
      have z6_0 : w.heap.size < w6.heap.size := by have := hb6.size; (try simp at this); omega
      have z6_1 : w.heap.size + 1 < w6.heap.size := by have := hb6.size; (try simp at this); omega
      have cew_heap_size6_0 : w6.cell? ⟨w.heap.size, 0, none⟩ = some (.int .i64 X1) := keep_cell hb6 (by first | assumption | (go_simp; done) | (simp; done) | simp [*])
      have zew_heap_size6 : w.heap.size < w6.heap.size := block_lt_of_cell cew_heap_size6_0
      have cew_heap_size6_1 : w6.cell? ⟨w.heap.size, 1, none⟩ = some (.int .i64 X2) := keep_cell hb6 (by first | assumption | (go_simp; done) | (simp; done) | simp [*])
      have cew_heap_size_16_0 : w6.cell? ⟨w.heap.size + 1, 0, none⟩ = some (.int .i64 Y1) := keep_cell hb6 (by first | assumption | (go_simp; done) | (simp; done) | simp [*])
      have zew_heap_size_16 : w.heap.size + 1 < w6.heap.size := block_lt_of_cell cew_heap_size_16_0
      have cew_heap_size_16_1 : w6.cell? ⟨w.heap.size + 1, 1, none⟩ = some (.int .i64 Y2) := keep_cell hb6 (by first | assumption | (go_simp; done) | (simp; done) | simp [*])
      have cew3_heap_size6_0 : w6.cell? ⟨w3.heap.size, 0, none⟩ = some (.int .i64 Q1) := keep_cell hb6 (by first | assumption | (go_simp; done) | (simp; done) | simp [*])
      have zew3_heap_size6 : w3.heap.size < w6.heap.size := block_lt_of_cell cew3_heap_size6_0
      have cew3_heap_size6_1 : w6.cell? ⟨w3.heap.size, 1, none⟩ = some (.int .i64 Q2) := keep_cell hb6 (by first | assumption | (go_simp; done) | (simp; done) | simp [*])
      have cew3_heap_size_16_0 : w6.cell? ⟨w3.heap.size + 1, 0, none⟩ = some (.int .i64 R1) := keep_cell hb6 (by first | assumption | (go_simp; done) | (simp; done) | simp [*])
      have zew3_heap_size_16 : w3.heap.size + 1 < w6.heap.size := block_lt_of_cell cew3_heap_size_16_0
      have cew3_heap_size_16_1 : w6.cell? ⟨w3.heap.size + 1, 1, none⟩ = some (.int .i64 R2) := keep_cell hb6 (by first | assumption | (go_simp; done) | (simp; done) | simp [*])
      have B6 : Below w.heap.size w w6 := bl_call (by repeat (first | exact Below.refl _ _ | exact Nat.le_refl _ | refine Below.alloc ?_ ?_ _ | refine Below.setCell ?_ ?_ _ | refine Below.drew ?_ | refine bl_drewN ?_ _ | (assumption) | refine bl_call ?_ (by assumption) ?_ | omega | (simp <;> omega))) hb6 (by first | assumption | (simp; done) | (simp; omega) | omega)
      clear hb6
      have hsz_6 := B6.size
      go_wp2_with fail
      refine (HZ.out _).mono ?_
      rintro e w7 ⟨rfl, hb7⟩
      have z7_0 : w.heap.size < w7.heap.size := by have := hb7.size; (try simp at this); omega
      have z7_1 : w.heap.size + 1 < w7.heap.size := by have := hb7.size; (try simp at this); omega
      have cew_heap_size7_0 : w7.cell? ⟨w.heap.size, 0, none⟩ = some (.int .i64 X1) := keep_cell hb7 (by first | assumption | (go_simp; done) | (simp; done) | simp [*])
      have zew_heap_size7 : w.heap.size < w7.heap.size := block_lt_of_cell cew_heap_size7_0
      have cew_heap_size7_1 : w7.cell? ⟨w.heap.size, 1, none⟩ = some (.int .i64 X2) := keep_cell hb7 (by first | assumption | (go_simp; done) | (simp; done) | simp [*])
      have cew_heap_size_17_0 : w7.cell? ⟨w.heap.size + 1, 0, none⟩ = some (.int .i64 Y1) := keep_cell hb7 (by first | assumption | (go_simp; done) | (simp; done) | simp [*])
      have zew_heap_size_17 : w.heap.size + 1 < w7.heap.size := block_lt_of_cell cew_heap_size_17_0
      have cew_heap_size_17_1 : w7.cell? ⟨w.heap.size + 1, 1, none⟩ = some (.int .i64 Y2) := keep_cell hb7 (by first | assumption | (go_simp; done) | (simp; done) | simp [*])
      have cew3_heap_size7_0 : w7.cell? ⟨w3.heap.size, 0, none⟩ = some (.int .i64 Q1) := keep_cell hb7 (by first | assumption | (go_simp; done) | (simp; done) | simp [*])
      have zew3_heap_size7 : w3.heap.size < w7.heap.size := block_lt_of_cell cew3_heap_size7_0
      have cew3_heap_size7_1 : w7.cell? ⟨w3.heap.size, 1, none⟩ = some (.int .i64 Q2) := keep_cell hb7 (by first | assumption | (go_simp; done) | (simp; done) | simp [*])
      have cew3_heap_size_17_0 : w7.cell? ⟨w3.heap.size + 1, 0, none⟩ = some (.int .i64 R1) := keep_cell hb7 (by first | assumption | (go_simp; done) | (simp; done) | simp [*])
      have zew3_heap_size_17 : w3.heap.size + 1 < w7.heap.size := block_lt_of_cell cew3_heap_size_17_0
      have cew3_heap_size_17_1 : w7.cell? ⟨w3.heap.size + 1, 1, none⟩ = some (.int .i64 R2) := keep_cell hb7 (by first | assumption | (go_simp; done) | (simp; done) | simp [*])
      have B7 : Below w.heap.size w w7 := bl_call (by repeat (first | exact Below.refl _ _ | exact Nat.le_refl _ | refine Below.alloc ?_ ?_ _ | refine Below.setCell ?_ ?_ _ | refine Below.drew ?_ | refine bl_drewN ?_ _ | (assumption) | refine bl_call ?_ (by assumption) ?_ | omega | (simp <;> omega))) hb7 (by first | assumption | (simp; done) | (simp; omega) | omega)
      clear hb7
      have hsz_7 := B7.size
      rcases HBIG.out with ⟨kT, hZ⟩ | ⟨kT, hZ⟩
      · have KT := Lib.hid kT
        have HZZ := Lib.hid hZ
        clear kT hZ
        go_upto_region 15 with fail
        refine with_act fun a0 ha0 => ?_
        refine wp_region_inv (by kernel_rfl) (by kernel_rfl) (fun s a' w' => ∃ v99 v100 v101 v102 v103 v98 v104 v105 v106 v16 v17 v18 : Value, a' = putL a0 [(99, v99), (100, v100), (101, v101), (102, v102), (103, v103), (98, v98), (104, v104), (105, v105), (106, v106), (16, v16), (17, v17), (18, v18)] ∧ Hid ((s 0 = true → v99 = .agg #[.int .i64 Z1, .int .i64 Z2]) ∧ (s 1 = true → v100 = .agg #[.int .i64 Y1, .int .i64 Y2]) ∧ (s 2 = true → v101 = .agg #[.int .i64 T1, .int .i64 T2]) ∧ (s 3 = true → v102 = .agg #[.int .i64 Y1, .int .i64 Y2]) ∧ (s 4 = true → v103 = .tuple #[.agg #[.int .i64 Z1, .int .i64 Z2], .agg #[.int .i64 0, .int .i64 0], .int .i64 0]) ∧ (s 5 = true → v98 = .tuple #[.agg #[.int .i64 Z1, .int .i64 Z2], .agg #[.int .i64 0, .int .i64 0], .int .i64 0]) ∧ (s 6 = true → v104 = .agg #[.int .i64 Z1, .int .i64 Z2]) ∧ (s 7 = true → v105 = .agg #[.int .i64 0, .int .i64 0]) ∧ (s 8 = true → v106 = .int .i64 0) ∧ (s 13 = true → v18 = .int .i64 0) ∧ True) ∧ BelX [] (w7.alloc (.cells #[.int .i64 Z1, .int .i64 Z2] 23)) w' ∧ (s 9 = true → ∃ (g : Nat) (c0 c1 : Value), v16 = .pointer (some ⟨g, 0, none⟩) ∧ (w7.alloc (.cells #[.int .i64 Z1, .int .i64 Z2] 23)).heap.size ≤ g ∧ w'.heap[g]? = some (.cells #[c0, c1] 23 (0, 0)) ∧ (s 11 = true → c0 = .int .i64 Z1 ∧ c1 = .int .i64 Z2)) ∧ (s 11 = true → s 9 = true) ∧ (s 10 = true → ∃ (g : Nat) (c0 c1 : Value), v17 = .pointer (some ⟨g, 0, none⟩) ∧ (w7.alloc (.cells #[.int .i64 Z1, .int .i64 Z2] 23)).heap.size ≤ g ∧ w'.heap[g]? = some (.cells #[c0, c1] 23 (0, 0)) ∧ (s 12 = true → c0 = .int .i64 0 ∧ c1 = .int .i64 0)) ∧ (s 12 = true → s 10 = true) ∧ (s 9 = true → s 10 = true → v16 ≠ v17) ∧ True) ?x3hzero ⟨?x3hs0, ?x3hs1, ?x3hs2, ?x3hs3, ?x3hs4, ?x3hs5, ?x3hs6, ?x3hs7, ?x3hs8, ?x3hs9, ?x3hs10, ?x3hs11, ?x3hs12, ?x3hs13, trivial⟩ ?x3hdone
        case x3hzero =>
          refine ⟨a0.tmps.getD 99 undef, a0.tmps.getD 100 undef, a0.tmps.getD 101 undef, a0.tmps.getD 102 undef, a0.tmps.getD 103 undef, a0.tmps.getD 98 undef, a0.tmps.getD 104 undef, a0.tmps.getD 105 undef, a0.tmps.getD 106 undef, a0.tmps.getD 16 undef, a0.tmps.getD 17 undef, a0.tmps.getD 18 undef, ?_, ?_, ?_, ?_, ?_, ?_, ?_, ?_, trivial⟩
          · simp only [putL, put_self]
          · exact Lib.hid ⟨fun h => (by simp at h), fun h => (by simp at h), fun h => (by simp at h), fun h => (by simp at h), fun h => (by simp at h), fun h => (by simp at h), fun h => (by simp at h), fun h => (by simp at h), fun h => (by simp at h), fun h => (by simp at h), trivial⟩
          · exact BelX.start _ _
          · exact fun h => (by simp at h)
          · exact fun h => (by simp at h)
          · exact fun h => (by simp at h)
          · exact fun h => (by simp at h)
          · exact fun h => (by simp at h)
        case x3hs0 =>
          intro s a' w' hsk hdep hI K hK
          try dsimp only at hI hK
          obtain ⟨v99, v100, v101, v102, v103, v98, v104, v105, v106, v16, v17, v18, hact, hR, hX, hA16, hN16, hA17, hN17, hD16_17, _⟩ := hI
          subst hact
          have HK := Lib.hid hK
          clear hK
          have kc0 : w'.cell? ⟨w.heap.size, 0, none⟩ = some (.int .i64 X1) := hX.cell (by first | (simp; done) | (simp; omega)) (by first | assumption | (go_simp; done) | (simp; done))
          have kc1 : w'.cell? ⟨w.heap.size, 1, none⟩ = some (.int .i64 X2) := hX.cell (by first | (simp; done) | (simp; omega)) (by first | assumption | (go_simp; done) | (simp; done))
          have kc2 : w'.cell? ⟨w.heap.size + 1, 0, none⟩ = some (.int .i64 Y1) := hX.cell (by first | (simp; done) | (simp; omega)) (by first | assumption | (go_simp; done) | (simp; done))
          have kc3 : w'.cell? ⟨w.heap.size + 1, 1, none⟩ = some (.int .i64 Y2) := hX.cell (by first | (simp; done) | (simp; omega)) (by first | assumption | (go_simp; done) | (simp; done))
          have kc4 : w'.cell? ⟨w7.heap.size, 0, none⟩ = some (.int .i64 Z1) := hX.cell (by first | (simp; done) | (simp; omega)) (by first | assumption | (go_simp; done) | (simp; done))
          have kc5 : w'.cell? ⟨w7.heap.size, 1, none⟩ = some (.int .i64 Z2) := hX.cell (by first | (simp; done) | (simp; omega)) (by first | assumption | (go_simp; done) | (simp; done))
          clear hdep
          refine StepG.mk rfl ?_; rw [ha0]; simp only [putL, Act.put, List.setIfInBounds_toArray, List.set_cons_zero, List.set_cons_succ]
          go_wp2_with fail
          refine HK.out _ _ ?_
          refine ⟨(.agg #[.int .i64 Z1, .int .i64 Z2]), v100, v101, v102, v103, v98, v104, v105, v106, v16, v17, v18, (by rw [ha0]; simp only [putL, Act.put, List.setIfInBounds_toArray, List.set_cons_zero, List.set_cons_succ]), ?_, ?_, ?_, ?_, ?_, ?_, ?_, trivial⟩
          · obtain ⟨h99, h100, h101, h102, h103, h98, h104, h105, h106, h18, _⟩ := hR.out
            exact Lib.hid ⟨fun _ => rfl, fun h => h100 (by simpa using h), fun h => h101 (by simpa using h), fun h => h102 (by simpa using h), fun h => h103 (by simpa using h), fun h => h98 (by simpa using h), fun h => h104 (by simpa using h), fun h => h105 (by simpa using h), fun h => h106 (by simpa using h), fun h => h18 (by simpa using h), trivial⟩
          · exact hX
          · intro h; obtain ⟨g, c0, c1, e, hg, hblk, hst⟩ := hA16 (by simpa using h); exact ⟨g, c0, c1, e, hg, hblk, fun h => hst (by simpa using h)⟩
          · exact fun h => (by have h1 := hN16 (by simpa using h); simp [h1])
          · intro h; obtain ⟨g, c0, c1, e, hg, hblk, hst⟩ := hA17 (by simpa using h); exact ⟨g, c0, c1, e, hg, hblk, fun h => hst (by simpa using h)⟩
          · exact fun h => (by have h1 := hN17 (by simpa using h); simp [h1])
          · exact fun h1 h2 => hD16_17 (by simpa using h1) (by simpa using h2)
        case x3hs1 =>
          intro s a' w' hsk hdep hI K hK
          try dsimp only at hI hK
          obtain ⟨v99, v100, v101, v102, v103, v98, v104, v105, v106, v16, v17, v18, hact, hR, hX, hA16, hN16, hA17, hN17, hD16_17, _⟩ := hI
          subst hact
          have HK := Lib.hid hK
          clear hK
          have kc0 : w'.cell? ⟨w.heap.size, 0, none⟩ = some (.int .i64 X1) := hX.cell (by first | (simp; done) | (simp; omega)) (by first | assumption | (go_simp; done) | (simp; done))
          have kc1 : w'.cell? ⟨w.heap.size, 1, none⟩ = some (.int .i64 X2) := hX.cell (by first | (simp; done) | (simp; omega)) (by first | assumption | (go_simp; done) | (simp; done))
          have kc2 : w'.cell? ⟨w.heap.size + 1, 0, none⟩ = some (.int .i64 Y1) := hX.cell (by first | (simp; done) | (simp; omega)) (by first | assumption | (go_simp; done) | (simp; done))
          have kc3 : w'.cell? ⟨w.heap.size + 1, 1, none⟩ = some (.int .i64 Y2) := hX.cell (by first | (simp; done) | (simp; omega)) (by first | assumption | (go_simp; done) | (simp; done))
          have kc4 : w'.cell? ⟨w7.heap.size, 0, none⟩ = some (.int .i64 Z1) := hX.cell (by first | (simp; done) | (simp; omega)) (by first | assumption | (go_simp; done) | (simp; done))
          have kc5 : w'.cell? ⟨w7.heap.size, 1, none⟩ = some (.int .i64 Z2) := hX.cell (by first | (simp; done) | (simp; omega)) (by first | assumption | (go_simp; done) | (simp; done))
          clear hdep
          refine StepG.mk rfl ?_; rw [ha0]; simp only [putL, Act.put, List.setIfInBounds_toArray, List.set_cons_zero, List.set_cons_succ]
          go_wp2_with fail
          refine HK.out _ _ ?_
          refine ⟨v99, (.agg #[.int .i64 Y1, .int .i64 Y2]), v101, v102, v103, v98, v104, v105, v106, v16, v17, v18, (by rw [ha0]; simp only [putL, Act.put, List.setIfInBounds_toArray, List.set_cons_zero, List.set_cons_succ]), ?_, ?_, ?_, ?_, ?_, ?_, ?_, trivial⟩
          · obtain ⟨h99, h100, h101, h102, h103, h98, h104, h105, h106, h18, _⟩ := hR.out
            exact Lib.hid ⟨fun h => h99 (by simpa using h), fun _ => rfl, fun h => h101 (by simpa using h), fun h => h102 (by simpa using h), fun h => h103 (by simpa using h), fun h => h98 (by simpa using h), fun h => h104 (by simpa using h), fun h => h105 (by simpa using h), fun h => h106 (by simpa using h), fun h => h18 (by simpa using h), trivial⟩
          · exact hX
          · intro h; obtain ⟨g, c0, c1, e, hg, hblk, hst⟩ := hA16 (by simpa using h); exact ⟨g, c0, c1, e, hg, hblk, fun h => hst (by simpa using h)⟩
          · exact fun h => (by have h1 := hN16 (by simpa using h); simp [h1])
          · intro h; obtain ⟨g, c0, c1, e, hg, hblk, hst⟩ := hA17 (by simpa using h); exact ⟨g, c0, c1, e, hg, hblk, fun h => hst (by simpa using h)⟩
          · exact fun h => (by have h1 := hN17 (by simpa using h); simp [h1])
          · exact fun h1 h2 => hD16_17 (by simpa using h1) (by simpa using h2)
        case x3hs2 =>
          intro s a' w' hsk hdep hI K hK
          try dsimp only at hI hK
          obtain ⟨v99, v100, v101, v102, v103, v98, v104, v105, v106, v16, v17, v18, hact, hR, hX, hA16, hN16, hA17, hN17, hD16_17, _⟩ := hI
          subst hact
          have HK := Lib.hid hK
          clear hK
          have e99 : v99 = .agg #[.int .i64 Z1, .int .i64 Z2] := by obtain ⟨h99, h100, h101, h102, h103, h98, h104, h105, h106, h18, _⟩ := hR.out; exact h99 (hdep ⟨0, .data⟩ (by simp) rfl)
          subst e99
          have e100 : v100 = .agg #[.int .i64 Y1, .int .i64 Y2] := by obtain ⟨h99, h100, h101, h102, h103, h98, h104, h105, h106, h18, _⟩ := hR.out; exact h100 (hdep ⟨1, .data⟩ (by simp) rfl)
          subst e100
          have kc0 : w'.cell? ⟨w.heap.size, 0, none⟩ = some (.int .i64 X1) := hX.cell (by first | (simp; done) | (simp; omega)) (by first | assumption | (go_simp; done) | (simp; done))
          have kc1 : w'.cell? ⟨w.heap.size, 1, none⟩ = some (.int .i64 X2) := hX.cell (by first | (simp; done) | (simp; omega)) (by first | assumption | (go_simp; done) | (simp; done))
          have kc2 : w'.cell? ⟨w.heap.size + 1, 0, none⟩ = some (.int .i64 Y1) := hX.cell (by first | (simp; done) | (simp; omega)) (by first | assumption | (go_simp; done) | (simp; done))
          have kc3 : w'.cell? ⟨w.heap.size + 1, 1, none⟩ = some (.int .i64 Y2) := hX.cell (by first | (simp; done) | (simp; omega)) (by first | assumption | (go_simp; done) | (simp; done))
          have kc4 : w'.cell? ⟨w7.heap.size, 0, none⟩ = some (.int .i64 Z1) := hX.cell (by first | (simp; done) | (simp; omega)) (by first | assumption | (go_simp; done) | (simp; done))
          have kc5 : w'.cell? ⟨w7.heap.size, 1, none⟩ = some (.int .i64 Z2) := hX.cell (by first | (simp; done) | (simp; omega)) (by first | assumption | (go_simp; done) | (simp; done))
          clear hdep
          refine StepG.mk rfl ?_; rw [ha0]; simp only [putL, Act.put, List.setIfInBounds_toArray, List.set_cons_zero, List.set_cons_succ]
          go_wp2_with fail
          refine ((HT2.out _)).mono ?_
          rintro e wn ⟨rfl, hb⟩
          go_wp2_with fail
          refine HK.out _ _ ?_
          refine ⟨(.agg #[.int .i64 Z1, .int .i64 Z2]), (.agg #[.int .i64 Y1, .int .i64 Y2]), (.agg #[.int .i64 T1, .int .i64 T2]), v102, v103, v98, v104, v105, v106, v16, v17, v18, (by rw [ha0]; simp only [putL, Act.put, List.setIfInBounds_toArray, List.set_cons_zero, List.set_cons_succ]), ?_, ?_, ?_, ?_, ?_, ?_, ?_, trivial⟩
          · obtain ⟨h99, h100, h101, h102, h103, h98, h104, h105, h106, h18, _⟩ := hR.out
            exact Lib.hid ⟨fun _ => rfl, fun _ => rfl, fun _ => rfl, fun h => h102 (by simpa using h), fun h => h103 (by simpa using h), fun h => h98 (by simpa using h), fun h => h104 (by simpa using h), fun h => h105 (by simpa using h), fun h => h106 (by simpa using h), fun h => h18 (by simpa using h), trivial⟩
          · exact hX.call hb
          · intro h; obtain ⟨g, c0, c1, e, hg, hblk, hst⟩ := hA16 (by simpa using h); exact ⟨g, c0, c1, e, hg, (hb.block g (blk_lt hblk)).trans hblk, fun h => hst (by simpa using h)⟩
          · exact fun h => (by have h1 := hN16 (by simpa using h); simp [h1])
          · intro h; obtain ⟨g, c0, c1, e, hg, hblk, hst⟩ := hA17 (by simpa using h); exact ⟨g, c0, c1, e, hg, (hb.block g (blk_lt hblk)).trans hblk, fun h => hst (by simpa using h)⟩
          · exact fun h => (by have h1 := hN17 (by simpa using h); simp [h1])
          · exact fun h1 h2 => hD16_17 (by simpa using h1) (by simpa using h2)
        case x3hs3 =>
          intro s a' w' hsk hdep hI K hK
          try dsimp only at hI hK
          obtain ⟨v99, v100, v101, v102, v103, v98, v104, v105, v106, v16, v17, v18, hact, hR, hX, hA16, hN16, hA17, hN17, hD16_17, _⟩ := hI
          subst hact
          have HK := Lib.hid hK
          clear hK
          have kc0 : w'.cell? ⟨w.heap.size, 0, none⟩ = some (.int .i64 X1) := hX.cell (by first | (simp; done) | (simp; omega)) (by first | assumption | (go_simp; done) | (simp; done))
          have kc1 : w'.cell? ⟨w.heap.size, 1, none⟩ = some (.int .i64 X2) := hX.cell (by first | (simp; done) | (simp; omega)) (by first | assumption | (go_simp; done) | (simp; done))
          have kc2 : w'.cell? ⟨w.heap.size + 1, 0, none⟩ = some (.int .i64 Y1) := hX.cell (by first | (simp; done) | (simp; omega)) (by first | assumption | (go_simp; done) | (simp; done))
          have kc3 : w'.cell? ⟨w.heap.size + 1, 1, none⟩ = some (.int .i64 Y2) := hX.cell (by first | (simp; done) | (simp; omega)) (by first | assumption | (go_simp; done) | (simp; done))
          have kc4 : w'.cell? ⟨w7.heap.size, 0, none⟩ = some (.int .i64 Z1) := hX.cell (by first | (simp; done) | (simp; omega)) (by first | assumption | (go_simp; done) | (simp; done))
          have kc5 : w'.cell? ⟨w7.heap.size, 1, none⟩ = some (.int .i64 Z2) := hX.cell (by first | (simp; done) | (simp; omega)) (by first | assumption | (go_simp; done) | (simp; done))
          clear hdep
          refine StepG.mk rfl ?_; rw [ha0]; simp only [putL, Act.put, List.setIfInBounds_toArray, List.set_cons_zero, List.set_cons_succ]
          go_wp2_with fail
          refine HK.out _ _ ?_
          refine ⟨v99, v100, v101, (.agg #[.int .i64 Y1, .int .i64 Y2]), v103, v98, v104, v105, v106, v16, v17, v18, (by rw [ha0]; simp only [putL, Act.put, List.setIfInBounds_toArray, List.set_cons_zero, List.set_cons_succ]), ?_, ?_, ?_, ?_, ?_, ?_, ?_, trivial⟩
          · obtain ⟨h99, h100, h101, h102, h103, h98, h104, h105, h106, h18, _⟩ := hR.out
            exact Lib.hid ⟨fun h => h99 (by simpa using h), fun h => h100 (by simpa using h), fun h => h101 (by simpa using h), fun _ => rfl, fun h => h103 (by simpa using h), fun h => h98 (by simpa using h), fun h => h104 (by simpa using h), fun h => h105 (by simpa using h), fun h => h106 (by simpa using h), fun h => h18 (by simpa using h), trivial⟩
          · exact hX
          · intro h; obtain ⟨g, c0, c1, e, hg, hblk, hst⟩ := hA16 (by simpa using h); exact ⟨g, c0, c1, e, hg, hblk, fun h => hst (by simpa using h)⟩
          · exact fun h => (by have h1 := hN16 (by simpa using h); simp [h1])
          · intro h; obtain ⟨g, c0, c1, e, hg, hblk, hst⟩ := hA17 (by simpa using h); exact ⟨g, c0, c1, e, hg, hblk, fun h => hst (by simpa using h)⟩
          · exact fun h => (by have h1 := hN17 (by simpa using h); simp [h1])
          · exact fun h1 h2 => hD16_17 (by simpa using h1) (by simpa using h2)
        case x3hs4 =>
          intro s a' w' hsk hdep hI K hK
          try dsimp only at hI hK
          obtain ⟨v99, v100, v101, v102, v103, v98, v104, v105, v106, v16, v17, v18, hact, hR, hX, hA16, hN16, hA17, hN17, hD16_17, _⟩ := hI
          subst hact
          have HK := Lib.hid hK
          clear hK
          have e101 : v101 = .agg #[.int .i64 T1, .int .i64 T2] := by obtain ⟨h99, h100, h101, h102, h103, h98, h104, h105, h106, h18, _⟩ := hR.out; exact h101 (hdep ⟨2, .data⟩ (by simp) rfl)
          subst e101
          have e102 : v102 = .agg #[.int .i64 Y1, .int .i64 Y2] := by obtain ⟨h99, h100, h101, h102, h103, h98, h104, h105, h106, h18, _⟩ := hR.out; exact h102 (hdep ⟨3, .data⟩ (by simp) rfl)
          subst e102
          have kc0 : w'.cell? ⟨w.heap.size, 0, none⟩ = some (.int .i64 X1) := hX.cell (by first | (simp; done) | (simp; omega)) (by first | assumption | (go_simp; done) | (simp; done))
          have kc1 : w'.cell? ⟨w.heap.size, 1, none⟩ = some (.int .i64 X2) := hX.cell (by first | (simp; done) | (simp; omega)) (by first | assumption | (go_simp; done) | (simp; done))
          have kc2 : w'.cell? ⟨w.heap.size + 1, 0, none⟩ = some (.int .i64 Y1) := hX.cell (by first | (simp; done) | (simp; omega)) (by first | assumption | (go_simp; done) | (simp; done))
          have kc3 : w'.cell? ⟨w.heap.size + 1, 1, none⟩ = some (.int .i64 Y2) := hX.cell (by first | (simp; done) | (simp; omega)) (by first | assumption | (go_simp; done) | (simp; done))
          have kc4 : w'.cell? ⟨w7.heap.size, 0, none⟩ = some (.int .i64 Z1) := hX.cell (by first | (simp; done) | (simp; omega)) (by first | assumption | (go_simp; done) | (simp; done))
          have kc5 : w'.cell? ⟨w7.heap.size, 1, none⟩ = some (.int .i64 Z2) := hX.cell (by first | (simp; done) | (simp; omega)) (by first | assumption | (go_simp; done) | (simp; done))
          clear hdep
          refine StepG.mk rfl ?_; rw [ha0]; simp only [putL, Act.put, List.setIfInBounds_toArray, List.set_cons_zero, List.set_cons_succ]
          go_wp2_with fail
          refine ((HZZ.out _)).mono ?_
          rintro e wn ⟨rfl, hb⟩
          go_wp2_with fail
          refine HK.out _ _ ?_
          refine ⟨v99, v100, (.agg #[.int .i64 T1, .int .i64 T2]), (.agg #[.int .i64 Y1, .int .i64 Y2]), (.tuple #[.agg #[.int .i64 Z1, .int .i64 Z2], .agg #[.int .i64 0, .int .i64 0], .int .i64 0]), v98, v104, v105, v106, v16, v17, v18, (by rw [ha0]; simp only [putL, Act.put, List.setIfInBounds_toArray, List.set_cons_zero, List.set_cons_succ]), ?_, ?_, ?_, ?_, ?_, ?_, ?_, trivial⟩
          · obtain ⟨h99, h100, h101, h102, h103, h98, h104, h105, h106, h18, _⟩ := hR.out
            exact Lib.hid ⟨fun h => h99 (by simpa using h), fun h => h100 (by simpa using h), fun _ => rfl, fun _ => rfl, fun _ => rfl, fun h => h98 (by simpa using h), fun h => h104 (by simpa using h), fun h => h105 (by simpa using h), fun h => h106 (by simpa using h), fun h => h18 (by simpa using h), trivial⟩
          · exact hX.call hb
          · intro h; obtain ⟨g, c0, c1, e, hg, hblk, hst⟩ := hA16 (by simpa using h); exact ⟨g, c0, c1, e, hg, (hb.block g (blk_lt hblk)).trans hblk, fun h => hst (by simpa using h)⟩
          · exact fun h => (by have h1 := hN16 (by simpa using h); simp [h1])
          · intro h; obtain ⟨g, c0, c1, e, hg, hblk, hst⟩ := hA17 (by simpa using h); exact ⟨g, c0, c1, e, hg, (hb.block g (blk_lt hblk)).trans hblk, fun h => hst (by simpa using h)⟩
          · exact fun h => (by have h1 := hN17 (by simpa using h); simp [h1])
          · exact fun h1 h2 => hD16_17 (by simpa using h1) (by simpa using h2)
        case x3hs5 =>
          intro s a' w' hsk hdep hI K hK
          try dsimp only at hI hK
          obtain ⟨v99, v100, v101, v102, v103, v98, v104, v105, v106, v16, v17, v18, hact, hR, hX, hA16, hN16, hA17, hN17, hD16_17, _⟩ := hI
          subst hact
          have HK := Lib.hid hK
          clear hK
          have e103 : v103 = .tuple #[.agg #[.int .i64 Z1, .int .i64 Z2], .agg #[.int .i64 0, .int .i64 0], .int .i64 0] := by obtain ⟨h99, h100, h101, h102, h103, h98, h104, h105, h106, h18, _⟩ := hR.out; exact h103 (hdep ⟨4, .data⟩ (by simp) rfl)
          subst e103
          have kc0 : w'.cell? ⟨w.heap.size, 0, none⟩ = some (.int .i64 X1) := hX.cell (by first | (simp; done) | (simp; omega)) (by first | assumption | (go_simp; done) | (simp; done))
          have kc1 : w'.cell? ⟨w.heap.size, 1, none⟩ = some (.int .i64 X2) := hX.cell (by first | (simp; done) | (simp; omega)) (by first | assumption | (go_simp; done) | (simp; done))
          have kc2 : w'.cell? ⟨w.heap.size + 1, 0, none⟩ = some (.int .i64 Y1) := hX.cell (by first | (simp; done) | (simp; omega)) (by first | assumption | (go_simp; done) | (simp; done))
          have kc3 : w'.cell? ⟨w.heap.size + 1, 1, none⟩ = some (.int .i64 Y2) := hX.cell (by first | (simp; done) | (simp; omega)) (by first | assumption | (go_simp; done) | (simp; done))
          have kc4 : w'.cell? ⟨w7.heap.size, 0, none⟩ = some (.int .i64 Z1) := hX.cell (by first | (simp; done) | (simp; omega)) (by first | assumption | (go_simp; done) | (simp; done))
          have kc5 : w'.cell? ⟨w7.heap.size, 1, none⟩ = some (.int .i64 Z2) := hX.cell (by first | (simp; done) | (simp; omega)) (by first | assumption | (go_simp; done) | (simp; done))
          clear hdep
          refine StepG.mk rfl ?_; rw [ha0]; simp only [putL, Act.put, List.setIfInBounds_toArray, List.set_cons_zero, List.set_cons_succ]
          go_wp2_with fail
          refine HK.out _ _ ?_
          refine ⟨v99, v100, v101, v102, (.tuple #[.agg #[.int .i64 Z1, .int .i64 Z2], .agg #[.int .i64 0, .int .i64 0], .int .i64 0]), (.tuple #[.agg #[.int .i64 Z1, .int .i64 Z2], .agg #[.int .i64 0, .int .i64 0], .int .i64 0]), v104, v105, v106, v16, v17, v18, (by rw [ha0]; simp only [putL, Act.put, List.setIfInBounds_toArray, List.set_cons_zero, List.set_cons_succ]), ?_, ?_, ?_, ?_, ?_, ?_, ?_, trivial⟩
          · obtain ⟨h99, h100, h101, h102, h103, h98, h104, h105, h106, h18, _⟩ := hR.out
            exact Lib.hid ⟨fun h => h99 (by simpa using h), fun h => h100 (by simpa using h), fun h => h101 (by simpa using h), fun h => h102 (by simpa using h), fun _ => rfl, fun _ => rfl, fun h => h104 (by simpa using h), fun h => h105 (by simpa using h), fun h => h106 (by simpa using h), fun h => h18 (by simpa using h), trivial⟩
          · exact hX
          · intro h; obtain ⟨g, c0, c1, e, hg, hblk, hst⟩ := hA16 (by simpa using h); exact ⟨g, c0, c1, e, hg, hblk, fun h => hst (by simpa using h)⟩
          · exact fun h => (by have h1 := hN16 (by simpa using h); simp [h1])
          · intro h; obtain ⟨g, c0, c1, e, hg, hblk, hst⟩ := hA17 (by simpa using h); exact ⟨g, c0, c1, e, hg, hblk, fun h => hst (by simpa using h)⟩
          · exact fun h => (by have h1 := hN17 (by simpa using h); simp [h1])
          · exact fun h1 h2 => hD16_17 (by simpa using h1) (by simpa using h2)
        case x3hs6 =>
          intro s a' w' hsk hdep hI K hK
          try dsimp only at hI hK
          obtain ⟨v99, v100, v101, v102, v103, v98, v104, v105, v106, v16, v17, v18, hact, hR, hX, hA16, hN16, hA17, hN17, hD16_17, _⟩ := hI
          subst hact
          have HK := Lib.hid hK
          clear hK
          have e98 : v98 = .tuple #[.agg #[.int .i64 Z1, .int .i64 Z2], .agg #[.int .i64 0, .int .i64 0], .int .i64 0] := by obtain ⟨h99, h100, h101, h102, h103, h98, h104, h105, h106, h18, _⟩ := hR.out; exact h98 (hdep ⟨5, .data⟩ (by simp) rfl)
          subst e98
          have kc0 : w'.cell? ⟨w.heap.size, 0, none⟩ = some (.int .i64 X1) := hX.cell (by first | (simp; done) | (simp; omega)) (by first | assumption | (go_simp; done) | (simp; done))
          have kc1 : w'.cell? ⟨w.heap.size, 1, none⟩ = some (.int .i64 X2) := hX.cell (by first | (simp; done) | (simp; omega)) (by first | assumption | (go_simp; done) | (simp; done))
          have kc2 : w'.cell? ⟨w.heap.size + 1, 0, none⟩ = some (.int .i64 Y1) := hX.cell (by first | (simp; done) | (simp; omega)) (by first | assumption | (go_simp; done) | (simp; done))
          have kc3 : w'.cell? ⟨w.heap.size + 1, 1, none⟩ = some (.int .i64 Y2) := hX.cell (by first | (simp; done) | (simp; omega)) (by first | assumption | (go_simp; done) | (simp; done))
          have kc4 : w'.cell? ⟨w7.heap.size, 0, none⟩ = some (.int .i64 Z1) := hX.cell (by first | (simp; done) | (simp; omega)) (by first | assumption | (go_simp; done) | (simp; done))
          have kc5 : w'.cell? ⟨w7.heap.size, 1, none⟩ = some (.int .i64 Z2) := hX.cell (by first | (simp; done) | (simp; omega)) (by first | assumption | (go_simp; done) | (simp; done))
          clear hdep
          refine StepG.mk rfl ?_; rw [ha0]; simp only [putL, Act.put, List.setIfInBounds_toArray, List.set_cons_zero, List.set_cons_succ]
          go_wp2_with fail
          refine HK.out _ _ ?_
          refine ⟨v99, v100, v101, v102, v103, (.tuple #[.agg #[.int .i64 Z1, .int .i64 Z2], .agg #[.int .i64 0, .int .i64 0], .int .i64 0]), (.agg #[.int .i64 Z1, .int .i64 Z2]), v105, v106, v16, v17, v18, (by rw [ha0]; simp only [putL, Act.put, List.setIfInBounds_toArray, List.set_cons_zero, List.set_cons_succ]), ?_, ?_, ?_, ?_, ?_, ?_, ?_, trivial⟩
          · obtain ⟨h99, h100, h101, h102, h103, h98, h104, h105, h106, h18, _⟩ := hR.out
            exact Lib.hid ⟨fun h => h99 (by simpa using h), fun h => h100 (by simpa using h), fun h => h101 (by simpa using h), fun h => h102 (by simpa using h), fun h => h103 (by simpa using h), fun _ => rfl, fun _ => rfl, fun h => h105 (by simpa using h), fun h => h106 (by simpa using h), fun h => h18 (by simpa using h), trivial⟩
          · exact hX
          · intro h; obtain ⟨g, c0, c1, e, hg, hblk, hst⟩ := hA16 (by simpa using h); exact ⟨g, c0, c1, e, hg, hblk, fun h => hst (by simpa using h)⟩
          · exact fun h => (by have h1 := hN16 (by simpa using h); simp [h1])
          · intro h; obtain ⟨g, c0, c1, e, hg, hblk, hst⟩ := hA17 (by simpa using h); exact ⟨g, c0, c1, e, hg, hblk, fun h => hst (by simpa using h)⟩
          · exact fun h => (by have h1 := hN17 (by simpa using h); simp [h1])
          · exact fun h1 h2 => hD16_17 (by simpa using h1) (by simpa using h2)
        case x3hs7 =>
          intro s a' w' hsk hdep hI K hK
          try dsimp only at hI hK
          obtain ⟨v99, v100, v101, v102, v103, v98, v104, v105, v106, v16, v17, v18, hact, hR, hX, hA16, hN16, hA17, hN17, hD16_17, _⟩ := hI
          subst hact
          have HK := Lib.hid hK
          clear hK
          have e98 : v98 = .tuple #[.agg #[.int .i64 Z1, .int .i64 Z2], .agg #[.int .i64 0, .int .i64 0], .int .i64 0] := by obtain ⟨h99, h100, h101, h102, h103, h98, h104, h105, h106, h18, _⟩ := hR.out; exact h98 (hdep ⟨5, .data⟩ (by simp) rfl)
          subst e98
          have kc0 : w'.cell? ⟨w.heap.size, 0, none⟩ = some (.int .i64 X1) := hX.cell (by first | (simp; done) | (simp; omega)) (by first | assumption | (go_simp; done) | (simp; done))
          have kc1 : w'.cell? ⟨w.heap.size, 1, none⟩ = some (.int .i64 X2) := hX.cell (by first | (simp; done) | (simp; omega)) (by first | assumption | (go_simp; done) | (simp; done))
          have kc2 : w'.cell? ⟨w.heap.size + 1, 0, none⟩ = some (.int .i64 Y1) := hX.cell (by first | (simp; done) | (simp; omega)) (by first | assumption | (go_simp; done) | (simp; done))
          have kc3 : w'.cell? ⟨w.heap.size + 1, 1, none⟩ = some (.int .i64 Y2) := hX.cell (by first | (simp; done) | (simp; omega)) (by first | assumption | (go_simp; done) | (simp; done))
          have kc4 : w'.cell? ⟨w7.heap.size, 0, none⟩ = some (.int .i64 Z1) := hX.cell (by first | (simp; done) | (simp; omega)) (by first | assumption | (go_simp; done) | (simp; done))
          have kc5 : w'.cell? ⟨w7.heap.size, 1, none⟩ = some (.int .i64 Z2) := hX.cell (by first | (simp; done) | (simp; omega)) (by first | assumption | (go_simp; done) | (simp; done))
          clear hdep
          refine StepG.mk rfl ?_; rw [ha0]; simp only [putL, Act.put, List.setIfInBounds_toArray, List.set_cons_zero, List.set_cons_succ]
          go_wp2_with fail
          refine HK.out _ _ ?_
          refine ⟨v99, v100, v101, v102, v103, (.tuple #[.agg #[.int .i64 Z1, .int .i64 Z2], .agg #[.int .i64 0, .int .i64 0], .int .i64 0]), v104, (.agg #[.int .i64 0, .int .i64 0]), v106, v16, v17, v18, (by rw [ha0]; simp only [putL, Act.put, List.setIfInBounds_toArray, List.set_cons_zero, List.set_cons_succ]), ?_, ?_, ?_, ?_, ?_, ?_, ?_, trivial⟩
          · obtain ⟨h99, h100, h101, h102, h103, h98, h104, h105, h106, h18, _⟩ := hR.out
            exact Lib.hid ⟨fun h => h99 (by simpa using h), fun h => h100 (by simpa using h), fun h => h101 (by simpa using h), fun h => h102 (by simpa using h), fun h => h103 (by simpa using h), fun _ => rfl, fun h => h104 (by simpa using h), fun _ => rfl, fun h => h106 (by simpa using h), fun h => h18 (by simpa using h), trivial⟩
          · exact hX
          · intro h; obtain ⟨g, c0, c1, e, hg, hblk, hst⟩ := hA16 (by simpa using h); exact ⟨g, c0, c1, e, hg, hblk, fun h => hst (by simpa using h)⟩
          · exact fun h => (by have h1 := hN16 (by simpa using h); simp [h1])
          · intro h; obtain ⟨g, c0, c1, e, hg, hblk, hst⟩ := hA17 (by simpa using h); exact ⟨g, c0, c1, e, hg, hblk, fun h => hst (by simpa using h)⟩
          · exact fun h => (by have h1 := hN17 (by simpa using h); simp [h1])
          · exact fun h1 h2 => hD16_17 (by simpa using h1) (by simpa using h2)
        case x3hs8 =>
          intro s a' w' hsk hdep hI K hK
          try dsimp only at hI hK
          obtain ⟨v99, v100, v101, v102, v103, v98, v104, v105, v106, v16, v17, v18, hact, hR, hX, hA16, hN16, hA17, hN17, hD16_17, _⟩ := hI
          subst hact
          have HK := Lib.hid hK
          clear hK
          have e98 : v98 = .tuple #[.agg #[.int .i64 Z1, .int .i64 Z2], .agg #[.int .i64 0, .int .i64 0], .int .i64 0] := by obtain ⟨h99, h100, h101, h102, h103, h98, h104, h105, h106, h18, _⟩ := hR.out; exact h98 (hdep ⟨5, .data⟩ (by simp) rfl)
          subst e98
          have kc0 : w'.cell? ⟨w.heap.size, 0, none⟩ = some (.int .i64 X1) := hX.cell (by first | (simp; done) | (simp; omega)) (by first | assumption | (go_simp; done) | (simp; done))
          have kc1 : w'.cell? ⟨w.heap.size, 1, none⟩ = some (.int .i64 X2) := hX.cell (by first | (simp; done) | (simp; omega)) (by first | assumption | (go_simp; done) | (simp; done))
          have kc2 : w'.cell? ⟨w.heap.size + 1, 0, none⟩ = some (.int .i64 Y1) := hX.cell (by first | (simp; done) | (simp; omega)) (by first | assumption | (go_simp; done) | (simp; done))
          have kc3 : w'.cell? ⟨w.heap.size + 1, 1, none⟩ = some (.int .i64 Y2) := hX.cell (by first | (simp; done) | (simp; omega)) (by first | assumption | (go_simp; done) | (simp; done))
          have kc4 : w'.cell? ⟨w7.heap.size, 0, none⟩ = some (.int .i64 Z1) := hX.cell (by first | (simp; done) | (simp; omega)) (by first | assumption | (go_simp; done) | (simp; done))
          have kc5 : w'.cell? ⟨w7.heap.size, 1, none⟩ = some (.int .i64 Z2) := hX.cell (by first | (simp; done) | (simp; omega)) (by first | assumption | (go_simp; done) | (simp; done))
          clear hdep
          refine StepG.mk rfl ?_; rw [ha0]; simp only [putL, Act.put, List.setIfInBounds_toArray, List.set_cons_zero, List.set_cons_succ]
          go_wp2_with fail
          refine HK.out _ _ ?_
          refine ⟨v99, v100, v101, v102, v103, (.tuple #[.agg #[.int .i64 Z1, .int .i64 Z2], .agg #[.int .i64 0, .int .i64 0], .int .i64 0]), v104, v105, (.int .i64 0), v16, v17, v18, (by rw [ha0]; simp only [putL, Act.put, List.setIfInBounds_toArray, List.set_cons_zero, List.set_cons_succ]), ?_, ?_, ?_, ?_, ?_, ?_, ?_, trivial⟩
          · obtain ⟨h99, h100, h101, h102, h103, h98, h104, h105, h106, h18, _⟩ := hR.out
            exact Lib.hid ⟨fun h => h99 (by simpa using h), fun h => h100 (by simpa using h), fun h => h101 (by simpa using h), fun h => h102 (by simpa using h), fun h => h103 (by simpa using h), fun _ => rfl, fun h => h104 (by simpa using h), fun h => h105 (by simpa using h), fun _ => rfl, fun h => h18 (by simpa using h), trivial⟩
          · exact hX
          · intro h; obtain ⟨g, c0, c1, e, hg, hblk, hst⟩ := hA16 (by simpa using h); exact ⟨g, c0, c1, e, hg, hblk, fun h => hst (by simpa using h)⟩
          · exact fun h => (by have h1 := hN16 (by simpa using h); simp [h1])
          · intro h; obtain ⟨g, c0, c1, e, hg, hblk, hst⟩ := hA17 (by simpa using h); exact ⟨g, c0, c1, e, hg, hblk, fun h => hst (by simpa using h)⟩
          · exact fun h => (by have h1 := hN17 (by simpa using h); simp [h1])
          · exact fun h1 h2 => hD16_17 (by simpa using h1) (by simpa using h2)
        case x3hs9 =>
          intro s a' w' hsk hdep hI K hK
          try dsimp only at hI hK
          obtain ⟨v99, v100, v101, v102, v103, v98, v104, v105, v106, v16, v17, v18, hact, hR, hX, hA16, hN16, hA17, hN17, hD16_17, _⟩ := hI
          subst hact
          have HK := Lib.hid hK
          clear hK
          have kc0 : w'.cell? ⟨w.heap.size, 0, none⟩ = some (.int .i64 X1) := hX.cell (by first | (simp; done) | (simp; omega)) (by first | assumption | (go_simp; done) | (simp; done))
          have kc1 : w'.cell? ⟨w.heap.size, 1, none⟩ = some (.int .i64 X2) := hX.cell (by first | (simp; done) | (simp; omega)) (by first | assumption | (go_simp; done) | (simp; done))
          have kc2 : w'.cell? ⟨w.heap.size + 1, 0, none⟩ = some (.int .i64 Y1) := hX.cell (by first | (simp; done) | (simp; omega)) (by first | assumption | (go_simp; done) | (simp; done))
          have kc3 : w'.cell? ⟨w.heap.size + 1, 1, none⟩ = some (.int .i64 Y2) := hX.cell (by first | (simp; done) | (simp; omega)) (by first | assumption | (go_simp; done) | (simp; done))
          have kc4 : w'.cell? ⟨w7.heap.size, 0, none⟩ = some (.int .i64 Z1) := hX.cell (by first | (simp; done) | (simp; omega)) (by first | assumption | (go_simp; done) | (simp; done))
          have kc5 : w'.cell? ⟨w7.heap.size, 1, none⟩ = some (.int .i64 Z2) := hX.cell (by first | (simp; done) | (simp; omega)) (by first | assumption | (go_simp; done) | (simp; done))
          clear hdep
          refine StepG.mk rfl ?_; rw [ha0]; simp only [putL, Act.put, List.setIfInBounds_toArray, List.set_cons_zero, List.set_cons_succ]
          go_wp2_with fail
          refine HK.out _ _ ?_
          refine ⟨v99, v100, v101, v102, v103, v98, v104, v105, v106, (.pointer (some ⟨w'.heap.size, 0, none⟩)), v17, v18, (by rw [ha0]; simp only [putL, Act.put, List.setIfInBounds_toArray, List.set_cons_zero, List.set_cons_succ]), ?_, ?_, ?_, ?_, ?_, ?_, ?_, trivial⟩
          · obtain ⟨h99, h100, h101, h102, h103, h98, h104, h105, h106, h18, _⟩ := hR.out
            exact Lib.hid ⟨fun h => h99 (by simpa using h), fun h => h100 (by simpa using h), fun h => h101 (by simpa using h), fun h => h102 (by simpa using h), fun h => h103 (by simpa using h), fun h => h98 (by simpa using h), fun h => h104 (by simpa using h), fun h => h105 (by simpa using h), fun h => h106 (by simpa using h), fun h => h18 (by simpa using h), trivial⟩
          · exact hX.alloc _
          · exact fun _ => ⟨w'.heap.size, .int .i64 0, .int .i64 0, rfl, hX.size, blk_new w' _, fun h => (by have h1 := hN16 (by simpa using h); rw [h1] at hsk; cases hsk)⟩
          · exact fun _ => rfl
          · intro h; obtain ⟨g, c0, c1, e, hg, hblk, hst⟩ := hA17 (by simpa using h); exact ⟨g, c0, c1, e, hg, blk_old hblk, fun h => hst (by simpa using h)⟩
          · exact fun h => (by have h1 := hN17 (by simpa using h); simp [h1])
          · intro h1 h2 hE; obtain ⟨g2, _, _, e2, hg2, hblk2, _⟩ := hA17 (by simpa using h2); rw [e2] at hE; have hlt2 := blk_lt hblk2; (simp at hE <;> omega)
        case x3hs10 =>
          intro s a' w' hsk hdep hI K hK
          try dsimp only at hI hK
          obtain ⟨v99, v100, v101, v102, v103, v98, v104, v105, v106, v16, v17, v18, hact, hR, hX, hA16, hN16, hA17, hN17, hD16_17, _⟩ := hI
          subst hact
          have HK := Lib.hid hK
          clear hK
          have kc0 : w'.cell? ⟨w.heap.size, 0, none⟩ = some (.int .i64 X1) := hX.cell (by first | (simp; done) | (simp; omega)) (by first | assumption | (go_simp; done) | (simp; done))
          have kc1 : w'.cell? ⟨w.heap.size, 1, none⟩ = some (.int .i64 X2) := hX.cell (by first | (simp; done) | (simp; omega)) (by first | assumption | (go_simp; done) | (simp; done))
          have kc2 : w'.cell? ⟨w.heap.size + 1, 0, none⟩ = some (.int .i64 Y1) := hX.cell (by first | (simp; done) | (simp; omega)) (by first | assumption | (go_simp; done) | (simp; done))
          have kc3 : w'.cell? ⟨w.heap.size + 1, 1, none⟩ = some (.int .i64 Y2) := hX.cell (by first | (simp; done) | (simp; omega)) (by first | assumption | (go_simp; done) | (simp; done))
          have kc4 : w'.cell? ⟨w7.heap.size, 0, none⟩ = some (.int .i64 Z1) := hX.cell (by first | (simp; done) | (simp; omega)) (by first | assumption | (go_simp; done) | (simp; done))
          have kc5 : w'.cell? ⟨w7.heap.size, 1, none⟩ = some (.int .i64 Z2) := hX.cell (by first | (simp; done) | (simp; omega)) (by first | assumption | (go_simp; done) | (simp; done))
          clear hdep
          refine StepG.mk rfl ?_; rw [ha0]; simp only [putL, Act.put, List.setIfInBounds_toArray, List.set_cons_zero, List.set_cons_succ]
          go_wp2_with fail
          refine HK.out _ _ ?_
          refine ⟨v99, v100, v101, v102, v103, v98, v104, v105, v106, v16, (.pointer (some ⟨w'.heap.size, 0, none⟩)), v18, (by rw [ha0]; simp only [putL, Act.put, List.setIfInBounds_toArray, List.set_cons_zero, List.set_cons_succ]), ?_, ?_, ?_, ?_, ?_, ?_, ?_, trivial⟩
          · obtain ⟨h99, h100, h101, h102, h103, h98, h104, h105, h106, h18, _⟩ := hR.out
            exact Lib.hid ⟨fun h => h99 (by simpa using h), fun h => h100 (by simpa using h), fun h => h101 (by simpa using h), fun h => h102 (by simpa using h), fun h => h103 (by simpa using h), fun h => h98 (by simpa using h), fun h => h104 (by simpa using h), fun h => h105 (by simpa using h), fun h => h106 (by simpa using h), fun h => h18 (by simpa using h), trivial⟩
          · exact hX.alloc _
          · intro h; obtain ⟨g, c0, c1, e, hg, hblk, hst⟩ := hA16 (by simpa using h); exact ⟨g, c0, c1, e, hg, blk_old hblk, fun h => hst (by simpa using h)⟩
          · exact fun h => (by have h1 := hN16 (by simpa using h); simp [h1])
          · exact fun _ => ⟨w'.heap.size, .int .i64 0, .int .i64 0, rfl, hX.size, blk_new w' _, fun h => (by have h1 := hN17 (by simpa using h); rw [h1] at hsk; cases hsk)⟩
          · exact fun _ => rfl
          · intro h1 h2 hE; obtain ⟨g2, _, _, e2, hg2, hblk2, _⟩ := hA16 (by simpa using h1); rw [e2] at hE; have hlt2 := blk_lt hblk2; (simp at hE <;> omega)
        case x3hs11 =>
          intro s a' w' hsk hdep hI K hK
          try dsimp only at hI hK
          obtain ⟨v99, v100, v101, v102, v103, v98, v104, v105, v106, v16, v17, v18, hact, hR, hX, hA16, hN16, hA17, hN17, hD16_17, _⟩ := hI
          subst hact
          have HK := Lib.hid hK
          clear hK
          have e104 : v104 = .agg #[.int .i64 Z1, .int .i64 Z2] := by obtain ⟨h99, h100, h101, h102, h103, h98, h104, h105, h106, h18, _⟩ := hR.out; exact h104 (hdep ⟨6, .data⟩ (by simp) rfl)
          subst e104
          obtain ⟨g, c0, c1, ev, hg, hblk, hst⟩ := hA16 (hdep ⟨9, .data⟩ (by simp) rfl)
          subst ev
          have kc0 : w'.cell? ⟨w.heap.size, 0, none⟩ = some (.int .i64 X1) := hX.cell (by first | (simp; done) | (simp; omega)) (by first | assumption | (go_simp; done) | (simp; done))
          have kc1 : w'.cell? ⟨w.heap.size, 1, none⟩ = some (.int .i64 X2) := hX.cell (by first | (simp; done) | (simp; omega)) (by first | assumption | (go_simp; done) | (simp; done))
          have kc2 : w'.cell? ⟨w.heap.size + 1, 0, none⟩ = some (.int .i64 Y1) := hX.cell (by first | (simp; done) | (simp; omega)) (by first | assumption | (go_simp; done) | (simp; done))
          have kc3 : w'.cell? ⟨w.heap.size + 1, 1, none⟩ = some (.int .i64 Y2) := hX.cell (by first | (simp; done) | (simp; omega)) (by first | assumption | (go_simp; done) | (simp; done))
          have kc4 : w'.cell? ⟨w7.heap.size, 0, none⟩ = some (.int .i64 Z1) := hX.cell (by first | (simp; done) | (simp; omega)) (by first | assumption | (go_simp; done) | (simp; done))
          have kc5 : w'.cell? ⟨w7.heap.size, 1, none⟩ = some (.int .i64 Z2) := hX.cell (by first | (simp; done) | (simp; omega)) (by first | assumption | (go_simp; done) | (simp; done))
          have kb0 : w'.cell? ⟨g, 0, none⟩ = some c0 := cell_of_row w' g 0 _ _ _ hblk
          have kb1 : w'.cell? ⟨g, 1, none⟩ = some c1 := cell_of_row w' g 1 _ _ _ hblk
          have kf : ∀ o, w'.frozen? ⟨g, o, none⟩ = false := fun o => frozen_of_row w' g o _ _ hblk
          have hBlk := Lib.hid hblk
          clear hblk
          have hdepA : s 9 = true := hdep ⟨9, .data⟩ (by simp) rfl
          clear hdep
          refine StepG.mk rfl ?_; rw [ha0]; simp only [putL, Act.put, List.setIfInBounds_toArray, List.set_cons_zero, List.set_cons_succ]
          go_wp2_with fail
          refine HK.out _ _ ?_
          refine ⟨v99, v100, v101, v102, v103, v98, (.agg #[.int .i64 Z1, .int .i64 Z2]), v105, v106, (.pointer (some ⟨g, 0, none⟩)), v17, v18, (by rw [ha0]; simp only [putL, Act.put, List.setIfInBounds_toArray, List.set_cons_zero, List.set_cons_succ]), ?_, ?_, ?_, ?_, ?_, ?_, ?_, trivial⟩
          · obtain ⟨h99, h100, h101, h102, h103, h98, h104, h105, h106, h18, _⟩ := hR.out
            exact Lib.hid ⟨fun h => h99 (by simpa using h), fun h => h100 (by simpa using h), fun h => h101 (by simpa using h), fun h => h102 (by simpa using h), fun h => h103 (by simpa using h), fun h => h98 (by simpa using h), fun _ => rfl, fun h => h105 (by simpa using h), fun h => h106 (by simpa using h), fun h => h18 (by simpa using h), trivial⟩
          · exact ((hX.setNew (p := ⟨g, 0, none⟩) hg _).setNew (p := ⟨g, 1, none⟩) hg _)
          · exact fun _ => ⟨g, _, _, rfl, hg, blk_set2 hBlk.out, fun _ => ⟨rfl, rfl⟩⟩
          · exact fun _ => (by simp [hdepA])
          · intro h; obtain ⟨g2, c0, c1, e, hg2, hblk, hst⟩ := hA17 (by simpa using h); exact ⟨g2, c0, c1, e, hg2, blk_far2 (fun h0 => hD16_17 hdepA (by simpa using h) (by rw [e, h0])) hblk, fun h => hst (by simpa using h)⟩
          · exact fun h => (by have h1 := hN17 (by simpa using h); simp [h1])
          · exact fun h1 h2 => hD16_17 (by simpa using h1) (by simpa using h2)
        case x3hs12 =>
          intro s a' w' hsk hdep hI K hK
          try dsimp only at hI hK
          obtain ⟨v99, v100, v101, v102, v103, v98, v104, v105, v106, v16, v17, v18, hact, hR, hX, hA16, hN16, hA17, hN17, hD16_17, _⟩ := hI
          subst hact
          have HK := Lib.hid hK
          clear hK
          have e105 : v105 = .agg #[.int .i64 0, .int .i64 0] := by obtain ⟨h99, h100, h101, h102, h103, h98, h104, h105, h106, h18, _⟩ := hR.out; exact h105 (hdep ⟨7, .data⟩ (by simp) rfl)
          subst e105
          obtain ⟨g, c0, c1, ev, hg, hblk, hst⟩ := hA17 (hdep ⟨10, .data⟩ (by simp) rfl)
          subst ev
          have kc0 : w'.cell? ⟨w.heap.size, 0, none⟩ = some (.int .i64 X1) := hX.cell (by first | (simp; done) | (simp; omega)) (by first | assumption | (go_simp; done) | (simp; done))
          have kc1 : w'.cell? ⟨w.heap.size, 1, none⟩ = some (.int .i64 X2) := hX.cell (by first | (simp; done) | (simp; omega)) (by first | assumption | (go_simp; done) | (simp; done))
          have kc2 : w'.cell? ⟨w.heap.size + 1, 0, none⟩ = some (.int .i64 Y1) := hX.cell (by first | (simp; done) | (simp; omega)) (by first | assumption | (go_simp; done) | (simp; done))
          have kc3 : w'.cell? ⟨w.heap.size + 1, 1, none⟩ = some (.int .i64 Y2) := hX.cell (by first | (simp; done) | (simp; omega)) (by first | assumption | (go_simp; done) | (simp; done))
          have kc4 : w'.cell? ⟨w7.heap.size, 0, none⟩ = some (.int .i64 Z1) := hX.cell (by first | (simp; done) | (simp; omega)) (by first | assumption | (go_simp; done) | (simp; done))
          have kc5 : w'.cell? ⟨w7.heap.size, 1, none⟩ = some (.int .i64 Z2) := hX.cell (by first | (simp; done) | (simp; omega)) (by first | assumption | (go_simp; done) | (simp; done))
          have kb0 : w'.cell? ⟨g, 0, none⟩ = some c0 := cell_of_row w' g 0 _ _ _ hblk
          have kb1 : w'.cell? ⟨g, 1, none⟩ = some c1 := cell_of_row w' g 1 _ _ _ hblk
          have kf : ∀ o, w'.frozen? ⟨g, o, none⟩ = false := fun o => frozen_of_row w' g o _ _ hblk
          have hBlk := Lib.hid hblk
          clear hblk
          have hdepA : s 10 = true := hdep ⟨10, .data⟩ (by simp) rfl
          clear hdep
          refine StepG.mk rfl ?_; rw [ha0]; simp only [putL, Act.put, List.setIfInBounds_toArray, List.set_cons_zero, List.set_cons_succ]
          go_wp2_with fail
          refine HK.out _ _ ?_
          refine ⟨v99, v100, v101, v102, v103, v98, v104, (.agg #[.int .i64 0, .int .i64 0]), v106, v16, (.pointer (some ⟨g, 0, none⟩)), v18, (by rw [ha0]; simp only [putL, Act.put, List.setIfInBounds_toArray, List.set_cons_zero, List.set_cons_succ]), ?_, ?_, ?_, ?_, ?_, ?_, ?_, trivial⟩
          · obtain ⟨h99, h100, h101, h102, h103, h98, h104, h105, h106, h18, _⟩ := hR.out
            exact Lib.hid ⟨fun h => h99 (by simpa using h), fun h => h100 (by simpa using h), fun h => h101 (by simpa using h), fun h => h102 (by simpa using h), fun h => h103 (by simpa using h), fun h => h98 (by simpa using h), fun h => h104 (by simpa using h), fun _ => rfl, fun h => h106 (by simpa using h), fun h => h18 (by simpa using h), trivial⟩
          · exact ((hX.setNew (p := ⟨g, 0, none⟩) hg _).setNew (p := ⟨g, 1, none⟩) hg _)
          · intro h; obtain ⟨g2, c0, c1, e, hg2, hblk, hst⟩ := hA16 (by simpa using h); exact ⟨g2, c0, c1, e, hg2, blk_far2 (fun h0 => hD16_17 (by simpa using h) hdepA (by rw [e, h0])) hblk, fun h => hst (by simpa using h)⟩
          · exact fun h => (by have h1 := hN16 (by simpa using h); simp [h1])
          · exact fun _ => ⟨g, _, _, rfl, hg, blk_set2 hBlk.out, fun _ => ⟨rfl, rfl⟩⟩
          · exact fun _ => (by simp [hdepA])
          · exact fun h1 h2 => hD16_17 (by simpa using h1) (by simpa using h2)
        case x3hs13 =>
          intro s a' w' hsk hdep hI K hK
          try dsimp only at hI hK
          obtain ⟨v99, v100, v101, v102, v103, v98, v104, v105, v106, v16, v17, v18, hact, hR, hX, hA16, hN16, hA17, hN17, hD16_17, _⟩ := hI
          subst hact
          have HK := Lib.hid hK
          clear hK
          have e106 : v106 = .int .i64 0 := by obtain ⟨h99, h100, h101, h102, h103, h98, h104, h105, h106, h18, _⟩ := hR.out; exact h106 (hdep ⟨8, .data⟩ (by simp) rfl)
          subst e106
          have kc0 : w'.cell? ⟨w.heap.size, 0, none⟩ = some (.int .i64 X1) := hX.cell (by first | (simp; done) | (simp; omega)) (by first | assumption | (go_simp; done) | (simp; done))
          have kc1 : w'.cell? ⟨w.heap.size, 1, none⟩ = some (.int .i64 X2) := hX.cell (by first | (simp; done) | (simp; omega)) (by first | assumption | (go_simp; done) | (simp; done))
          have kc2 : w'.cell? ⟨w.heap.size + 1, 0, none⟩ = some (.int .i64 Y1) := hX.cell (by first | (simp; done) | (simp; omega)) (by first | assumption | (go_simp; done) | (simp; done))
          have kc3 : w'.cell? ⟨w.heap.size + 1, 1, none⟩ = some (.int .i64 Y2) := hX.cell (by first | (simp; done) | (simp; omega)) (by first | assumption | (go_simp; done) | (simp; done))
          have kc4 : w'.cell? ⟨w7.heap.size, 0, none⟩ = some (.int .i64 Z1) := hX.cell (by first | (simp; done) | (simp; omega)) (by first | assumption | (go_simp; done) | (simp; done))
          have kc5 : w'.cell? ⟨w7.heap.size, 1, none⟩ = some (.int .i64 Z2) := hX.cell (by first | (simp; done) | (simp; omega)) (by first | assumption | (go_simp; done) | (simp; done))
          clear hdep
          refine StepG.mk rfl ?_; rw [ha0]; simp only [putL, Act.put, List.setIfInBounds_toArray, List.set_cons_zero, List.set_cons_succ]
          go_wp2_with fail
          refine HK.out _ _ ?_
          refine ⟨v99, v100, v101, v102, v103, v98, v104, v105, (.int .i64 0), v16, v17, (.int .i64 0), (by rw [ha0]; simp only [putL, Act.put, List.setIfInBounds_toArray, List.set_cons_zero, List.set_cons_succ]), ?_, ?_, ?_, ?_, ?_, ?_, ?_, trivial⟩
          · obtain ⟨h99, h100, h101, h102, h103, h98, h104, h105, h106, h18, _⟩ := hR.out
            exact Lib.hid ⟨fun h => h99 (by simpa using h), fun h => h100 (by simpa using h), fun h => h101 (by simpa using h), fun h => h102 (by simpa using h), fun h => h103 (by simpa using h), fun h => h98 (by simpa using h), fun h => h104 (by simpa using h), fun h => h105 (by simpa using h), fun _ => rfl, fun _ => rfl, trivial⟩
          · exact hX
          · intro h; obtain ⟨g, c0, c1, e, hg, hblk, hst⟩ := hA16 (by simpa using h); exact ⟨g, c0, c1, e, hg, hblk, fun h => hst (by simpa using h)⟩
          · exact fun h => (by have h1 := hN16 (by simpa using h); simp [h1])
          · intro h; obtain ⟨g, c0, c1, e, hg, hblk, hst⟩ := hA17 (by simpa using h); exact ⟨g, c0, c1, e, hg, hblk, fun h => hst (by simpa using h)⟩
          · exact fun h => (by have h1 := hN17 (by simpa using h); simp [h1])
          · exact fun h1 h2 => hD16_17 (by simpa using h1) (by simpa using h2)
        intro s a' w8 hall hI
        try dsimp only at hI
        obtain ⟨v99, v100, v101, v102, v103, v98, v104, v105, v106, v16, v17, v18, hact, hR, hXR, hA16, hN16, hA17, hN17, hD16_17, _⟩ := hI
        subst hact
        obtain ⟨h99, h100, h101, h102, h103, h98, h104, h105, h106, h18, _⟩ := hR.out
        clear hR
        have e99 := h99 (hall 0 (by decide))
        subst e99
        clear h99
        have e100 := h100 (hall 1 (by decide))
        subst e100
        clear h100
        have e101 := h101 (hall 2 (by decide))
        subst e101
        clear h101
        have e102 := h102 (hall 3 (by decide))
        subst e102
        clear h102
        have e103 := h103 (hall 4 (by decide))
        subst e103
        clear h103
        have e98 := h98 (hall 5 (by decide))
        subst e98
        clear h98
        have e104 := h104 (hall 6 (by decide))
        subst e104
        clear h104
        have e105 := h105 (hall 7 (by decide))
        subst e105
        clear h105
        have e106 := h106 (hall 8 (by decide))
        subst e106
        clear h106
        have e18 := h18 (hall 13 (by decide))
        subst e18
        clear h18
        obtain ⟨g16, c0, c1, ev, hg16, hblk16, hst⟩ := hA16 (hall 9 (by decide))
        subst ev
        clear hA16 hN16
        obtain ⟨es0, es1⟩ := hst (hall 11 (by decide))
        subst es0
        subst es1
        clear hst
        obtain ⟨g17, c0, c1, ev, hg17, hblk17, hst⟩ := hA17 (hall 10 (by decide))
        subst ev
        clear hA17 hN17
        obtain ⟨es0, es1⟩ := hst (hall 12 (by decide))
        subst es0
        subst es1
        clear hst
        have hgne16_17 : g16 ≠ g17 := fun h0 => hD16_17 (hall 9 (by decide)) (hall 10 (by decide)) (by rw [h0])
        clear hD16_17
        clear hall
        rw [ha0]; simp only [putL, Act.put, List.setIfInBounds_toArray, List.set_cons_zero, List.set_cons_succ]
        clear ha0
        have B8 : Below w.heap.size w w8 := hXR.below (by first | assumption | exact (by repeat (first | exact Below.refl _ _ | exact Nat.le_refl _ | refine Below.alloc ?_ ?_ _ | refine Below.setCell ?_ ?_ _ | refine Below.drew ?_ | refine bl_drewN ?_ _ | (assumption) | refine bl_call ?_ (by assumption) ?_ | omega | (simp <;> omega)))) (by first | omega | (simp <;> omega)) (by simp <;> omega)
        have cew_heap_size8_0 : w8.cell? ⟨w.heap.size, 0, none⟩ = some (.int .i64 X1) := hXR.cell (by first | (simp; done) | (simp; omega)) (by first | assumption | (go_simp; done) | (simp; done))
        have cew_heap_size8_1 : w8.cell? ⟨w.heap.size, 1, none⟩ = some (.int .i64 X2) := hXR.cell (by first | (simp; done) | (simp; omega)) (by first | assumption | (go_simp; done) | (simp; done))
        have zew_heap_size8 : w.heap.size < w8.heap.size := block_lt_of_cell cew_heap_size8_0
        have cew_heap_size_18_0 : w8.cell? ⟨w.heap.size + 1, 0, none⟩ = some (.int .i64 Y1) := hXR.cell (by first | (simp; done) | (simp; omega)) (by first | assumption | (go_simp; done) | (simp; done))
        have cew_heap_size_18_1 : w8.cell? ⟨w.heap.size + 1, 1, none⟩ = some (.int .i64 Y2) := hXR.cell (by first | (simp; done) | (simp; omega)) (by first | assumption | (go_simp; done) | (simp; done))
        have zew_heap_size_18 : w.heap.size + 1 < w8.heap.size := block_lt_of_cell cew_heap_size_18_0
        have cew7_heap_size8_0 : w8.cell? ⟨w7.heap.size, 0, none⟩ = some (.int .i64 Z1) := hXR.cell (by first | (simp; done) | (simp; omega)) (by first | assumption | (go_simp; done) | (simp; done))
        have cew7_heap_size8_1 : w8.cell? ⟨w7.heap.size, 1, none⟩ = some (.int .i64 Z2) := hXR.cell (by first | (simp; done) | (simp; omega)) (by first | assumption | (go_simp; done) | (simp; done))
        have zew7_heap_size8 : w7.heap.size < w8.heap.size := block_lt_of_cell cew7_heap_size8_0
        have ceg168_0 := row2_0 hblk16
        have ceg168_1 := row2_1 hblk16
        have zeg168 := blk_lt hblk16
        have ceg178_0 := row2_0 hblk17
        have ceg178_1 := row2_1 hblk17
        have zeg178 := blk_lt hblk17
        have hsz_8 := B8.size
        clear hXR
        go_wp2_with fail
        refine (HT2.out _).mono ?_
        rintro e w9 ⟨rfl, hb9⟩
        have z9_0 : w.heap.size < w9.heap.size := by have := hb9.size; (try simp at this); omega
        have z9_1 : w.heap.size + 1 < w9.heap.size := by have := hb9.size; (try simp at this); omega
        have cew_heap_size9_0 : w9.cell? ⟨w.heap.size, 0, none⟩ = some (.int .i64 X1) := keep_cell hb9 (by first | assumption | (go_simp; done) | (simp; done) | simp [*])
        have zew_heap_size9 : w.heap.size < w9.heap.size := block_lt_of_cell cew_heap_size9_0
        have cew_heap_size9_1 : w9.cell? ⟨w.heap.size, 1, none⟩ = some (.int .i64 X2) := keep_cell hb9 (by first | assumption | (go_simp; done) | (simp; done) | simp [*])
        have cew_heap_size_19_0 : w9.cell? ⟨w.heap.size + 1, 0, none⟩ = some (.int .i64 Y1) := keep_cell hb9 (by first | assumption | (go_simp; done) | (simp; done) | simp [*])
        have zew_heap_size_19 : w.heap.size + 1 < w9.heap.size := block_lt_of_cell cew_heap_size_19_0
        have cew_heap_size_19_1 : w9.cell? ⟨w.heap.size + 1, 1, none⟩ = some (.int .i64 Y2) := keep_cell hb9 (by first | assumption | (go_simp; done) | (simp; done) | simp [*])
        have cew7_heap_size9_0 : w9.cell? ⟨w7.heap.size, 0, none⟩ = some (.int .i64 Z1) := keep_cell hb9 (by first | assumption | (go_simp; done) | (simp; done) | simp [*])
        have zew7_heap_size9 : w7.heap.size < w9.heap.size := block_lt_of_cell cew7_heap_size9_0
        have cew7_heap_size9_1 : w9.cell? ⟨w7.heap.size, 1, none⟩ = some (.int .i64 Z2) := keep_cell hb9 (by first | assumption | (go_simp; done) | (simp; done) | simp [*])
        have ceg169_0 : w9.cell? ⟨g16, 0, none⟩ = some (.int .i64 Z1) := keep_cell hb9 (by first | assumption | (go_simp; done) | (simp; done) | simp [*])
        have zeg169 : g16 < w9.heap.size := block_lt_of_cell ceg169_0
        have ceg169_1 : w9.cell? ⟨g16, 1, none⟩ = some (.int .i64 Z2) := keep_cell hb9 (by first | assumption | (go_simp; done) | (simp; done) | simp [*])
        have ceg179_0 : w9.cell? ⟨g17, 0, none⟩ = some (.int .i64 0) := keep_cell hb9 (by first | assumption | (go_simp; done) | (simp; done) | simp [*])
        have zeg179 : g17 < w9.heap.size := block_lt_of_cell ceg179_0
        have ceg179_1 : w9.cell? ⟨g17, 1, none⟩ = some (.int .i64 0) := keep_cell hb9 (by first | assumption | (go_simp; done) | (simp; done) | simp [*])
        have B9 : Below w.heap.size w w9 := bl_call (by repeat (first | exact Below.refl _ _ | exact Nat.le_refl _ | refine Below.alloc ?_ ?_ _ | refine Below.setCell ?_ ?_ _ | refine Below.drew ?_ | refine bl_drewN ?_ _ | (assumption) | refine bl_call ?_ (by assumption) ?_ | omega | (simp <;> omega))) hb9 (by first | assumption | (simp; done) | (simp; omega) | omega)
        clear hb9
        have hsz_9 := B9.size
        go_wp2_with fail
        refine (refNumber _ _ _).mono ?_
        rintro e w10 ⟨rfl, hb10⟩
        have z10_0 : w.heap.size < w10.heap.size := by have := hb10.size; (try simp at this); omega
        have z10_1 : w.heap.size + 1 < w10.heap.size := by have := hb10.size; (try simp at this); omega
        have cew_heap_size10_0 : w10.cell? ⟨w.heap.size, 0, none⟩ = some (.int .i64 X1) := keep_cell hb10 (by first | assumption | (go_simp; done) | (simp; done) | simp [*])
        have zew_heap_size10 : w.heap.size < w10.heap.size := block_lt_of_cell cew_heap_size10_0
        have cew_heap_size10_1 : w10.cell? ⟨w.heap.size, 1, none⟩ = some (.int .i64 X2) := keep_cell hb10 (by first | assumption | (go_simp; done) | (simp; done) | simp [*])
        have cew_heap_size_110_0 : w10.cell? ⟨w.heap.size + 1, 0, none⟩ = some (.int .i64 Y1) := keep_cell hb10 (by first | assumption | (go_simp; done) | (simp; done) | simp [*])
        have zew_heap_size_110 : w.heap.size + 1 < w10.heap.size := block_lt_of_cell cew_heap_size_110_0
        have cew_heap_size_110_1 : w10.cell? ⟨w.heap.size + 1, 1, none⟩ = some (.int .i64 Y2) := keep_cell hb10 (by first | assumption | (go_simp; done) | (simp; done) | simp [*])
        have cew7_heap_size10_0 : w10.cell? ⟨w7.heap.size, 0, none⟩ = some (.int .i64 Z1) := keep_cell hb10 (by first | assumption | (go_simp; done) | (simp; done) | simp [*])
        have zew7_heap_size10 : w7.heap.size < w10.heap.size := block_lt_of_cell cew7_heap_size10_0
        have cew7_heap_size10_1 : w10.cell? ⟨w7.heap.size, 1, none⟩ = some (.int .i64 Z2) := keep_cell hb10 (by first | assumption | (go_simp; done) | (simp; done) | simp [*])
        have ceg1610_0 : w10.cell? ⟨g16, 0, none⟩ = some (.int .i64 Z1) := keep_cell hb10 (by first | assumption | (go_simp; done) | (simp; done) | simp [*])
        have zeg1610 : g16 < w10.heap.size := block_lt_of_cell ceg1610_0
        have ceg1610_1 : w10.cell? ⟨g16, 1, none⟩ = some (.int .i64 Z2) := keep_cell hb10 (by first | assumption | (go_simp; done) | (simp; done) | simp [*])
        have ceg1710_0 : w10.cell? ⟨g17, 0, none⟩ = some (.int .i64 0) := keep_cell hb10 (by first | assumption | (go_simp; done) | (simp; done) | simp [*])
        have zeg1710 : g17 < w10.heap.size := block_lt_of_cell ceg1710_0
        have ceg1710_1 : w10.cell? ⟨g17, 1, none⟩ = some (.int .i64 0) := keep_cell hb10 (by first | assumption | (go_simp; done) | (simp; done) | simp [*])
        have B10 : Below w.heap.size w w10 := bl_call (by repeat (first | exact Below.refl _ _ | exact Nat.le_refl _ | refine Below.alloc ?_ ?_ _ | refine Below.setCell ?_ ?_ _ | refine Below.drew ?_ | refine bl_drewN ?_ _ | (assumption) | refine bl_call ?_ (by assumption) ?_ | omega | (simp <;> omega))) hb10 (by first | assumption | (simp; done) | (simp; omega) | omega)
        clear hb10
        have hsz_10 := B10.size
        rw [KT.out]
        go_wp2_with fail
        refine (awake_any _).mono ?_
        rintro e w11 ⟨rfl, hb11⟩
        have z11_0 : w.heap.size < w11.heap.size := by have := hb11.size; (try simp at this); omega
        have z11_1 : w.heap.size + 1 < w11.heap.size := by have := hb11.size; (try simp at this); omega
        have cew_heap_size11_0 : w11.cell? ⟨w.heap.size, 0, none⟩ = some (.int .i64 X1) := keep_cell hb11 (by first | assumption | (go_simp; done) | (simp; done) | simp [*])
        have zew_heap_size11 : w.heap.size < w11.heap.size := block_lt_of_cell cew_heap_size11_0
        have cew_heap_size11_1 : w11.cell? ⟨w.heap.size, 1, none⟩ = some (.int .i64 X2) := keep_cell hb11 (by first | assumption | (go_simp; done) | (simp; done) | simp [*])
        have cew_heap_size_111_0 : w11.cell? ⟨w.heap.size + 1, 0, none⟩ = some (.int .i64 Y1) := keep_cell hb11 (by first | assumption | (go_simp; done) | (simp; done) | simp [*])
        have zew_heap_size_111 : w.heap.size + 1 < w11.heap.size := block_lt_of_cell cew_heap_size_111_0
        have cew_heap_size_111_1 : w11.cell? ⟨w.heap.size + 1, 1, none⟩ = some (.int .i64 Y2) := keep_cell hb11 (by first | assumption | (go_simp; done) | (simp; done) | simp [*])
        have cew7_heap_size11_0 : w11.cell? ⟨w7.heap.size, 0, none⟩ = some (.int .i64 Z1) := keep_cell hb11 (by first | assumption | (go_simp; done) | (simp; done) | simp [*])
        have zew7_heap_size11 : w7.heap.size < w11.heap.size := block_lt_of_cell cew7_heap_size11_0
        have cew7_heap_size11_1 : w11.cell? ⟨w7.heap.size, 1, none⟩ = some (.int .i64 Z2) := keep_cell hb11 (by first | assumption | (go_simp; done) | (simp; done) | simp [*])
        have ceg1611_0 : w11.cell? ⟨g16, 0, none⟩ = some (.int .i64 Z1) := keep_cell hb11 (by first | assumption | (go_simp; done) | (simp; done) | simp [*])
        have zeg1611 : g16 < w11.heap.size := block_lt_of_cell ceg1611_0
        have ceg1611_1 : w11.cell? ⟨g16, 1, none⟩ = some (.int .i64 Z2) := keep_cell hb11 (by first | assumption | (go_simp; done) | (simp; done) | simp [*])
        have ceg1711_0 : w11.cell? ⟨g17, 0, none⟩ = some (.int .i64 0) := keep_cell hb11 (by first | assumption | (go_simp; done) | (simp; done) | simp [*])
        have zeg1711 : g17 < w11.heap.size := block_lt_of_cell ceg1711_0
        have ceg1711_1 : w11.cell? ⟨g17, 1, none⟩ = some (.int .i64 0) := keep_cell hb11 (by first | assumption | (go_simp; done) | (simp; done) | simp [*])
        have B11 : Below w.heap.size w w11 := bl_call (by repeat (first | exact Below.refl _ _ | exact Nat.le_refl _ | refine Below.alloc ?_ ?_ _ | refine Below.setCell ?_ ?_ _ | refine Below.drew ?_ | refine bl_drewN ?_ _ | (assumption) | refine bl_call ?_ (by assumption) ?_ | omega | (simp <;> omega))) hb11 (by first | assumption | (simp; done) | (simp; omega) | omega)
        clear hb11
        have hsz_11 := B11.size
        go_wp2_with fail
        go_ret
        exact ⟨rfl, (by repeat (first | exact Below.refl _ _ | exact Nat.le_refl _ | refine Below.alloc ?_ ?_ _ | refine Below.setCell ?_ ?_ _ | refine Below.drew ?_ | refine bl_drewN ?_ _ | (assumption) | refine bl_call ?_ (by assumption) ?_ | omega | (simp <;> omega)))⟩
      · have KT := Lib.hid kT
        have HZZ := Lib.hid hZ
        clear kT hZ
        go_upto_region 15 with fail
        refine with_act fun a0 ha0 => ?_
        refine wp_region_inv (by kernel_rfl) (by kernel_rfl) (fun s a' w' => ∃ v99 v100 v101 v102 v103 v98 v104 v105 v106 v16 v17 v18 : Value, a' = putL a0 [(99, v99), (100, v100), (101, v101), (102, v102), (103, v103), (98, v98), (104, v104), (105, v105), (106, v106), (16, v16), (17, v17), (18, v18)] ∧ Hid ((s 0 = true → v99 = .agg #[.int .i64 Z1, .int .i64 Z2]) ∧ (s 1 = true → v100 = .agg #[.int .i64 Y1, .int .i64 Y2]) ∧ (s 2 = true → v101 = .agg #[.int .i64 T1, .int .i64 T2]) ∧ (s 3 = true → v102 = .agg #[.int .i64 Y1, .int .i64 Y2]) ∧ (s 4 = true → v103 = .tuple #[.agg #[.int .i64 0, .int .i64 0], .agg #[.int .i64 0, .int .i64 0], .int .i64 2]) ∧ (s 5 = true → v98 = .tuple #[.agg #[.int .i64 0, .int .i64 0], .agg #[.int .i64 0, .int .i64 0], .int .i64 2]) ∧ (s 6 = true → v104 = .agg #[.int .i64 0, .int .i64 0]) ∧ (s 7 = true → v105 = .agg #[.int .i64 0, .int .i64 0]) ∧ (s 8 = true → v106 = .int .i64 2) ∧ (s 13 = true → v18 = .int .i64 2) ∧ True) ∧ BelX [] (w7.alloc (.cells #[.int .i64 Z1, .int .i64 Z2] 23)) w' ∧ (s 9 = true → ∃ (g : Nat) (c0 c1 : Value), v16 = .pointer (some ⟨g, 0, none⟩) ∧ (w7.alloc (.cells #[.int .i64 Z1, .int .i64 Z2] 23)).heap.size ≤ g ∧ w'.heap[g]? = some (.cells #[c0, c1] 23 (0, 0)) ∧ (s 11 = true → c0 = .int .i64 0 ∧ c1 = .int .i64 0)) ∧ (s 11 = true → s 9 = true) ∧ (s 10 = true → ∃ (g : Nat) (c0 c1 : Value), v17 = .pointer (some ⟨g, 0, none⟩) ∧ (w7.alloc (.cells #[.int .i64 Z1, .int .i64 Z2] 23)).heap.size ≤ g ∧ w'.heap[g]? = some (.cells #[c0, c1] 23 (0, 0)) ∧ (s 12 = true → c0 = .int .i64 0 ∧ c1 = .int .i64 0)) ∧ (s 12 = true → s 10 = true) ∧ (s 9 = true → s 10 = true → v16 ≠ v17) ∧ True) ?x4hzero ⟨?x4hs0, ?x4hs1, ?x4hs2, ?x4hs3, ?x4hs4, ?x4hs5, ?x4hs6, ?x4hs7, ?x4hs8, ?x4hs9, ?x4hs10, ?x4hs11, ?x4hs12, ?x4hs13, trivial⟩ ?x4hdone
        case x4hzero =>
          refine ⟨a0.tmps.getD 99 undef, a0.tmps.getD 100 undef, a0.tmps.getD 101 undef, a0.tmps.getD 102 undef, a0.tmps.getD 103 undef, a0.tmps.getD 98 undef, a0.tmps.getD 104 undef, a0.tmps.getD 105 undef, a0.tmps.getD 106 undef, a0.tmps.getD 16 undef, a0.tmps.getD 17 undef, a0.tmps.getD 18 undef, ?_, ?_, ?_, ?_, ?_, ?_, ?_, ?_, trivial⟩
          · simp only [putL, put_self]
          · exact Lib.hid ⟨fun h => (by simp at h), fun h => (by simp at h), fun h => (by simp at h), fun h => (by simp at h), fun h => (by simp at h), fun h => (by simp at h), fun h => (by simp at h), fun h => (by simp at h), fun h => (by simp at h), fun h => (by simp at h), trivial⟩
          · exact BelX.start _ _
          · exact fun h => (by simp at h)
          · exact fun h => (by simp at h)
          · exact fun h => (by simp at h)
          · exact fun h => (by simp at h)
          · exact fun h => (by simp at h)
        case x4hs0 =>
          intro s a' w' hsk hdep hI K hK
          try dsimp only at hI hK
          obtain ⟨v99, v100, v101, v102, v103, v98, v104, v105, v106, v16, v17, v18, hact, hR, hX, hA16, hN16, hA17, hN17, hD16_17, _⟩ := hI
          subst hact
          have HK := Lib.hid hK
          clear hK
          have kc0 : w'.cell? ⟨w.heap.size, 0, none⟩ = some (.int .i64 X1) := hX.cell (by first | (simp; done) | (simp; omega)) (by first | assumption | (go_simp; done) | (simp; done))
          have kc1 : w'.cell? ⟨w.heap.size, 1, none⟩ = some (.int .i64 X2) := hX.cell (by first | (simp; done) | (simp; omega)) (by first | assumption | (go_simp; done) | (simp; done))
          have kc2 : w'.cell? ⟨w.heap.size + 1, 0, none⟩ = some (.int .i64 Y1) := hX.cell (by first | (simp; done) | (simp; omega)) (by first | assumption | (go_simp; done) | (simp; done))
          have kc3 : w'.cell? ⟨w.heap.size + 1, 1, none⟩ = some (.int .i64 Y2) := hX.cell (by first | (simp; done) | (simp; omega)) (by first | assumption | (go_simp; done) | (simp; done))
          have kc4 : w'.cell? ⟨w7.heap.size, 0, none⟩ = some (.int .i64 Z1) := hX.cell (by first | (simp; done) | (simp; omega)) (by first | assumption | (go_simp; done) | (simp; done))
          have kc5 : w'.cell? ⟨w7.heap.size, 1, none⟩ = some (.int .i64 Z2) := hX.cell (by first | (simp; done) | (simp; omega)) (by first | assumption | (go_simp; done) | (simp; done))
          clear hdep
          refine StepG.mk rfl ?_; rw [ha0]; simp only [putL, Act.put, List.setIfInBounds_toArray, List.set_cons_zero, List.set_cons_succ]
          go_wp2_with fail
          refine HK.out _ _ ?_
          refine ⟨(.agg #[.int .i64 Z1, .int .i64 Z2]), v100, v101, v102, v103, v98, v104, v105, v106, v16, v17, v18, (by rw [ha0]; simp only [putL, Act.put, List.setIfInBounds_toArray, List.set_cons_zero, List.set_cons_succ]), ?_, ?_, ?_, ?_, ?_, ?_, ?_, trivial⟩
          · obtain ⟨h99, h100, h101, h102, h103, h98, h104, h105, h106, h18, _⟩ := hR.out
            exact Lib.hid ⟨fun _ => rfl, fun h => h100 (by simpa using h), fun h => h101 (by simpa using h), fun h => h102 (by simpa using h), fun h => h103 (by simpa using h), fun h => h98 (by simpa using h), fun h => h104 (by simpa using h), fun h => h105 (by simpa using h), fun h => h106 (by simpa using h), fun h => h18 (by simpa using h), trivial⟩
          · exact hX
          · intro h; obtain ⟨g, c0, c1, e, hg, hblk, hst⟩ := hA16 (by simpa using h); exact ⟨g, c0, c1, e, hg, hblk, fun h => hst (by simpa using h)⟩
          · exact fun h => (by have h1 := hN16 (by simpa using h); simp [h1])
          · intro h; obtain ⟨g, c0, c1, e, hg, hblk, hst⟩ := hA17 (by simpa using h); exact ⟨g, c0, c1, e, hg, hblk, fun h => hst (by simpa using h)⟩
          · exact fun h => (by have h1 := hN17 (by simpa using h); simp [h1])
          · exact fun h1 h2 => hD16_17 (by simpa using h1) (by simpa using h2)
        case x4hs1 =>
          intro s a' w' hsk hdep hI K hK
          try dsimp only at hI hK
          obtain ⟨v99, v100, v101, v102, v103, v98, v104, v105, v106, v16, v17, v18, hact, hR, hX, hA16, hN16, hA17, hN17, hD16_17, _⟩ := hI
          subst hact
          have HK := Lib.hid hK
          clear hK
          have kc0 : w'.cell? ⟨w.heap.size, 0, none⟩ = some (.int .i64 X1) := hX.cell (by first | (simp; done) | (simp; omega)) (by first | assumption | (go_simp; done) | (simp; done))
          have kc1 : w'.cell? ⟨w.heap.size, 1, none⟩ = some (.int .i64 X2) := hX.cell (by first | (simp; done) | (simp; omega)) (by first | assumption | (go_simp; done) | (simp; done))
          have kc2 : w'.cell? ⟨w.heap.size + 1, 0, none⟩ = some (.int .i64 Y1) := hX.cell (by first | (simp; done) | (simp; omega)) (by first | assumption | (go_simp; done) | (simp; done))
          have kc3 : w'.cell? ⟨w.heap.size + 1, 1, none⟩ = some (.int .i64 Y2) := hX.cell (by first | (simp; done) | (simp; omega)) (by first | assumption | (go_simp; done) | (simp; done))
          have kc4 : w'.cell? ⟨w7.heap.size, 0, none⟩ = some (.int .i64 Z1) := hX.cell (by first | (simp; done) | (simp; omega)) (by first | assumption | (go_simp; done) | (simp; done))
          have kc5 : w'.cell? ⟨w7.heap.size, 1, none⟩ = some (.int .i64 Z2) := hX.cell (by first | (simp; done) | (simp; omega)) (by first | assumption | (go_simp; done) | (simp; done))
          clear hdep
          refine StepG.mk rfl ?_; rw [ha0]; simp only [putL, Act.put, List.setIfInBounds_toArray, List.set_cons_zero, List.set_cons_succ]
          go_wp2_with fail
          refine HK.out _ _ ?_
          refine ⟨v99, (.agg #[.int .i64 Y1, .int .i64 Y2]), v101, v102, v103, v98, v104, v105, v106, v16, v17, v18, (by rw [ha0]; simp only [putL, Act.put, List.setIfInBounds_toArray, List.set_cons_zero, List.set_cons_succ]), ?_, ?_, ?_, ?_, ?_, ?_, ?_, trivial⟩
          · obtain ⟨h99, h100, h101, h102, h103, h98, h104, h105, h106, h18, _⟩ := hR.out
            exact Lib.hid ⟨fun h => h99 (by simpa using h), fun _ => rfl, fun h => h101 (by simpa using h), fun h => h102 (by simpa using h), fun h => h103 (by simpa using h), fun h => h98 (by simpa using h), fun h => h104 (by simpa using h), fun h => h105 (by simpa using h), fun h => h106 (by simpa using h), fun h => h18 (by simpa using h), trivial⟩
          · exact hX
          · intro h; obtain ⟨g, c0, c1, e, hg, hblk, hst⟩ := hA16 (by simpa using h); exact ⟨g, c0, c1, e, hg, hblk, fun h => hst (by simpa using h)⟩
          · exact fun h => (by have h1 := hN16 (by simpa using h); simp [h1])
          · intro h; obtain ⟨g, c0, c1, e, hg, hblk, hst⟩ := hA17 (by simpa using h); exact ⟨g, c0, c1, e, hg, hblk, fun h => hst (by simpa using h)⟩
          · exact fun h => (by have h1 := hN17 (by simpa using h); simp [h1])
          · exact fun h1 h2 => hD16_17 (by simpa using h1) (by simpa using h2)
        case x4hs2 =>
          intro s a' w' hsk hdep hI K hK
          try dsimp only at hI hK
          obtain ⟨v99, v100, v101, v102, v103, v98, v104, v105, v106, v16, v17, v18, hact, hR, hX, hA16, hN16, hA17, hN17, hD16_17, _⟩ := hI
          subst hact
          have HK := Lib.hid hK
          clear hK
          have e99 : v99 = .agg #[.int .i64 Z1, .int .i64 Z2] := by obtain ⟨h99, h100, h101, h102, h103, h98, h104, h105, h106, h18, _⟩ := hR.out; exact h99 (hdep ⟨0, .data⟩ (by simp) rfl)
          subst e99
          have e100 : v100 = .agg #[.int .i64 Y1, .int .i64 Y2] := by obtain ⟨h99, h100, h101, h102, h103, h98, h104, h105, h106, h18, _⟩ := hR.out; exact h100 (hdep ⟨1, .data⟩ (by simp) rfl)
          subst e100
          have kc0 : w'.cell? ⟨w.heap.size, 0, none⟩ = some (.int .i64 X1) := hX.cell (by first | (simp; done) | (simp; omega)) (by first | assumption | (go_simp; done) | (simp; done))
          have kc1 : w'.cell? ⟨w.heap.size, 1, none⟩ = some (.int .i64 X2) := hX.cell (by first | (simp; done) | (simp; omega)) (by first | assumption | (go_simp; done) | (simp; done))
          have kc2 : w'.cell? ⟨w.heap.size + 1, 0, none⟩ = some (.int .i64 Y1) := hX.cell (by first | (simp; done) | (simp; omega)) (by first | assumption | (go_simp; done) | (simp; done))
          have kc3 : w'.cell? ⟨w.heap.size + 1, 1, none⟩ = some (.int .i64 Y2) := hX.cell (by first | (simp; done) | (simp; omega)) (by first | assumption | (go_simp; done) | (simp; done))
          have kc4 : w'.cell? ⟨w7.heap.size, 0, none⟩ = some (.int .i64 Z1) := hX.cell (by first | (simp; done) | (simp; omega)) (by first | assumption | (go_simp; done) | (simp; done))
          have kc5 : w'.cell? ⟨w7.heap.size, 1, none⟩ = some (.int .i64 Z2) := hX.cell (by first | (simp; done) | (simp; omega)) (by first | assumption | (go_simp; done) | (simp; done))
          clear hdep
          refine StepG.mk rfl ?_; rw [ha0]; simp only [putL, Act.put, List.setIfInBounds_toArray, List.set_cons_zero, List.set_cons_succ]
          go_wp2_with fail
          refine ((HT2.out _)).mono ?_
          rintro e wn ⟨rfl, hb⟩
          go_wp2_with fail
          refine HK.out _ _ ?_
          refine ⟨(.agg #[.int .i64 Z1, .int .i64 Z2]), (.agg #[.int .i64 Y1, .int .i64 Y2]), (.agg #[.int .i64 T1, .int .i64 T2]), v102, v103, v98, v104, v105, v106, v16, v17, v18, (by rw [ha0]; simp only [putL, Act.put, List.setIfInBounds_toArray, List.set_cons_zero, List.set_cons_succ]), ?_, ?_, ?_, ?_, ?_, ?_, ?_, trivial⟩
          · obtain ⟨h99, h100, h101, h102, h103, h98, h104, h105, h106, h18, _⟩ := hR.out
            exact Lib.hid ⟨fun _ => rfl, fun _ => rfl, fun _ => rfl, fun h => h102 (by simpa using h), fun h => h103 (by simpa using h), fun h => h98 (by simpa using h), fun h => h104 (by simpa using h), fun h => h105 (by simpa using h), fun h => h106 (by simpa using h), fun h => h18 (by simpa using h), trivial⟩
          · exact hX.call hb
          · intro h; obtain ⟨g, c0, c1, e, hg, hblk, hst⟩ := hA16 (by simpa using h); exact ⟨g, c0, c1, e, hg, (hb.block g (blk_lt hblk)).trans hblk, fun h => hst (by simpa using h)⟩
          · exact fun h => (by have h1 := hN16 (by simpa using h); simp [h1])
          · intro h; obtain ⟨g, c0, c1, e, hg, hblk, hst⟩ := hA17 (by simpa using h); exact ⟨g, c0, c1, e, hg, (hb.block g (blk_lt hblk)).trans hblk, fun h => hst (by simpa using h)⟩
          · exact fun h => (by have h1 := hN17 (by simpa using h); simp [h1])
          · exact fun h1 h2 => hD16_17 (by simpa using h1) (by simpa using h2)
        case x4hs3 =>
          intro s a' w' hsk hdep hI K hK
          try dsimp only at hI hK
          obtain ⟨v99, v100, v101, v102, v103, v98, v104, v105, v106, v16, v17, v18, hact, hR, hX, hA16, hN16, hA17, hN17, hD16_17, _⟩ := hI
          subst hact
          have HK := Lib.hid hK
          clear hK
          have kc0 : w'.cell? ⟨w.heap.size, 0, none⟩ = some (.int .i64 X1) := hX.cell (by first | (simp; done) | (simp; omega)) (by first | assumption | (go_simp; done) | (simp; done))
          have kc1 : w'.cell? ⟨w.heap.size, 1, none⟩ = some (.int .i64 X2) := hX.cell (by first | (simp; done) | (simp; omega)) (by first | assumption | (go_simp; done) | (simp; done))
          have kc2 : w'.cell? ⟨w.heap.size + 1, 0, none⟩ = some (.int .i64 Y1) := hX.cell (by first | (simp; done) | (simp; omega)) (by first | assumption | (go_simp; done) | (simp; done))
          have kc3 : w'.cell? ⟨w.heap.size + 1, 1, none⟩ = some (.int .i64 Y2) := hX.cell (by first | (simp; done) | (simp; omega)) (by first | assumption | (go_simp; done) | (simp; done))
          have kc4 : w'.cell? ⟨w7.heap.size, 0, none⟩ = some (.int .i64 Z1) := hX.cell (by first | (simp; done) | (simp; omega)) (by first | assumption | (go_simp; done) | (simp; done))
          have kc5 : w'.cell? ⟨w7.heap.size, 1, none⟩ = some (.int .i64 Z2) := hX.cell (by first | (simp; done) | (simp; omega)) (by first | assumption | (go_simp; done) | (simp; done))
          clear hdep
          refine StepG.mk rfl ?_; rw [ha0]; simp only [putL, Act.put, List.setIfInBounds_toArray, List.set_cons_zero, List.set_cons_succ]
          go_wp2_with fail
          refine HK.out _ _ ?_
          refine ⟨v99, v100, v101, (.agg #[.int .i64 Y1, .int .i64 Y2]), v103, v98, v104, v105, v106, v16, v17, v18, (by rw [ha0]; simp only [putL, Act.put, List.setIfInBounds_toArray, List.set_cons_zero, List.set_cons_succ]), ?_, ?_, ?_, ?_, ?_, ?_, ?_, trivial⟩
          · obtain ⟨h99, h100, h101, h102, h103, h98, h104, h105, h106, h18, _⟩ := hR.out
            exact Lib.hid ⟨fun h => h99 (by simpa using h), fun h => h100 (by simpa using h), fun h => h101 (by simpa using h), fun _ => rfl, fun h => h103 (by simpa using h), fun h => h98 (by simpa using h), fun h => h104 (by simpa using h), fun h => h105 (by simpa using h), fun h => h106 (by simpa using h), fun h => h18 (by simpa using h), trivial⟩
          · exact hX
          · intro h; obtain ⟨g, c0, c1, e, hg, hblk, hst⟩ := hA16 (by simpa using h); exact ⟨g, c0, c1, e, hg, hblk, fun h => hst (by simpa using h)⟩
          · exact fun h => (by have h1 := hN16 (by simpa using h); simp [h1])
          · intro h; obtain ⟨g, c0, c1, e, hg, hblk, hst⟩ := hA17 (by simpa using h); exact ⟨g, c0, c1, e, hg, hblk, fun h => hst (by simpa using h)⟩
          · exact fun h => (by have h1 := hN17 (by simpa using h); simp [h1])
          · exact fun h1 h2 => hD16_17 (by simpa using h1) (by simpa using h2)
        case x4hs4 =>
          intro s a' w' hsk hdep hI K hK
          try dsimp only at hI hK
          obtain ⟨v99, v100, v101, v102, v103, v98, v104, v105, v106, v16, v17, v18, hact, hR, hX, hA16, hN16, hA17, hN17, hD16_17, _⟩ := hI
          subst hact
          have HK := Lib.hid hK
          clear hK
          have e101 : v101 = .agg #[.int .i64 T1, .int .i64 T2] := by obtain ⟨h99, h100, h101, h102, h103, h98, h104, h105, h106, h18, _⟩ := hR.out; exact h101 (hdep ⟨2, .data⟩ (by simp) rfl)
          subst e101
          have e102 : v102 = .agg #[.int .i64 Y1, .int .i64 Y2] := by obtain ⟨h99, h100, h101, h102, h103, h98, h104, h105, h106, h18, _⟩ := hR.out; exact h102 (hdep ⟨3, .data⟩ (by simp) rfl)
          subst e102
          have kc0 : w'.cell? ⟨w.heap.size, 0, none⟩ = some (.int .i64 X1) := hX.cell (by first | (simp; done) | (simp; omega)) (by first | assumption | (go_simp; done) | (simp; done))
          have kc1 : w'.cell? ⟨w.heap.size, 1, none⟩ = some (.int .i64 X2) := hX.cell (by first | (simp; done) | (simp; omega)) (by first | assumption | (go_simp; done) | (simp; done))
          have kc2 : w'.cell? ⟨w.heap.size + 1, 0, none⟩ = some (.int .i64 Y1) := hX.cell (by first | (simp; done) | (simp; omega)) (by first | assumption | (go_simp; done) | (simp; done))
          have kc3 : w'.cell? ⟨w.heap.size + 1, 1, none⟩ = some (.int .i64 Y2) := hX.cell (by first | (simp; done) | (simp; omega)) (by first | assumption | (go_simp; done) | (simp; done))
          have kc4 : w'.cell? ⟨w7.heap.size, 0, none⟩ = some (.int .i64 Z1) := hX.cell (by first | (simp; done) | (simp; omega)) (by first | assumption | (go_simp; done) | (simp; done))
          have kc5 : w'.cell? ⟨w7.heap.size, 1, none⟩ = some (.int .i64 Z2) := hX.cell (by first | (simp; done) | (simp; omega)) (by first | assumption | (go_simp; done) | (simp; done))
          clear hdep
          refine StepG.mk rfl ?_; rw [ha0]; simp only [putL, Act.put, List.setIfInBounds_toArray, List.set_cons_zero, List.set_cons_succ]
          go_wp2_with fail
          refine ((HZZ.out _)).mono ?_
          rintro e wn ⟨rfl, hb⟩
          go_wp2_with fail
          refine HK.out _ _ ?_
          refine ⟨v99, v100, (.agg #[.int .i64 T1, .int .i64 T2]), (.agg #[.int .i64 Y1, .int .i64 Y2]), (.tuple #[.agg #[.int .i64 0, .int .i64 0], .agg #[.int .i64 0, .int .i64 0], .int .i64 2]), v98, v104, v105, v106, v16, v17, v18, (by rw [ha0]; simp only [putL, Act.put, List.setIfInBounds_toArray, List.set_cons_zero, List.set_cons_succ]), ?_, ?_, ?_, ?_, ?_, ?_, ?_, trivial⟩
          · obtain ⟨h99, h100, h101, h102, h103, h98, h104, h105, h106, h18, _⟩ := hR.out
            exact Lib.hid ⟨fun h => h99 (by simpa using h), fun h => h100 (by simpa using h), fun _ => rfl, fun _ => rfl, fun _ => rfl, fun h => h98 (by simpa using h), fun h => h104 (by simpa using h), fun h => h105 (by simpa using h), fun h => h106 (by simpa using h), fun h => h18 (by simpa using h), trivial⟩
          · exact hX.call hb
          · intro h; obtain ⟨g, c0, c1, e, hg, hblk, hst⟩ := hA16 (by simpa using h); exact ⟨g, c0, c1, e, hg, (hb.block g (blk_lt hblk)).trans hblk, fun h => hst (by simpa using h)⟩
          · exact fun h => (by have h1 := hN16 (by simpa using h); simp [h1])
          · intro h; obtain ⟨g, c0, c1, e, hg, hblk, hst⟩ := hA17 (by simpa using h); exact ⟨g, c0, c1, e, hg, (hb.block g (blk_lt hblk)).trans hblk, fun h => hst (by simpa using h)⟩
          · exact fun h => (by have h1 := hN17 (by simpa using h); simp [h1])
          · exact fun h1 h2 => hD16_17 (by simpa using h1) (by simpa using h2)
        case x4hs5 =>
          intro s a' w' hsk hdep hI K hK
          try dsimp only at hI hK
          obtain ⟨v99, v100, v101, v102, v103, v98, v104, v105, v106, v16, v17, v18, hact, hR, hX, hA16, hN16, hA17, hN17, hD16_17, _⟩ := hI
          subst hact
          have HK := Lib.hid hK
          clear hK
          have e103 : v103 = .tuple #[.agg #[.int .i64 0, .int .i64 0], .agg #[.int .i64 0, .int .i64 0], .int .i64 2] := by obtain ⟨h99, h100, h101, h102, h103, h98, h104, h105, h106, h18, _⟩ := hR.out; exact h103 (hdep ⟨4, .data⟩ (by simp) rfl)
          subst e103
          have kc0 : w'.cell? ⟨w.heap.size, 0, none⟩ = some (.int .i64 X1) := hX.cell (by first | (simp; done) | (simp; omega)) (by first | assumption | (go_simp; done) | (simp; done))
          have kc1 : w'.cell? ⟨w.heap.size, 1, none⟩ = some (.int .i64 X2) := hX.cell (by first | (simp; done) | (simp; omega)) (by first | assumption | (go_simp; done) | (simp; done))
          have kc2 : w'.cell? ⟨w.heap.size + 1, 0, none⟩ = some (.int .i64 Y1) := hX.cell (by first | (simp; done) | (simp; omega)) (by first | assumption | (go_simp; done) | (simp; done))
          have kc3 : w'.cell? ⟨w.heap.size + 1, 1, none⟩ = some (.int .i64 Y2) := hX.cell (by first | (simp; done) | (simp; omega)) (by first | assumption | (go_simp; done) | (simp; done))
          have kc4 : w'.cell? ⟨w7.heap.size, 0, none⟩ = some (.int .i64 Z1) := hX.cell (by first | (simp; done) | (simp; omega)) (by first | assumption | (go_simp; done) | (simp; done))
          have kc5 : w'.cell? ⟨w7.heap.size, 1, none⟩ = some (.int .i64 Z2) := hX.cell (by first | (simp; done) | (simp; omega)) (by first | assumption | (go_simp; done) | (simp; done))
          clear hdep
          refine StepG.mk rfl ?_; rw [ha0]; simp only [putL, Act.put, List.setIfInBounds_toArray, List.set_cons_zero, List.set_cons_succ]
          go_wp2_with fail
          refine HK.out _ _ ?_
          refine ⟨v99, v100, v101, v102, (.tuple #[.agg #[.int .i64 0, .int .i64 0], .agg #[.int .i64 0, .int .i64 0], .int .i64 2]), (.tuple #[.agg #[.int .i64 0, .int .i64 0], .agg #[.int .i64 0, .int .i64 0], .int .i64 2]), v104, v105, v106, v16, v17, v18, (by rw [ha0]; simp only [putL, Act.put, List.setIfInBounds_toArray, List.set_cons_zero, List.set_cons_succ]), ?_, ?_, ?_, ?_, ?_, ?_, ?_, trivial⟩
          · obtain ⟨h99, h100, h101, h102, h103, h98, h104, h105, h106, h18, _⟩ := hR.out
            exact Lib.hid ⟨fun h => h99 (by simpa using h), fun h => h100 (by simpa using h), fun h => h101 (by simpa using h), fun h => h102 (by simpa using h), fun _ => rfl, fun _ => rfl, fun h => h104 (by simpa using h), fun h => h105 (by simpa using h), fun h => h106 (by simpa using h), fun h => h18 (by simpa using h), trivial⟩
          · exact hX
          · intro h; obtain ⟨g, c0, c1, e, hg, hblk, hst⟩ := hA16 (by simpa using h); exact ⟨g, c0, c1, e, hg, hblk, fun h => hst (by simpa using h)⟩
          · exact fun h => (by have h1 := hN16 (by simpa using h); simp [h1])
          · intro h; obtain ⟨g, c0, c1, e, hg, hblk, hst⟩ := hA17 (by simpa using h); exact ⟨g, c0, c1, e, hg, hblk, fun h => hst (by simpa using h)⟩
          · exact fun h => (by have h1 := hN17 (by simpa using h); simp [h1])
          · exact fun h1 h2 => hD16_17 (by simpa using h1) (by simpa using h2)
        case x4hs6 =>
          intro s a' w' hsk hdep hI K hK
          try dsimp only at hI hK
          obtain ⟨v99, v100, v101, v102, v103, v98, v104, v105, v106, v16, v17, v18, hact, hR, hX, hA16, hN16, hA17, hN17, hD16_17, _⟩ := hI
          subst hact
          have HK := Lib.hid hK
          clear hK
          have e98 : v98 = .tuple #[.agg #[.int .i64 0, .int .i64 0], .agg #[.int .i64 0, .int .i64 0], .int .i64 2] := by obtain ⟨h99, h100, h101, h102, h103, h98, h104, h105, h106, h18, _⟩ := hR.out; exact h98 (hdep ⟨5, .data⟩ (by simp) rfl)
          subst e98
          have kc0 : w'.cell? ⟨w.heap.size, 0, none⟩ = some (.int .i64 X1) := hX.cell (by first | (simp; done) | (simp; omega)) (by first | assumption | (go_simp; done) | (simp; done))
          have kc1 : w'.cell? ⟨w.heap.size, 1, none⟩ = some (.int .i64 X2) := hX.cell (by first | (simp; done) | (simp; omega)) (by first | assumption | (go_simp; done) | (simp; done))
          have kc2 : w'.cell? ⟨w.heap.size + 1, 0, none⟩ = some (.int .i64 Y1) := hX.cell (by first | (simp; done) | (simp; omega)) (by first | assumption | (go_simp; done) | (simp; done))
          have kc3 : w'.cell? ⟨w.heap.size + 1, 1, none⟩ = some (.int .i64 Y2) := hX.cell (by first | (simp; done) | (simp; omega)) (by first | assumption | (go_simp; done) | (simp; done))
          have kc4 : w'.cell? ⟨w7.heap.size, 0, none⟩ = some (.int .i64 Z1) := hX.cell (by first | (simp; done) | (simp; omega)) (by first | assumption | (go_simp; done) | (simp; done))
          have kc5 : w'.cell? ⟨w7.heap.size, 1, none⟩ = some (.int .i64 Z2) := hX.cell (by first | (simp; done) | (simp; omega)) (by first | assumption | (go_simp; done) | (simp; done))
          clear hdep
          refine StepG.mk rfl ?_; rw [ha0]; simp only [putL, Act.put, List.setIfInBounds_toArray, List.set_cons_zero, List.set_cons_succ]
          go_wp2_with fail
          refine HK.out _ _ ?_
          refine ⟨v99, v100, v101, v102, v103, (.tuple #[.agg #[.int .i64 0, .int .i64 0], .agg #[.int .i64 0, .int .i64 0], .int .i64 2]), (.agg #[.int .i64 0, .int .i64 0]), v105, v106, v16, v17, v18, (by rw [ha0]; simp only [putL, Act.put, List.setIfInBounds_toArray, List.set_cons_zero, List.set_cons_succ]), ?_, ?_, ?_, ?_, ?_, ?_, ?_, trivial⟩
          · obtain ⟨h99, h100, h101, h102, h103, h98, h104, h105, h106, h18, _⟩ := hR.out
            exact Lib.hid ⟨fun h => h99 (by simpa using h), fun h => h100 (by simpa using h), fun h => h101 (by simpa using h), fun h => h102 (by simpa using h), fun h => h103 (by simpa using h), fun _ => rfl, fun _ => rfl, fun h => h105 (by simpa using h), fun h => h106 (by simpa using h), fun h => h18 (by simpa using h), trivial⟩
          · exact hX
          · intro h; obtain ⟨g, c0, c1, e, hg, hblk, hst⟩ := hA16 (by simpa using h); exact ⟨g, c0, c1, e, hg, hblk, fun h => hst (by simpa using h)⟩
          · exact fun h => (by have h1 := hN16 (by simpa using h); simp [h1])
          · intro h; obtain ⟨g, c0, c1, e, hg, hblk, hst⟩ := hA17 (by simpa using h); exact ⟨g, c0, c1, e, hg, hblk, fun h => hst (by simpa using h)⟩
          · exact fun h => (by have h1 := hN17 (by simpa using h); simp [h1])
          · exact fun h1 h2 => hD16_17 (by simpa using h1) (by simpa using h2)
        case x4hs7 =>
          intro s a' w' hsk hdep hI K hK
          try dsimp only at hI hK
          obtain ⟨v99, v100, v101, v102, v103, v98, v104, v105, v106, v16, v17, v18, hact, hR, hX, hA16, hN16, hA17, hN17, hD16_17, _⟩ := hI
          subst hact
          have HK := Lib.hid hK
          clear hK
          have e98 : v98 = .tuple #[.agg #[.int .i64 0, .int .i64 0], .agg #[.int .i64 0, .int .i64 0], .int .i64 2] := by obtain ⟨h99, h100, h101, h102, h103, h98, h104, h105, h106, h18, _⟩ := hR.out; exact h98 (hdep ⟨5, .data⟩ (by simp) rfl)
          subst e98
          have kc0 : w'.cell? ⟨w.heap.size, 0, none⟩ = some (.int .i64 X1) := hX.cell (by first | (simp; done) | (simp; omega)) (by first | assumption | (go_simp; done) | (simp; done))
          have kc1 : w'.cell? ⟨w.heap.size, 1, none⟩ = some (.int .i64 X2) := hX.cell (by first | (simp; done) | (simp; omega)) (by first | assumption | (go_simp; done) | (simp; done))
          have kc2 : w'.cell? ⟨w.heap.size + 1, 0, none⟩ = some (.int .i64 Y1) := hX.cell (by first | (simp; done) | (simp; omega)) (by first | assumption | (go_simp; done) | (simp; done))
          have kc3 : w'.cell? ⟨w.heap.size + 1, 1, none⟩ = some (.int .i64 Y2) := hX.cell (by first | (simp; done) | (simp; omega)) (by first | assumption | (go_simp; done) | (simp; done))
          have kc4 : w'.cell? ⟨w7.heap.size, 0, none⟩ = some (.int .i64 Z1) := hX.cell (by first | (simp; done) | (simp; omega)) (by first | assumption | (go_simp; done) | (simp; done))
          have kc5 : w'.cell? ⟨w7.heap.size, 1, none⟩ = some (.int .i64 Z2) := hX.cell (by first | (simp; done) | (simp; omega)) (by first | assumption | (go_simp; done) | (simp; done))
          clear hdep
          refine StepG.mk rfl ?_; rw [ha0]; simp only [putL, Act.put, List.setIfInBounds_toArray, List.set_cons_zero, List.set_cons_succ]
          go_wp2_with fail
          refine HK.out _ _ ?_
          refine ⟨v99, v100, v101, v102, v103, (.tuple #[.agg #[.int .i64 0, .int .i64 0], .agg #[.int .i64 0, .int .i64 0], .int .i64 2]), v104, (.agg #[.int .i64 0, .int .i64 0]), v106, v16, v17, v18, (by rw [ha0]; simp only [putL, Act.put, List.setIfInBounds_toArray, List.set_cons_zero, List.set_cons_succ]), ?_, ?_, ?_, ?_, ?_, ?_, ?_, trivial⟩
          · obtain ⟨h99, h100, h101, h102, h103, h98, h104, h105, h106, h18, _⟩ := hR.out
            exact Lib.hid ⟨fun h => h99 (by simpa using h), fun h => h100 (by simpa using h), fun h => h101 (by simpa using h), fun h => h102 (by simpa using h), fun h => h103 (by simpa using h), fun _ => rfl, fun h => h104 (by simpa using h), fun _ => rfl, fun h => h106 (by simpa using h), fun h => h18 (by simpa using h), trivial⟩
          · exact hX
          · intro h; obtain ⟨g, c0, c1, e, hg, hblk, hst⟩ := hA16 (by simpa using h); exact ⟨g, c0, c1, e, hg, hblk, fun h => hst (by simpa using h)⟩
          · exact fun h => (by have h1 := hN16 (by simpa using h); simp [h1])
          · intro h; obtain ⟨g, c0, c1, e, hg, hblk, hst⟩ := hA17 (by simpa using h); exact ⟨g, c0, c1, e, hg, hblk, fun h => hst (by simpa using h)⟩
          · exact fun h => (by have h1 := hN17 (by simpa using h); simp [h1])
          · exact fun h1 h2 => hD16_17 (by simpa using h1) (by simpa using h2)
        case x4hs8 =>
          intro s a' w' hsk hdep hI K hK
          try dsimp only at hI hK
          obtain ⟨v99, v100, v101, v102, v103, v98, v104, v105, v106, v16, v17, v18, hact, hR, hX, hA16, hN16, hA17, hN17, hD16_17, _⟩ := hI
          subst hact
          have HK := Lib.hid hK
          clear hK
          have e98 : v98 = .tuple #[.agg #[.int .i64 0, .int .i64 0], .agg #[.int .i64 0, .int .i64 0], .int .i64 2] := by obtain ⟨h99, h100, h101, h102, h103, h98, h104, h105, h106, h18, _⟩ := hR.out; exact h98 (hdep ⟨5, .data⟩ (by simp) rfl)
          subst e98
          have kc0 : w'.cell? ⟨w.heap.size, 0, none⟩ = some (.int .i64 X1) := hX.cell (by first | (simp; done) | (simp; omega)) (by first | assumption | (go_simp; done) | (simp; done))
          have kc1 : w'.cell? ⟨w.heap.size, 1, none⟩ = some (.int .i64 X2) := hX.cell (by first | (simp; done) | (simp; omega)) (by first | assumption | (go_simp; done) | (simp; done))
          have kc2 : w'.cell? ⟨w.heap.size + 1, 0, none⟩ = some (.int .i64 Y1) := hX.cell (by first | (simp; done) | (simp; omega)) (by first | assumption | (go_simp; done) | (simp; done))
          have kc3 : w'.cell? ⟨w.heap.size + 1, 1, none⟩ = some (.int .i64 Y2) := hX.cell (by first | (simp; done) | (simp; omega)) (by first | assumption | (go_simp; done) | (simp; done))
          have kc4 : w'.cell? ⟨w7.heap.size, 0, none⟩ = some (.int .i64 Z1) := hX.cell (by first | (simp; done) | (simp; omega)) (by first | assumption | (go_simp; done) | (simp; done))
          have kc5 : w'.cell? ⟨w7.heap.size, 1, none⟩ = some (.int .i64 Z2) := hX.cell (by first | (simp; done) | (simp; omega)) (by first | assumption | (go_simp; done) | (simp; done))
          clear hdep
          refine StepG.mk rfl ?_; rw [ha0]; simp only [putL, Act.put, List.setIfInBounds_toArray, List.set_cons_zero, List.set_cons_succ]
          go_wp2_with fail
          refine HK.out _ _ ?_
          refine ⟨v99, v100, v101, v102, v103, (.tuple #[.agg #[.int .i64 0, .int .i64 0], .agg #[.int .i64 0, .int .i64 0], .int .i64 2]), v104, v105, (.int .i64 2), v16, v17, v18, (by rw [ha0]; simp only [putL, Act.put, List.setIfInBounds_toArray, List.set_cons_zero, List.set_cons_succ]), ?_, ?_, ?_, ?_, ?_, ?_, ?_, trivial⟩
          · obtain ⟨h99, h100, h101, h102, h103, h98, h104, h105, h106, h18, _⟩ := hR.out
            exact Lib.hid ⟨fun h => h99 (by simpa using h), fun h => h100 (by simpa using h), fun h => h101 (by simpa using h), fun h => h102 (by simpa using h), fun h => h103 (by simpa using h), fun _ => rfl, fun h => h104 (by simpa using h), fun h => h105 (by simpa using h), fun _ => rfl, fun h => h18 (by simpa using h), trivial⟩
          · exact hX
          · intro h; obtain ⟨g, c0, c1, e, hg, hblk, hst⟩ := hA16 (by simpa using h); exact ⟨g, c0, c1, e, hg, hblk, fun h => hst (by simpa using h)⟩
          · exact fun h => (by have h1 := hN16 (by simpa using h); simp [h1])
          · intro h; obtain ⟨g, c0, c1, e, hg, hblk, hst⟩ := hA17 (by simpa using h); exact ⟨g, c0, c1, e, hg, hblk, fun h => hst (by simpa using h)⟩
          · exact fun h => (by have h1 := hN17 (by simpa using h); simp [h1])
          · exact fun h1 h2 => hD16_17 (by simpa using h1) (by simpa using h2)
        case x4hs9 =>
          intro s a' w' hsk hdep hI K hK
          try dsimp only at hI hK
          obtain ⟨v99, v100, v101, v102, v103, v98, v104, v105, v106, v16, v17, v18, hact, hR, hX, hA16, hN16, hA17, hN17, hD16_17, _⟩ := hI
          subst hact
          have HK := Lib.hid hK
          clear hK
          have kc0 : w'.cell? ⟨w.heap.size, 0, none⟩ = some (.int .i64 X1) := hX.cell (by first | (simp; done) | (simp; omega)) (by first | assumption | (go_simp; done) | (simp; done))
          have kc1 : w'.cell? ⟨w.heap.size, 1, none⟩ = some (.int .i64 X2) := hX.cell (by first | (simp; done) | (simp; omega)) (by first | assumption | (go_simp; done) | (simp; done))
          have kc2 : w'.cell? ⟨w.heap.size + 1, 0, none⟩ = some (.int .i64 Y1) := hX.cell (by first | (simp; done) | (simp; omega)) (by first | assumption | (go_simp; done) | (simp; done))
          have kc3 : w'.cell? ⟨w.heap.size + 1, 1, none⟩ = some (.int .i64 Y2) := hX.cell (by first | (simp; done) | (simp; omega)) (by first | assumption | (go_simp; done) | (simp; done))
          have kc4 : w'.cell? ⟨w7.heap.size, 0, none⟩ = some (.int .i64 Z1) := hX.cell (by first | (simp; done) | (simp; omega)) (by first | assumption | (go_simp; done) | (simp; done))
          have kc5 : w'.cell? ⟨w7.heap.size, 1, none⟩ = some (.int .i64 Z2) := hX.cell (by first | (simp; done) | (simp; omega)) (by first | assumption | (go_simp; done) | (simp; done))
          clear hdep
          refine StepG.mk rfl ?_; rw [ha0]; simp only [putL, Act.put, List.setIfInBounds_toArray, List.set_cons_zero, List.set_cons_succ]
          go_wp2_with fail
          refine HK.out _ _ ?_
          refine ⟨v99, v100, v101, v102, v103, v98, v104, v105, v106, (.pointer (some ⟨w'.heap.size, 0, none⟩)), v17, v18, (by rw [ha0]; simp only [putL, Act.put, List.setIfInBounds_toArray, List.set_cons_zero, List.set_cons_succ]), ?_, ?_, ?_, ?_, ?_, ?_, ?_, trivial⟩
          · obtain ⟨h99, h100, h101, h102, h103, h98, h104, h105, h106, h18, _⟩ := hR.out
            exact Lib.hid ⟨fun h => h99 (by simpa using h), fun h => h100 (by simpa using h), fun h => h101 (by simpa using h), fun h => h102 (by simpa using h), fun h => h103 (by simpa using h), fun h => h98 (by simpa using h), fun h => h104 (by simpa using h), fun h => h105 (by simpa using h), fun h => h106 (by simpa using h), fun h => h18 (by simpa using h), trivial⟩
          · exact hX.alloc _
          · exact fun _ => ⟨w'.heap.size, .int .i64 0, .int .i64 0, rfl, hX.size, blk_new w' _, fun h => (by have h1 := hN16 (by simpa using h); rw [h1] at hsk; cases hsk)⟩
          · exact fun _ => rfl
          · intro h; obtain ⟨g, c0, c1, e, hg, hblk, hst⟩ := hA17 (by simpa using h); exact ⟨g, c0, c1, e, hg, blk_old hblk, fun h => hst (by simpa using h)⟩
          · exact fun h => (by have h1 := hN17 (by simpa using h); simp [h1])
          · intro h1 h2 hE; obtain ⟨g2, _, _, e2, hg2, hblk2, _⟩ := hA17 (by simpa using h2); rw [e2] at hE; have hlt2 := blk_lt hblk2; (simp at hE <;> omega)
        case x4hs10 =>
          intro s a' w' hsk hdep hI K hK
          try dsimp only at hI hK
          obtain ⟨v99, v100, v101, v102, v103, v98, v104, v105, v106, v16, v17, v18, hact, hR, hX, hA16, hN16, hA17, hN17, hD16_17, _⟩ := hI
          subst hact
          have HK := Lib.hid hK
          clear hK
          have kc0 : w'.cell? ⟨w.heap.size, 0, none⟩ = some (.int .i64 X1) := hX.cell (by first | (simp; done) | (simp; omega)) (by first | assumption | (go_simp; done) | (simp; done))
          have kc1 : w'.cell? ⟨w.heap.size, 1, none⟩ = some (.int .i64 X2) := hX.cell (by first | (simp; done) | (simp; omega)) (by first | assumption | (go_simp; done) | (simp; done))
          have kc2 : w'.cell? ⟨w.heap.size + 1, 0, none⟩ = some (.int .i64 Y1) := hX.cell (by first | (simp; done) | (simp; omega)) (by first | assumption | (go_simp; done) | (simp; done))
          have kc3 : w'.cell? ⟨w.heap.size + 1, 1, none⟩ = some (.int .i64 Y2) := hX.cell (by first | (simp; done) | (simp; omega)) (by first | assumption | (go_simp; done) | (simp; done))
          have kc4 : w'.cell? ⟨w7.heap.size, 0, none⟩ = some (.int .i64 Z1) := hX.cell (by first | (simp; done) | (simp; omega)) (by first | assumption | (go_simp; done) | (simp; done))
          have kc5 : w'.cell? ⟨w7.heap.size, 1, none⟩ = some (.int .i64 Z2) := hX.cell (by first | (simp; done) | (simp; omega)) (by first | assumption | (go_simp; done) | (simp; done))
          clear hdep
          refine StepG.mk rfl ?_; rw [ha0]; simp only [putL, Act.put, List.setIfInBounds_toArray, List.set_cons_zero, List.set_cons_succ]
          go_wp2_with fail
          refine HK.out _ _ ?_
          refine ⟨v99, v100, v101, v102, v103, v98, v104, v105, v106, v16, (.pointer (some ⟨w'.heap.size, 0, none⟩)), v18, (by rw [ha0]; simp only [putL, Act.put, List.setIfInBounds_toArray, List.set_cons_zero, List.set_cons_succ]), ?_, ?_, ?_, ?_, ?_, ?_, ?_, trivial⟩
          · obtain ⟨h99, h100, h101, h102, h103, h98, h104, h105, h106, h18, _⟩ := hR.out
            exact Lib.hid ⟨fun h => h99 (by simpa using h), fun h => h100 (by simpa using h), fun h => h101 (by simpa using h), fun h => h102 (by simpa using h), fun h => h103 (by simpa using h), fun h => h98 (by simpa using h), fun h => h104 (by simpa using h), fun h => h105 (by simpa using h), fun h => h106 (by simpa using h), fun h => h18 (by simpa using h), trivial⟩
          · exact hX.alloc _
          · intro h; obtain ⟨g, c0, c1, e, hg, hblk, hst⟩ := hA16 (by simpa using h); exact ⟨g, c0, c1, e, hg, blk_old hblk, fun h => hst (by simpa using h)⟩
          · exact fun h => (by have h1 := hN16 (by simpa using h); simp [h1])
          · exact fun _ => ⟨w'.heap.size, .int .i64 0, .int .i64 0, rfl, hX.size, blk_new w' _, fun h => (by have h1 := hN17 (by simpa using h); rw [h1] at hsk; cases hsk)⟩
          · exact fun _ => rfl
          · intro h1 h2 hE; obtain ⟨g2, _, _, e2, hg2, hblk2, _⟩ := hA16 (by simpa using h1); rw [e2] at hE; have hlt2 := blk_lt hblk2; (simp at hE <;> omega)
        case x4hs11 =>
          intro s a' w' hsk hdep hI K hK
          try dsimp only at hI hK
          obtain ⟨v99, v100, v101, v102, v103, v98, v104, v105, v106, v16, v17, v18, hact, hR, hX, hA16, hN16, hA17, hN17, hD16_17, _⟩ := hI
          subst hact
          have HK := Lib.hid hK
          clear hK
          have e104 : v104 = .agg #[.int .i64 0, .int .i64 0] := by obtain ⟨h99, h100, h101, h102, h103, h98, h104, h105, h106, h18, _⟩ := hR.out; exact h104 (hdep ⟨6, .data⟩ (by simp) rfl)
          subst e104
          obtain ⟨g, c0, c1, ev, hg, hblk, hst⟩ := hA16 (hdep ⟨9, .data⟩ (by simp) rfl)
          subst ev
          have kc0 : w'.cell? ⟨w.heap.size, 0, none⟩ = some (.int .i64 X1) := hX.cell (by first | (simp; done) | (simp; omega)) (by first | assumption | (go_simp; done) | (simp; done))
          have kc1 : w'.cell? ⟨w.heap.size, 1, none⟩ = some (.int .i64 X2) := hX.cell (by first | (simp; done) | (simp; omega)) (by first | assumption | (go_simp; done) | (simp; done))
          have kc2 : w'.cell? ⟨w.heap.size + 1, 0, none⟩ = some (.int .i64 Y1) := hX.cell (by first | (simp; done) | (simp; omega)) (by first | assumption | (go_simp; done) | (simp; done))
          have kc3 : w'.cell? ⟨w.heap.size + 1, 1, none⟩ = some (.int .i64 Y2) := hX.cell (by first | (simp; done) | (simp; omega)) (by first | assumption | (go_simp; done) | (simp; done))
          have kc4 : w'.cell? ⟨w7.heap.size, 0, none⟩ = some (.int .i64 Z1) := hX.cell (by first | (simp; done) | (simp; omega)) (by first | assumption | (go_simp; done) | (simp; done))
          have kc5 : w'.cell? ⟨w7.heap.size, 1, none⟩ = some (.int .i64 Z2) := hX.cell (by first | (simp; done) | (simp; omega)) (by first | assumption | (go_simp; done) | (simp; done))
          have kb0 : w'.cell? ⟨g, 0, none⟩ = some c0 := cell_of_row w' g 0 _ _ _ hblk
          have kb1 : w'.cell? ⟨g, 1, none⟩ = some c1 := cell_of_row w' g 1 _ _ _ hblk
          have kf : ∀ o, w'.frozen? ⟨g, o, none⟩ = false := fun o => frozen_of_row w' g o _ _ hblk
          have hBlk := Lib.hid hblk
          clear hblk
          have hdepA : s 9 = true := hdep ⟨9, .data⟩ (by simp) rfl
          clear hdep
          refine StepG.mk rfl ?_; rw [ha0]; simp only [putL, Act.put, List.setIfInBounds_toArray, List.set_cons_zero, List.set_cons_succ]
          go_wp2_with fail
          refine HK.out _ _ ?_
          refine ⟨v99, v100, v101, v102, v103, v98, (.agg #[.int .i64 0, .int .i64 0]), v105, v106, (.pointer (some ⟨g, 0, none⟩)), v17, v18, (by rw [ha0]; simp only [putL, Act.put, List.setIfInBounds_toArray, List.set_cons_zero, List.set_cons_succ]), ?_, ?_, ?_, ?_, ?_, ?_, ?_, trivial⟩
          · obtain ⟨h99, h100, h101, h102, h103, h98, h104, h105, h106, h18, _⟩ := hR.out
            exact Lib.hid ⟨fun h => h99 (by simpa using h), fun h => h100 (by simpa using h), fun h => h101 (by simpa using h), fun h => h102 (by simpa using h), fun h => h103 (by simpa using h), fun h => h98 (by simpa using h), fun _ => rfl, fun h => h105 (by simpa using h), fun h => h106 (by simpa using h), fun h => h18 (by simpa using h), trivial⟩
          · exact ((hX.setNew (p := ⟨g, 0, none⟩) hg _).setNew (p := ⟨g, 1, none⟩) hg _)
          · exact fun _ => ⟨g, _, _, rfl, hg, blk_set2 hBlk.out, fun _ => ⟨rfl, rfl⟩⟩
          · exact fun _ => (by simp [hdepA])
          · intro h; obtain ⟨g2, c0, c1, e, hg2, hblk, hst⟩ := hA17 (by simpa using h); exact ⟨g2, c0, c1, e, hg2, blk_far2 (fun h0 => hD16_17 hdepA (by simpa using h) (by rw [e, h0])) hblk, fun h => hst (by simpa using h)⟩
          · exact fun h => (by have h1 := hN17 (by simpa using h); simp [h1])
          · exact fun h1 h2 => hD16_17 (by simpa using h1) (by simpa using h2)
        case x4hs12 =>
          intro s a' w' hsk hdep hI K hK
          try dsimp only at hI hK
          obtain ⟨v99, v100, v101, v102, v103, v98, v104, v105, v106, v16, v17, v18, hact, hR, hX, hA16, hN16, hA17, hN17, hD16_17, _⟩ := hI
          subst hact
          have HK := Lib.hid hK
          clear hK
          have e105 : v105 = .agg #[.int .i64 0, .int .i64 0] := by obtain ⟨h99, h100, h101, h102, h103, h98, h104, h105, h106, h18, _⟩ := hR.out; exact h105 (hdep ⟨7, .data⟩ (by simp) rfl)
          subst e105
          obtain ⟨g, c0, c1, ev, hg, hblk, hst⟩ := hA17 (hdep ⟨10, .data⟩ (by simp) rfl)
          subst ev
          have kc0 : w'.cell? ⟨w.heap.size, 0, none⟩ = some (.int .i64 X1) := hX.cell (by first | (simp; done) | (simp; omega)) (by first | assumption | (go_simp; done) | (simp; done))
          have kc1 : w'.cell? ⟨w.heap.size, 1, none⟩ = some (.int .i64 X2) := hX.cell (by first | (simp; done) | (simp; omega)) (by first | assumption | (go_simp; done) | (simp; done))
          have kc2 : w'.cell? ⟨w.heap.size + 1, 0, none⟩ = some (.int .i64 Y1) := hX.cell (by first | (simp; done) | (simp; omega)) (by first | assumption | (go_simp; done) | (simp; done))
          have kc3 : w'.cell? ⟨w.heap.size + 1, 1, none⟩ = some (.int .i64 Y2) := hX.cell (by first | (simp; done) | (simp; omega)) (by first | assumption | (go_simp; done) | (simp; done))
          have kc4 : w'.cell? ⟨w7.heap.size, 0, none⟩ = some (.int .i64 Z1) := hX.cell (by first | (simp; done) | (simp; omega)) (by first | assumption | (go_simp; done) | (simp; done))
          have kc5 : w'.cell? ⟨w7.heap.size, 1, none⟩ = some (.int .i64 Z2) := hX.cell (by first | (simp; done) | (simp; omega)) (by first | assumption | (go_simp; done) | (simp; done))
          have kb0 : w'.cell? ⟨g, 0, none⟩ = some c0 := cell_of_row w' g 0 _ _ _ hblk
          have kb1 : w'.cell? ⟨g, 1, none⟩ = some c1 := cell_of_row w' g 1 _ _ _ hblk
          have kf : ∀ o, w'.frozen? ⟨g, o, none⟩ = false := fun o => frozen_of_row w' g o _ _ hblk
          have hBlk := Lib.hid hblk
          clear hblk
          have hdepA : s 10 = true := hdep ⟨10, .data⟩ (by simp) rfl
          clear hdep
          refine StepG.mk rfl ?_; rw [ha0]; simp only [putL, Act.put, List.setIfInBounds_toArray, List.set_cons_zero, List.set_cons_succ]
          go_wp2_with fail
          refine HK.out _ _ ?_
          refine ⟨v99, v100, v101, v102, v103, v98, v104, (.agg #[.int .i64 0, .int .i64 0]), v106, v16, (.pointer (some ⟨g, 0, none⟩)), v18, (by rw [ha0]; simp only [putL, Act.put, List.setIfInBounds_toArray, List.set_cons_zero, List.set_cons_succ]), ?_, ?_, ?_, ?_, ?_, ?_, ?_, trivial⟩
          · obtain ⟨h99, h100, h101, h102, h103, h98, h104, h105, h106, h18, _⟩ := hR.out
            exact Lib.hid ⟨fun h => h99 (by simpa using h), fun h => h100 (by simpa using h), fun h => h101 (by simpa using h), fun h => h102 (by simpa using h), fun h => h103 (by simpa using h), fun h => h98 (by simpa using h), fun h => h104 (by simpa using h), fun _ => rfl, fun h => h106 (by simpa using h), fun h => h18 (by simpa using h), trivial⟩
          · exact ((hX.setNew (p := ⟨g, 0, none⟩) hg _).setNew (p := ⟨g, 1, none⟩) hg _)
          · intro h; obtain ⟨g2, c0, c1, e, hg2, hblk, hst⟩ := hA16 (by simpa using h); exact ⟨g2, c0, c1, e, hg2, blk_far2 (fun h0 => hD16_17 (by simpa using h) hdepA (by rw [e, h0])) hblk, fun h => hst (by simpa using h)⟩
          · exact fun h => (by have h1 := hN16 (by simpa using h); simp [h1])
          · exact fun _ => ⟨g, _, _, rfl, hg, blk_set2 hBlk.out, fun _ => ⟨rfl, rfl⟩⟩
          · exact fun _ => (by simp [hdepA])
          · exact fun h1 h2 => hD16_17 (by simpa using h1) (by simpa using h2)
        case x4hs13 =>
          intro s a' w' hsk hdep hI K hK
          try dsimp only at hI hK
          obtain ⟨v99, v100, v101, v102, v103, v98, v104, v105, v106, v16, v17, v18, hact, hR, hX, hA16, hN16, hA17, hN17, hD16_17, _⟩ := hI
          subst hact
          have HK := Lib.hid hK
          clear hK
          have e106 : v106 = .int .i64 2 := by obtain ⟨h99, h100, h101, h102, h103, h98, h104, h105, h106, h18, _⟩ := hR.out; exact h106 (hdep ⟨8, .data⟩ (by simp) rfl)
          subst e106
          have kc0 : w'.cell? ⟨w.heap.size, 0, none⟩ = some (.int .i64 X1) := hX.cell (by first | (simp; done) | (simp; omega)) (by first | assumption | (go_simp; done) | (simp; done))
          have kc1 : w'.cell? ⟨w.heap.size, 1, none⟩ = some (.int .i64 X2) := hX.cell (by first | (simp; done) | (simp; omega)) (by first | assumption | (go_simp; done) | (simp; done))
          have kc2 : w'.cell? ⟨w.heap.size + 1, 0, none⟩ = some (.int .i64 Y1) := hX.cell (by first | (simp; done) | (simp; omega)) (by first | assumption | (go_simp; done) | (simp; done))
          have kc3 : w'.cell? ⟨w.heap.size + 1, 1, none⟩ = some (.int .i64 Y2) := hX.cell (by first | (simp; done) | (simp; omega)) (by first | assumption | (go_simp; done) | (simp; done))
          have kc4 : w'.cell? ⟨w7.heap.size, 0, none⟩ = some (.int .i64 Z1) := hX.cell (by first | (simp; done) | (simp; omega)) (by first | assumption | (go_simp; done) | (simp; done))
          have kc5 : w'.cell? ⟨w7.heap.size, 1, none⟩ = some (.int .i64 Z2) := hX.cell (by first | (simp; done) | (simp; omega)) (by first | assumption | (go_simp; done) | (simp; done))
          clear hdep
          refine StepG.mk rfl ?_; rw [ha0]; simp only [putL, Act.put, List.setIfInBounds_toArray, List.set_cons_zero, List.set_cons_succ]
          go_wp2_with fail
          refine HK.out _ _ ?_
          refine ⟨v99, v100, v101, v102, v103, v98, v104, v105, (.int .i64 2), v16, v17, (.int .i64 2), (by rw [ha0]; simp only [putL, Act.put, List.setIfInBounds_toArray, List.set_cons_zero, List.set_cons_succ]), ?_, ?_, ?_, ?_, ?_, ?_, ?_, trivial⟩
          · obtain ⟨h99, h100, h101, h102, h103, h98, h104, h105, h106, h18, _⟩ := hR.out
            exact Lib.hid ⟨fun h => h99 (by simpa using h), fun h => h100 (by simpa using h), fun h => h101 (by simpa using h), fun h => h102 (by simpa using h), fun h => h103 (by simpa using h), fun h => h98 (by simpa using h), fun h => h104 (by simpa using h), fun h => h105 (by simpa using h), fun _ => rfl, fun _ => rfl, trivial⟩
          · exact hX
          · intro h; obtain ⟨g, c0, c1, e, hg, hblk, hst⟩ := hA16 (by simpa using h); exact ⟨g, c0, c1, e, hg, hblk, fun h => hst (by simpa using h)⟩
          · exact fun h => (by have h1 := hN16 (by simpa using h); simp [h1])
          · intro h; obtain ⟨g, c0, c1, e, hg, hblk, hst⟩ := hA17 (by simpa using h); exact ⟨g, c0, c1, e, hg, hblk, fun h => hst (by simpa using h)⟩
          · exact fun h => (by have h1 := hN17 (by simpa using h); simp [h1])
          · exact fun h1 h2 => hD16_17 (by simpa using h1) (by simpa using h2)
        intro s a' w8 hall hI
        try dsimp only at hI
        obtain ⟨v99, v100, v101, v102, v103, v98, v104, v105, v106, v16, v17, v18, hact, hR, hXR, hA16, hN16, hA17, hN17, hD16_17, _⟩ := hI
        subst hact
        obtain ⟨h99, h100, h101, h102, h103, h98, h104, h105, h106, h18, _⟩ := hR.out
        clear hR
        have e99 := h99 (hall 0 (by decide))
        subst e99
        clear h99
        have e100 := h100 (hall 1 (by decide))
        subst e100
        clear h100
        have e101 := h101 (hall 2 (by decide))
        subst e101
        clear h101
        have e102 := h102 (hall 3 (by decide))
        subst e102
        clear h102
        have e103 := h103 (hall 4 (by decide))
        subst e103
        clear h103
        have e98 := h98 (hall 5 (by decide))
        subst e98
        clear h98
        have e104 := h104 (hall 6 (by decide))
        subst e104
        clear h104
        have e105 := h105 (hall 7 (by decide))
        subst e105
        clear h105
        have e106 := h106 (hall 8 (by decide))
        subst e106
        clear h106
        have e18 := h18 (hall 13 (by decide))
        subst e18
        clear h18
        obtain ⟨g16, c0, c1, ev, hg16, hblk16, hst⟩ := hA16 (hall 9 (by decide))
        subst ev
        clear hA16 hN16
        obtain ⟨es0, es1⟩ := hst (hall 11 (by decide))
        subst es0
        subst es1
        clear hst
        obtain ⟨g17, c0, c1, ev, hg17, hblk17, hst⟩ := hA17 (hall 10 (by decide))
        subst ev
        clear hA17 hN17
        obtain ⟨es0, es1⟩ := hst (hall 12 (by decide))
        subst es0
        subst es1
        clear hst
        have hgne16_17 : g16 ≠ g17 := fun h0 => hD16_17 (hall 9 (by decide)) (hall 10 (by decide)) (by rw [h0])
        clear hD16_17
        clear hall
        rw [ha0]; simp only [putL, Act.put, List.setIfInBounds_toArray, List.set_cons_zero, List.set_cons_succ]
        clear ha0
        have B8 : Below w.heap.size w w8 := hXR.below (by first | assumption | exact (by repeat (first | exact Below.refl _ _ | exact Nat.le_refl _ | refine Below.alloc ?_ ?_ _ | refine Below.setCell ?_ ?_ _ | refine Below.drew ?_ | refine bl_drewN ?_ _ | (assumption) | refine bl_call ?_ (by assumption) ?_ | omega | (simp <;> omega)))) (by first | omega | (simp <;> omega)) (by simp <;> omega)
        have cew_heap_size8_0 : w8.cell? ⟨w.heap.size, 0, none⟩ = some (.int .i64 X1) := hXR.cell (by first | (simp; done) | (simp; omega)) (by first | assumption | (go_simp; done) | (simp; done))
        have cew_heap_size8_1 : w8.cell? ⟨w.heap.size, 1, none⟩ = some (.int .i64 X2) := hXR.cell (by first | (simp; done) | (simp; omega)) (by first | assumption | (go_simp; done) | (simp; done))
        have zew_heap_size8 : w.heap.size < w8.heap.size := block_lt_of_cell cew_heap_size8_0
        have cew_heap_size_18_0 : w8.cell? ⟨w.heap.size + 1, 0, none⟩ = some (.int .i64 Y1) := hXR.cell (by first | (simp; done) | (simp; omega)) (by first | assumption | (go_simp; done) | (simp; done))
        have cew_heap_size_18_1 : w8.cell? ⟨w.heap.size + 1, 1, none⟩ = some (.int .i64 Y2) := hXR.cell (by first | (simp; done) | (simp; omega)) (by first | assumption | (go_simp; done) | (simp; done))
        have zew_heap_size_18 : w.heap.size + 1 < w8.heap.size := block_lt_of_cell cew_heap_size_18_0
        have cew7_heap_size8_0 : w8.cell? ⟨w7.heap.size, 0, none⟩ = some (.int .i64 Z1) := hXR.cell (by first | (simp; done) | (simp; omega)) (by first | assumption | (go_simp; done) | (simp; done))
        have cew7_heap_size8_1 : w8.cell? ⟨w7.heap.size, 1, none⟩ = some (.int .i64 Z2) := hXR.cell (by first | (simp; done) | (simp; omega)) (by first | assumption | (go_simp; done) | (simp; done))
        have zew7_heap_size8 : w7.heap.size < w8.heap.size := block_lt_of_cell cew7_heap_size8_0
        have ceg168_0 := row2_0 hblk16
        have ceg168_1 := row2_1 hblk16
        have zeg168 := blk_lt hblk16
        have ceg178_0 := row2_0 hblk17
        have ceg178_1 := row2_1 hblk17
        have zeg178 := blk_lt hblk17
        have hsz_8 := B8.size
        clear hXR
        go_wp2_with fail
        refine (HT2.out _).mono ?_
        rintro e w9 ⟨rfl, hb9⟩
        have z9_0 : w.heap.size < w9.heap.size := by have := hb9.size; (try simp at this); omega
        have z9_1 : w.heap.size + 1 < w9.heap.size := by have := hb9.size; (try simp at this); omega
        have cew_heap_size9_0 : w9.cell? ⟨w.heap.size, 0, none⟩ = some (.int .i64 X1) := keep_cell hb9 (by first | assumption | (go_simp; done) | (simp; done) | simp [*])
        have zew_heap_size9 : w.heap.size < w9.heap.size := block_lt_of_cell cew_heap_size9_0
        have cew_heap_size9_1 : w9.cell? ⟨w.heap.size, 1, none⟩ = some (.int .i64 X2) := keep_cell hb9 (by first | assumption | (go_simp; done) | (simp; done) | simp [*])
        have cew_heap_size_19_0 : w9.cell? ⟨w.heap.size + 1, 0, none⟩ = some (.int .i64 Y1) := keep_cell hb9 (by first | assumption | (go_simp; done) | (simp; done) | simp [*])
        have zew_heap_size_19 : w.heap.size + 1 < w9.heap.size := block_lt_of_cell cew_heap_size_19_0
        have cew_heap_size_19_1 : w9.cell? ⟨w.heap.size + 1, 1, none⟩ = some (.int .i64 Y2) := keep_cell hb9 (by first | assumption | (go_simp; done) | (simp; done) | simp [*])
        have cew7_heap_size9_0 : w9.cell? ⟨w7.heap.size, 0, none⟩ = some (.int .i64 Z1) := keep_cell hb9 (by first | assumption | (go_simp; done) | (simp; done) | simp [*])
        have zew7_heap_size9 : w7.heap.size < w9.heap.size := block_lt_of_cell cew7_heap_size9_0
        have cew7_heap_size9_1 : w9.cell? ⟨w7.heap.size, 1, none⟩ = some (.int .i64 Z2) := keep_cell hb9 (by first | assumption | (go_simp; done) | (simp; done) | simp [*])
        have ceg169_0 : w9.cell? ⟨g16, 0, none⟩ = some (.int .i64 0) := keep_cell hb9 (by first | assumption | (go_simp; done) | (simp; done) | simp [*])
        have zeg169 : g16 < w9.heap.size := block_lt_of_cell ceg169_0
        have ceg169_1 : w9.cell? ⟨g16, 1, none⟩ = some (.int .i64 0) := keep_cell hb9 (by first | assumption | (go_simp; done) | (simp; done) | simp [*])
        have ceg179_0 : w9.cell? ⟨g17, 0, none⟩ = some (.int .i64 0) := keep_cell hb9 (by first | assumption | (go_simp; done) | (simp; done) | simp [*])
        have zeg179 : g17 < w9.heap.size := block_lt_of_cell ceg179_0
        have ceg179_1 : w9.cell? ⟨g17, 1, none⟩ = some (.int .i64 0) := keep_cell hb9 (by first | assumption | (go_simp; done) | (simp; done) | simp [*])
        have B9 : Below w.heap.size w w9 := bl_call (by repeat (first | exact Below.refl _ _ | exact Nat.le_refl _ | refine Below.alloc ?_ ?_ _ | refine Below.setCell ?_ ?_ _ | refine Below.drew ?_ | refine bl_drewN ?_ _ | (assumption) | refine bl_call ?_ (by assumption) ?_ | omega | (simp <;> omega))) hb9 (by first | assumption | (simp; done) | (simp; omega) | omega)
        clear hb9
        have hsz_9 := B9.size
        go_wp2_with fail
        refine (refNumber _ _ _).mono ?_
        rintro e w10 ⟨rfl, hb10⟩
        have z10_0 : w.heap.size < w10.heap.size := by have := hb10.size; (try simp at this); omega
        have z10_1 : w.heap.size + 1 < w10.heap.size := by have := hb10.size; (try simp at this); omega
        have cew_heap_size10_0 : w10.cell? ⟨w.heap.size, 0, none⟩ = some (.int .i64 X1) := keep_cell hb10 (by first | assumption | (go_simp; done) | (simp; done) | simp [*])
        have zew_heap_size10 : w.heap.size < w10.heap.size := block_lt_of_cell cew_heap_size10_0
        have cew_heap_size10_1 : w10.cell? ⟨w.heap.size, 1, none⟩ = some (.int .i64 X2) := keep_cell hb10 (by first | assumption | (go_simp; done) | (simp; done) | simp [*])
        have cew_heap_size_110_0 : w10.cell? ⟨w.heap.size + 1, 0, none⟩ = some (.int .i64 Y1) := keep_cell hb10 (by first | assumption | (go_simp; done) | (simp; done) | simp [*])
        have zew_heap_size_110 : w.heap.size + 1 < w10.heap.size := block_lt_of_cell cew_heap_size_110_0
        have cew_heap_size_110_1 : w10.cell? ⟨w.heap.size + 1, 1, none⟩ = some (.int .i64 Y2) := keep_cell hb10 (by first | assumption | (go_simp; done) | (simp; done) | simp [*])
        have cew7_heap_size10_0 : w10.cell? ⟨w7.heap.size, 0, none⟩ = some (.int .i64 Z1) := keep_cell hb10 (by first | assumption | (go_simp; done) | (simp; done) | simp [*])
        have zew7_heap_size10 : w7.heap.size < w10.heap.size := block_lt_of_cell cew7_heap_size10_0
        have cew7_heap_size10_1 : w10.cell? ⟨w7.heap.size, 1, none⟩ = some (.int .i64 Z2) := keep_cell hb10 (by first | assumption | (go_simp; done) | (simp; done) | simp [*])
        have ceg1610_0 : w10.cell? ⟨g16, 0, none⟩ = some (.int .i64 0) := keep_cell hb10 (by first | assumption | (go_simp; done) | (simp; done) | simp [*])
        have zeg1610 : g16 < w10.heap.size := block_lt_of_cell ceg1610_0
        have ceg1610_1 : w10.cell? ⟨g16, 1, none⟩ = some (.int .i64 0) := keep_cell hb10 (by first | assumption | (go_simp; done) | (simp; done) | simp [*])
        have ceg1710_0 : w10.cell? ⟨g17, 0, none⟩ = some (.int .i64 0) := keep_cell hb10 (by first | assumption | (go_simp; done) | (simp; done) | simp [*])
        have zeg1710 : g17 < w10.heap.size := block_lt_of_cell ceg1710_0
        have ceg1710_1 : w10.cell? ⟨g17, 1, none⟩ = some (.int .i64 0) := keep_cell hb10 (by first | assumption | (go_simp; done) | (simp; done) | simp [*])
        have B10 : Below w.heap.size w w10 := bl_call (by repeat (first | exact Below.refl _ _ | exact Nat.le_refl _ | refine Below.alloc ?_ ?_ _ | refine Below.setCell ?_ ?_ _ | refine Below.drew ?_ | refine bl_drewN ?_ _ | (assumption) | refine bl_call ?_ (by assumption) ?_ | omega | (simp <;> omega))) hb10 (by first | assumption | (simp; done) | (simp; omega) | omega)
        clear hb10
        have hsz_10 := B10.size
        rw [KT.out]
        go_wp2_with fail
        refine (awake_any _).mono ?_
        rintro e w11 ⟨rfl, hb11⟩
        have z11_0 : w.heap.size < w11.heap.size := by have := hb11.size; (try simp at this); omega
        have z11_1 : w.heap.size + 1 < w11.heap.size := by have := hb11.size; (try simp at this); omega
        have cew_heap_size11_0 : w11.cell? ⟨w.heap.size, 0, none⟩ = some (.int .i64 X1) := keep_cell hb11 (by first | assumption | (go_simp; done) | (simp; done) | simp [*])
        have zew_heap_size11 : w.heap.size < w11.heap.size := block_lt_of_cell cew_heap_size11_0
        have cew_heap_size11_1 : w11.cell? ⟨w.heap.size, 1, none⟩ = some (.int .i64 X2) := keep_cell hb11 (by first | assumption | (go_simp; done) | (simp; done) | simp [*])
        have cew_heap_size_111_0 : w11.cell? ⟨w.heap.size + 1, 0, none⟩ = some (.int .i64 Y1) := keep_cell hb11 (by first | assumption | (go_simp; done) | (simp; done) | simp [*])
        have zew_heap_size_111 : w.heap.size + 1 < w11.heap.size := block_lt_of_cell cew_heap_size_111_0
        have cew_heap_size_111_1 : w11.cell? ⟨w.heap.size + 1, 1, none⟩ = some (.int .i64 Y2) := keep_cell hb11 (by first | assumption | (go_simp; done) | (simp; done) | simp [*])
        have cew7_heap_size11_0 : w11.cell? ⟨w7.heap.size, 0, none⟩ = some (.int .i64 Z1) := keep_cell hb11 (by first | assumption | (go_simp; done) | (simp; done) | simp [*])
        have zew7_heap_size11 : w7.heap.size < w11.heap.size := block_lt_of_cell cew7_heap_size11_0
        have cew7_heap_size11_1 : w11.cell? ⟨w7.heap.size, 1, none⟩ = some (.int .i64 Z2) := keep_cell hb11 (by first | assumption | (go_simp; done) | (simp; done) | simp [*])
        have ceg1611_0 : w11.cell? ⟨g16, 0, none⟩ = some (.int .i64 0) := keep_cell hb11 (by first | assumption | (go_simp; done) | (simp; done) | simp [*])
        have zeg1611 : g16 < w11.heap.size := block_lt_of_cell ceg1611_0
        have ceg1611_1 : w11.cell? ⟨g16, 1, none⟩ = some (.int .i64 0) := keep_cell hb11 (by first | assumption | (go_simp; done) | (simp; done) | simp [*])
        have ceg1711_0 : w11.cell? ⟨g17, 0, none⟩ = some (.int .i64 0) := keep_cell hb11 (by first | assumption | (go_simp; done) | (simp; done) | simp [*])
        have zeg1711 : g17 < w11.heap.size := block_lt_of_cell ceg1711_0
        have ceg1711_1 : w11.cell? ⟨g17, 1, none⟩ = some (.int .i64 0) := keep_cell hb11 (by first | assumption | (go_simp; done) | (simp; done) | simp [*])
        have B11 : Below w.heap.size w w11 := bl_call (by repeat (first | exact Below.refl _ _ | exact Nat.le_refl _ | refine Below.alloc ?_ ?_ _ | refine Below.setCell ?_ ?_ _ | refine Below.drew ?_ | refine bl_drewN ?_ _ | (assumption) | refine bl_call ?_ (by assumption) ?_ | omega | (simp <;> omega))) hb11 (by first | assumption | (simp; done) | (simp; omega) | omega)
        clear hb11
        have hsz_11 := B11.size
        go_wp2_with fail
        go_ret
        exact ⟨rfl, (by repeat (first | exact Below.refl _ _ | exact Nat.le_refl _ | refine Below.alloc ?_ ?_ _ | refine Below.setCell ?_ ?_ _ | refine Below.drew ?_ | refine bl_drewN ?_ _ | (assumption) | refine bl_call ?_ (by assumption) ?_ | omega | (simp <;> omega)))⟩
    · have HC := Lib.hid (fun wx => by have := hD wx; rw [if_neg hk] at this; exact this)
      clear hD hk num nX nY hrs hn0 h3
      have heq2 := HEQ.out
      go_wp2_with fail
      refine (HC.out _).mono ?_
      rintro e w3 ⟨rfl, hb3⟩
      have z3_0 : w.heap.size < w3.heap.size := by have := hb3.size; (try simp at this); omega
      have z3_1 : w.heap.size + 1 < w3.heap.size := by have := hb3.size; (try simp at this); omega
      have cew_heap_size3_0 : w3.cell? ⟨w.heap.size, 0, none⟩ = some (.int .i64 X1) := keep_cell hb3 (by first | assumption | (go_simp; done) | (simp; done) | simp [*])
      have zew_heap_size3 : w.heap.size < w3.heap.size := block_lt_of_cell cew_heap_size3_0
      have cew_heap_size3_1 : w3.cell? ⟨w.heap.size, 1, none⟩ = some (.int .i64 X2) := keep_cell hb3 (by first | assumption | (go_simp; done) | (simp; done) | simp [*])
      have cew_heap_size_13_0 : w3.cell? ⟨w.heap.size + 1, 0, none⟩ = some (.int .i64 Y1) := keep_cell hb3 (by first | assumption | (go_simp; done) | (simp; done) | simp [*])
      have zew_heap_size_13 : w.heap.size + 1 < w3.heap.size := block_lt_of_cell cew_heap_size_13_0
      have cew_heap_size_13_1 : w3.cell? ⟨w.heap.size + 1, 1, none⟩ = some (.int .i64 Y2) := keep_cell hb3 (by first | assumption | (go_simp; done) | (simp; done) | simp [*])
      have B3 : Below w.heap.size w w3 := bl_call (by repeat (first | exact Below.refl _ _ | exact Nat.le_refl _ | refine Below.alloc ?_ ?_ _ | refine Below.setCell ?_ ?_ _ | refine Below.drew ?_ | refine bl_drewN ?_ _ | (assumption) | refine bl_call ?_ (by assumption) ?_ | omega | (simp <;> omega))) hb3 (by first | assumption | (simp; done) | (simp; omega) | omega)
      clear hb3
      have hsz_3 := B3.size
      go_wp2_with fail
      refine (awake_any _).mono ?_
      rintro e w4 ⟨rfl, hb4⟩
      have z4_0 : w.heap.size < w4.heap.size := by have := hb4.size; (try simp at this); omega
      have z4_1 : w.heap.size + 1 < w4.heap.size := by have := hb4.size; (try simp at this); omega
      have cew_heap_size4_0 : w4.cell? ⟨w.heap.size, 0, none⟩ = some (.int .i64 X1) := keep_cell hb4 (by first | assumption | (go_simp; done) | (simp; done) | simp [*])
      have zew_heap_size4 : w.heap.size < w4.heap.size := block_lt_of_cell cew_heap_size4_0
      have cew_heap_size4_1 : w4.cell? ⟨w.heap.size, 1, none⟩ = some (.int .i64 X2) := keep_cell hb4 (by first | assumption | (go_simp; done) | (simp; done) | simp [*])
      have cew_heap_size_14_0 : w4.cell? ⟨w.heap.size + 1, 0, none⟩ = some (.int .i64 Y1) := keep_cell hb4 (by first | assumption | (go_simp; done) | (simp; done) | simp [*])
      have zew_heap_size_14 : w.heap.size + 1 < w4.heap.size := block_lt_of_cell cew_heap_size_14_0
      have cew_heap_size_14_1 : w4.cell? ⟨w.heap.size + 1, 1, none⟩ = some (.int .i64 Y2) := keep_cell hb4 (by first | assumption | (go_simp; done) | (simp; done) | simp [*])
      have cew3_heap_size4_0 : w4.cell? ⟨w3.heap.size, 0, none⟩ = some (.int .i64 0) := keep_cell hb4 (by first | assumption | (go_simp; done) | (simp; done) | simp [*])
      have zew3_heap_size4 : w3.heap.size < w4.heap.size := block_lt_of_cell cew3_heap_size4_0
      have cew3_heap_size4_1 : w4.cell? ⟨w3.heap.size, 1, none⟩ = some (.int .i64 0) := keep_cell hb4 (by first | assumption | (go_simp; done) | (simp; done) | simp [*])
      have cew3_heap_size_14_0 : w4.cell? ⟨w3.heap.size + 1, 0, none⟩ = some (.int .i64 0) := keep_cell hb4 (by first | assumption | (go_simp; done) | (simp; done) | simp [*])
      have zew3_heap_size_14 : w3.heap.size + 1 < w4.heap.size := block_lt_of_cell cew3_heap_size_14_0
      have cew3_heap_size_14_1 : w4.cell? ⟨w3.heap.size + 1, 1, none⟩ = some (.int .i64 0) := keep_cell hb4 (by first | assumption | (go_simp; done) | (simp; done) | simp [*])
      have B4 : Below w.heap.size w w4 := bl_call (by repeat (first | exact Below.refl _ _ | exact Nat.le_refl _ | refine Below.alloc ?_ ?_ _ | refine Below.setCell ?_ ?_ _ | refine Below.drew ?_ | refine bl_drewN ?_ _ | (assumption) | refine bl_call ?_ (by assumption) ?_ | omega | (simp <;> omega))) hb4 (by first | assumption | (simp; done) | (simp; omega) | omega)
      clear hb4
      have hsz_4 := B4.size
      go_wp2_with fail
      go_ret
      exact ⟨rfl, (by repeat (first | exact Below.refl _ _ | exact Nat.le_refl _ | refine Below.alloc ?_ ?_ _ | refine Below.setCell ?_ ?_ _ | refine Below.drew ?_ | refine bl_drewN ?_ _ | (assumption) | refine bl_call ?_ (by assumption) ?_ | omega | (simp <;> omega)))⟩
namespace gaugeLeft
open Go.ChangeShapes Go.WideShapes Go.ChangeAt Go.RowKit
open Go.Lib Go.Joins
set_option maxRecDepth 100000 in
theorem contract (H : Type) (enc : TypeId × Value → H) (W : World) (base : Nat) (args : Array Value) (ds gs : List (DataW H)) (before : List MemPlace)
    (hval : ∀ (j : Nat) t v, Tryd.f14.params[j]? = some t → args[j]? = some v → Value.okWide Tryd.prog W .any base t v)
    (hW : DataW.Whole enc Tryd.prog Tryd.f14.params.toList Rows.gaugeLeftSpec.vars false W args.toList ds gs before) :
    Calls Tryd.prog 14 args W fun e W' => ∃ v, e = .returned v ∧ Rows.gaugeLeftSpec.post enc Tryd.prog Tryd.f14 false true false false W args v W' := by
  have hW' := hW
  obtain ⟨p, q, hA0, hV, rfl, hfz, hnd⟩ := hW
  have hA : DataW.TrodAll enc Tryd.prog W 0 (fun _ => true) true Tryd.f14.params.toList args.toList ds p := hA0
  rw [Tryd.params14] at hA hval
  obtain ⟨v0, vs0, d0, ds0, p0, q0, hargs, rfl, rfl, h0, r0⟩ := trodAll_cons hA
  obtain ⟨v1, vs1, d1, ds1, p1, q1, rfl, rfl, rfl, h1, r1⟩ := trodAll_cons r0
  obtain ⟨rfl, rfl, rfl⟩ := trodAll_nil r1
  obtain rfl : args = #[v0, v1] := by cases args; simp_all
  obtain ⟨rfl, rfl⟩ := trodVars_none hV
  obtain ⟨u0, t0, y0, z0, n0, rfl, rfl, rfl, tu0, tt0⟩ := open_agg2 Tryd.underlying23 (by kernel_rfl) (by kernel_rfl) (hval 0 23 v0 rfl rfl) h0
  obtain ⟨a0, ea0, rfl, wa0⟩ := DataW.trod_int Tryd.underlying3 tu0
  obtain ⟨b0, eb0, rfl, wb0⟩ := DataW.trod_int Tryd.underlying3 tt0
  obtain rfl : u0 = .int .i64 a0 := by simpa using ea0
  obtain rfl : t0 = .int .i64 b0 := by simpa using eb0
  obtain ⟨u1, t1, y1, z1, n1, rfl, rfl, rfl, tu1, tt1⟩ := open_agg2 Tryd.underlying23 (by kernel_rfl) (by kernel_rfl) (hval 1 23 v1 rfl rfl) h1
  obtain ⟨a1, ea1, rfl, wa1⟩ := DataW.trod_int Tryd.underlying3 tu1
  obtain ⟨b1, eb1, rfl, wb1⟩ := DataW.trod_int Tryd.underlying3 tt1
  obtain rfl : u1 = .int .i64 a1 := by simpa using ea1
  obtain rfl : t1 = .int .i64 b1 := by simpa using eb1
  clear hA0
  simp only [List.append_nil] at hW'
  refine (show Calls Tryd.prog 14 _ W _ from (GaugeLeft_walk a0 b0 a1 b1 W (inI wa0) (inI wb0) (inI wa1) (inI wb1))).mono fun e W' ⟨he, hb⟩ => ?_
  subst he
  exact ⟨_, rfl, _, _, _, [], [], [], hW', trodAll_mk1 (shut_bool Tryd.underlying4 _), trodAll_cons_mk (shut_agg2 (y0 := (.lit (.int .i64 a0), [])) (y1 := (.lit (.int .i64 b0), [])) Tryd.underlying23 (by kernel_rfl) (by kernel_rfl) ⟨1, by simp [DataW.trod, Tryd.underlying3, wa0]⟩ ⟨1, by simp [DataW.trod, Tryd.underlying3, wb0]⟩) (trodAll_cons_mk (shut_agg2 (y0 := (.lit (.int .i64 a1), [])) (y1 := (.lit (.int .i64 b1), [])) Tryd.underlying23 (by kernel_rfl) (by kernel_rfl) ⟨1, by simp [DataW.trod, Tryd.underlying3, wa1]⟩ ⟨1, by simp [DataW.trod, Tryd.underlying3, wb1]⟩) (trodAll_mk0)), rfl, hb.frame _, fun h => by cases h⟩
theorem reads (os : Os) {H : Type} (enc : TypeId × Value → H) : ∃ places, DataW.whole enc Tryd.prog ((laidWorld os).forCall (fun _ _ => 0) ⟨#[], #[.agg #[.int .i64 0, .int .i64 0], .agg #[.int .i64 0, .int .i64 0]], []⟩).memory Tryd.f14.params.toList Rows.gaugeLeftSpec.vars false (#[.agg #[.int .i64 0, .int .i64 0], .agg #[.int .i64 0, .int .i64 0]] : Array Value).toList 8 = some ([.agg [.lit (.int .i64 0), .lit (.int .i64 0)], .agg [.lit (.int .i64 0), .lit (.int .i64 0)]], [], places) :=
  ⟨[], by kernel_rfl⟩
set_option maxRecDepth 100000 in
theorem lifted (os : Os) (started : os.Started) (H : Type) (enc : TypeId × Value → H) (F : Stop.Interp) :
    ReturnsInHanded {} Tryd.checked os 14 .any ((OpenSpec.ofChange Rows.gaugeLeftSpec).preRow enc Tryd.prog Tryd.f14 Rows.gaugeLeftRow.domain false Rows.gaugeLeftRow.laid) (((OpenSpec.ofChange Rows.gaugeLeftSpec).at F).post enc Tryd.prog Tryd.f14 false true false false) := by
  obtain ⟨places, hx⟩ := reads os enc
  refine returnsInHanded_of_row (C := Tryd.checked) (s := OpenSpec.ofChange Rows.gaugeLeftSpec) own started (by kernel_rfl) Tryd.func14
    (witness_row_at (enc := enc) (C := Tryd.checked) false (laidWorld os) #[.agg #[.int .i64 0, .int .i64 0], .agg #[.int .i64 0, .int .i64 0]] rfl (by kernel_rfl) (by kernel_rfl) (by kernel_rfl)
      (OpenSpec.preRow_of_cond 8 hx (by kernel_rfl) (fun k hk => by cases hk) (by kernel_rfl) (laid_met os _))) ?_
  intro W base args ds gs before hval hW _ _ _ _ _ _
  exact contract H enc W base args ds gs before hval hW
theorem said : Rows.GaugeLeftSaid :=
  OpenClaim.holds_of_cond 14 Tryd.f14 rfl rfl rfl rfl rfl rfl rfl ⟨rfl, rfl, rfl, rfl, rfl⟩ rfl rfl rfl rfl rfl (by kernel_rfl) Tryd.func14 (by kernel_rfl)
    (of_decide_eq_true (by kernel_rfl)) (by unfold Func.isWrapper; first | (rw [if_pos (by decide +kernel)]; kernel_rfl) | (rw [if_neg (by decide +kernel)]; exact ⟨rfl, rfl⟩))
    (fun os started H enc _ F => by rw [OpenClaim.pre_eq_preRow]; exact lifted os started H enc F)
theorem plain (f : FuncId) (fn : Func) (hf : Tryd.pinned.checked.prog.funcNamed "remould/remouldlaw04.GaugeLeft" = some f) (hfn : Tryd.pinned.checked.prog.funcs[f]? = some fn) :
    true = Tryd.pinned.checked.prog.looks [] ∧ ∀ (j : Nat) t, fn.params[j]? = some t → Tryd.pinned.checked.prog.wantsStandIn t = false := by
  obtain rfl : f = 14 := Option.some.inj ((show Tryd.prog.funcNamed "remould/remouldlaw04.GaugeLeft" = some 14 by kernel_rfl).symm.trans hf) |>.symm
  obtain rfl : fn = Tryd.f14 := (Option.some.inj (Tryd.func14.symm.trans hfn)).symm
  refine ⟨by kernel_rfl, fun j t ht => ?_⟩
  rw [Tryd.params14] at ht
  have hm : t ∈ [23, 23] := by simpa using Array.mem_of_getElem? ht
  have hall : ([23, 23].all fun u => !Tryd.prog.wantsStandIn u) = true := by kernel_rfl
  exact (show Tryd.prog.wantsStandIn t = false by simpa using List.all_eq_true.1 hall t (by simpa using hm))
theorem card : Rows.GaugeLeftCardSaid :=
  Claim7.holds_tied_plain_at .later [] _ _ _ _ said (fun _ h => by cases h) (by kernel_rfl) (fun _ h => by cases h) gaugeLeft_row_tie rfl ⟨rfl, rfl⟩ (by kernel_rfl) rfl plain (by kernel_rfl)
end gaugeLeft
theorem GaugeLeft_holds : Rows.GaugeLeftCardSaid := gaugeLeft.card
end Go.Proofs.YtgocloilagcfoaaDoor
