/- GaugeEuclid: for every two numbers the law returns true. -/
import Derived.Test.YtgocloilagcfoaaDoorL1
import Derived.Test.YtgocloilagcfoaaDoorL2
import Derived.Test.YtgocloilagcfoaaDoorM11
import Derived.Test.YtgocloilagcfoaaDoorF1
namespace Go.Proofs.YtgocloilagcfoaaDoor
open Go.RowKit
attribute [local go_sem ↓] Go.wp_at_zero Go.wp_at_succ

set_option maxRecDepth 100000 in
set_option maxHeartbeats 8000000 in
theorem GaugeEuclid_walk (a b c d : Int) (w : World) (ha : -9223372036854775808 ≤ a ∧ a ≤ 9223372036854775807) (hb : -9223372036854775808 ≤ b ∧ b ≤ 9223372036854775807) (hc : -9223372036854775808 ≤ c ∧ c ≤ 9223372036854775807) (hd : -9223372036854775808 ≤ d ∧ d ≤ 9223372036854775807) :
    Calls Tryd.prog 6 #[.agg #[.int .i64 a, .int .i64 b], .agg #[.int .i64 c, .int .i64 d]] w fun e w' => e = .returned (.bool true) ∧ Below w.heap.size w w' := by
  have hX := fun wx => tame_any a b 300 wx (by omega) (by omega) ha.1 ha.2 hb.1 hb.2
  have hY := fun wx => tame_any c d 300 wx (by omega) (by omega) hc.1 hc.2 hd.1 hd.2
  have bX1 := modZ_bd a (2 * 300 + 1) (by decide)
  have bX2 := modZ_bd b (2 * 300 + 1) (by decide)
  have bY1 := modZ_bd c (2 * 300 + 1) (by decide)
  have bY2 := modZ_bd d (2 * 300 + 1) (by decide)
  obtain ⟨X1, e1⟩ : ∃ x, modZ a (2 * 300 + 1) - 300 = x := ⟨_, rfl⟩
  obtain ⟨X2, e2⟩ : ∃ x, modZ b (2 * 300 + 1) - 300 = x := ⟨_, rfl⟩
  obtain ⟨Y1, e3⟩ : ∃ x, modZ c (2 * 300 + 1) - 300 = x := ⟨_, rfl⟩
  obtain ⟨Y2, e4⟩ : ∃ x, modZ d (2 * 300 + 1) - 300 = x := ⟨_, rfl⟩
  rw [e1, e2] at hX
  rw [e3, e4] at hY
  have HE0 := Lib.hid (euc_start X1 X2 Y1 Y2 (by omega) (by omega) (by omega) (by omega))
  have NX := Lib.hid ((isN_iff X1 X2).2 ⟨by omega, by omega, by omega, by omega⟩)
  have NY := Lib.hid ((isN_iff Y1 Y2).2 ⟨by omega, by omega, by omega, by omega⟩)
  clear e1 e2 e3 e4 bX1 bX2 bY1 bY2 ha hb hc hd
  have HX := Lib.hid hX
  have HY := Lib.hid hY
  clear hX hY
  go_enter Tryd.func6, Tryd.ntmps6
  go_upto_region 1 with fail
  obtain ⟨w1, hw1⟩ : ∃ wx : World, wx = ((w.alloc (.cells #[.int .i64 a, .int .i64 b] 23)).alloc (.cells #[.int .i64 c, .int .i64 d] 23)) := ⟨_, rfl⟩
  rw [← hw1]
  have q1_0 : w1.heap[w.heap.size]? = some (.cells #[.int .i64 a, .int .i64 b] 23 (0, 0)) := by rw [hw1]; exact blk_old (blk_new _ _)
  have z1_0 : w.heap.size < w1.heap.size := by rw [hw1]; simp <;> omega
  have c1_0_0 : w1.cell? ⟨w.heap.size, 0, none⟩ = some (.int .i64 a) := by rw [hw1]; first | (go_simp; done) | simp
  have c1_0_1 : w1.cell? ⟨w.heap.size, 1, none⟩ = some (.int .i64 b) := by rw [hw1]; first | (go_simp; done) | simp
  have f1_0 : ∀ o, w1.frozen? ⟨w.heap.size, o, none⟩ = false := by intro o; rw [hw1]; first | (go_simp; done) | simp
  have q1_1 : w1.heap[w.heap.size + 1]? = some (.cells #[.int .i64 c, .int .i64 d] 23 (0, 0)) := by rw [hw1]; rw [show w.heap.size + 1 = (w.alloc (.cells #[.int .i64 a, .int .i64 b] 23)).heap.size from by simp]; exact blk_new _ _
  have z1_1 : w.heap.size + 1 < w1.heap.size := by rw [hw1]; simp <;> omega
  have c1_1_0 : w1.cell? ⟨w.heap.size + 1, 0, none⟩ = some (.int .i64 c) := by rw [hw1]; first | (go_simp; done) | simp
  have c1_1_1 : w1.cell? ⟨w.heap.size + 1, 1, none⟩ = some (.int .i64 d) := by rw [hw1]; first | (go_simp; done) | simp
  have f1_1 : ∀ o, w1.frozen? ⟨w.heap.size + 1, o, none⟩ = false := by intro o; rw [hw1]; first | (go_simp; done) | simp
  have B1 : Below w.heap.size w w1 := by rw [hw1]; exact (by repeat (first | exact Below.refl _ _ | exact Nat.le_refl _ | refine Below.alloc ?_ ?_ _ | refine Below.setCell ?_ ?_ _ | refine Below.drew ?_ | refine bl_drewN ?_ _ | (assumption) | refine bl_call ?_ (by assumption) ?_ | omega | (simp <;> omega)))
  clear hw1
  have pblk2 := q1_0
  have pblk3 := q1_1
  have pblk2 : w1.heap[w.heap.size]? = some (.cells #[.int .i64 a, .int .i64 b] 23 (0, 0)) := by first | assumption | exact hblk2
  have pblk3 : w1.heap[w.heap.size + 1]? = some (.cells #[.int .i64 c, .int .i64 d] 23 (0, 0)) := by first | assumption | exact hblk3
  refine with_act fun a0 ha0 => ?_
  refine wp_region_inv (by kernel_rfl) (by kernel_rfl) (fun s a' w' => ∃ v17 v18 v19 v20 : Value, a' = putL a0 [(17, v17), (18, v18), (19, v19), (20, v20)] ∧ Hid ((s 0 = true → v17 = .agg #[.int .i64 a, .int .i64 b]) ∧ (s 1 = true → v18 = .agg #[.int .i64 X1, .int .i64 X2]) ∧ (s 2 = true → v19 = .agg #[.int .i64 c, .int .i64 d]) ∧ (s 3 = true → v20 = .agg #[.int .i64 Y1, .int .i64 Y2]) ∧ True) ∧ BelX [w.heap.size, w.heap.size + 1] w1 w' ∧ (∃ (c0 c1 : Value), w'.heap[w.heap.size]? = some (.cells #[c0, c1] 23 (0, 0)) ∧ (s 4 = true → c0 = .int .i64 X1 ∧ c1 = .int .i64 X2) ∧ (s 4 = false → c0 = .int .i64 a ∧ c1 = .int .i64 b)) ∧ (s 4 = true → s 0 = true ∧ s 1 = true ∧ s 3 = true ∧ True) ∧ (∃ (c0 c1 : Value), w'.heap[w.heap.size + 1]? = some (.cells #[c0, c1] 23 (0, 0)) ∧ (s 5 = true → c0 = .int .i64 Y1 ∧ c1 = .int .i64 Y2) ∧ (s 5 = false → c0 = .int .i64 c ∧ c1 = .int .i64 d)) ∧ (s 5 = true → s 0 = true ∧ s 1 = true ∧ s 2 = true ∧ s 3 = true ∧ s 4 = true ∧ True) ∧ True) ?x1hzero ⟨?x1hs0, ?x1hs1, ?x1hs2, ?x1hs3, ?x1hs4, ?x1hs5, trivial⟩ ?x1hdone
  case x1hzero =>
    refine ⟨a0.tmps.getD 17 undef, a0.tmps.getD 18 undef, a0.tmps.getD 19 undef, a0.tmps.getD 20 undef, ?_, ?_, ?_, ?_, ?_, ?_, ?_, trivial⟩
    · simp only [putL, put_self]
    · exact Lib.hid ⟨fun h => (by simp at h), fun h => (by simp at h), fun h => (by simp at h), fun h => (by simp at h), trivial⟩
    · exact BelX.start _ _
    · exact ⟨.int .i64 a, .int .i64 b, pblk2, fun h => (by simp at h), fun _ => ⟨rfl, rfl⟩⟩
    · exact fun h => (by simp at h)
    · exact ⟨.int .i64 c, .int .i64 d, pblk3, fun h => (by simp at h), fun _ => ⟨rfl, rfl⟩⟩
    · exact fun h => (by simp at h)
  case x1hs0 =>
    intro s a' w' hsk hdep hI K hK
    try dsimp only at hI hK
    obtain ⟨v17, v18, v19, v20, hact, hR, hX, hP2, hQ2, hP3, hQ3, _⟩ := hI
    subst hact
    have HK := Lib.hid hK
    clear hK
    obtain ⟨b2_0, b2_1, pb2, pt2, pf2⟩ := hP2
    have hs0 : s 4 = false := Bool.eq_false_iff.2 fun h => (by have := hQ2 h; simp [hsk] at this)
    obtain ⟨q2_0, q2_1⟩ := pf2 hs0
    subst q2_0
    subst q2_1
    clear hs0
    have kp2_0 := cell_of_row w' (w.heap.size) 0 _ _ _ pb2
    have kp2_1 := cell_of_row w' (w.heap.size) 1 _ _ _ pb2
    simp only [List.getElem?_toArray, List.getElem?_cons_zero, List.getElem?_cons_succ] at kp2_0 kp2_1
    have kq2 : ∀ o, w'.frozen? ⟨w.heap.size, o, none⟩ = false := fun o => frozen_of_row w' _ o _ _ pb2
    have hPB2 := Lib.hid pb2
    clear pb2
    have hPT2 := Lib.hid pt2
    clear pt2
    have hPF2 := Lib.hid pf2
    clear pf2
    obtain ⟨b3_0, b3_1, pb3, pt3, pf3⟩ := hP3
    have hs0 : s 5 = false := Bool.eq_false_iff.2 fun h => (by have := hQ3 h; simp [hsk] at this)
    obtain ⟨q3_0, q3_1⟩ := pf3 hs0
    subst q3_0
    subst q3_1
    clear hs0
    have kp3_0 := cell_of_row w' (w.heap.size + 1) 0 _ _ _ pb3
    have kp3_1 := cell_of_row w' (w.heap.size + 1) 1 _ _ _ pb3
    simp only [List.getElem?_toArray, List.getElem?_cons_zero, List.getElem?_cons_succ] at kp3_0 kp3_1
    have kq3 : ∀ o, w'.frozen? ⟨w.heap.size + 1, o, none⟩ = false := fun o => frozen_of_row w' _ o _ _ pb3
    have hPB3 := Lib.hid pb3
    clear pb3
    have hPT3 := Lib.hid pt3
    clear pt3
    have hPF3 := Lib.hid pf3
    clear pf3
    clear hdep
    refine StepG.mk rfl ?_; rw [ha0]; simp only [putL, Act.put, List.setIfInBounds_toArray, List.set_cons_zero, List.set_cons_succ]
    go_wp2_with fail
    refine HK.out _ _ ?_
    refine ⟨(.agg #[.int .i64 a, .int .i64 b]), v18, v19, v20, (by rw [ha0]; simp only [putL, Act.put, List.setIfInBounds_toArray, List.set_cons_zero, List.set_cons_succ]), ?_, ?_, ?_, ?_, ?_, ?_, trivial⟩
    · obtain ⟨h17, h18, h19, h20, _⟩ := hR.out
      exact Lib.hid ⟨fun _ => rfl, fun h => h18 (by simpa using h), fun h => h19 (by simpa using h), fun h => h20 (by simpa using h), trivial⟩
    · exact hX
    · exact ⟨_, _, hPB2.out, fun h => hPT2.out (by simpa using h), fun h => ⟨rfl, rfl⟩⟩
    · exact fun h => (by have h1 := hQ2 (by simpa using h); simp [h1])
    · exact ⟨_, _, hPB3.out, fun h => hPT3.out (by simpa using h), fun h => ⟨rfl, rfl⟩⟩
    · exact fun h => (by have h1 := hQ3 (by simpa using h); simp [h1])
  case x1hs1 =>
    intro s a' w' hsk hdep hI K hK
    try dsimp only at hI hK
    obtain ⟨v17, v18, v19, v20, hact, hR, hX, hP2, hQ2, hP3, hQ3, _⟩ := hI
    subst hact
    have HK := Lib.hid hK
    clear hK
    have e17 : v17 = .agg #[.int .i64 a, .int .i64 b] := by obtain ⟨h17, h18, h19, h20, _⟩ := hR.out; exact h17 (hdep ⟨0, .data⟩ (by simp) rfl)
    subst e17
    obtain ⟨b2_0, b2_1, pb2, pt2, pf2⟩ := hP2
    have hs0 : s 4 = false := Bool.eq_false_iff.2 fun h => (by have := hQ2 h; simp [hsk] at this)
    obtain ⟨q2_0, q2_1⟩ := pf2 hs0
    subst q2_0
    subst q2_1
    clear hs0
    have kp2_0 := cell_of_row w' (w.heap.size) 0 _ _ _ pb2
    have kp2_1 := cell_of_row w' (w.heap.size) 1 _ _ _ pb2
    simp only [List.getElem?_toArray, List.getElem?_cons_zero, List.getElem?_cons_succ] at kp2_0 kp2_1
    have kq2 : ∀ o, w'.frozen? ⟨w.heap.size, o, none⟩ = false := fun o => frozen_of_row w' _ o _ _ pb2
    have hPB2 := Lib.hid pb2
    clear pb2
    have hPT2 := Lib.hid pt2
    clear pt2
    have hPF2 := Lib.hid pf2
    clear pf2
    obtain ⟨b3_0, b3_1, pb3, pt3, pf3⟩ := hP3
    have hs0 : s 5 = false := Bool.eq_false_iff.2 fun h => (by have := hQ3 h; simp [hsk] at this)
    obtain ⟨q3_0, q3_1⟩ := pf3 hs0
    subst q3_0
    subst q3_1
    clear hs0
    have kp3_0 := cell_of_row w' (w.heap.size + 1) 0 _ _ _ pb3
    have kp3_1 := cell_of_row w' (w.heap.size + 1) 1 _ _ _ pb3
    simp only [List.getElem?_toArray, List.getElem?_cons_zero, List.getElem?_cons_succ] at kp3_0 kp3_1
    have kq3 : ∀ o, w'.frozen? ⟨w.heap.size + 1, o, none⟩ = false := fun o => frozen_of_row w' _ o _ _ pb3
    have hPB3 := Lib.hid pb3
    clear pb3
    have hPT3 := Lib.hid pt3
    clear pt3
    have hPF3 := Lib.hid pf3
    clear pf3
    clear hdep
    refine StepG.mk rfl ?_; rw [ha0]; simp only [putL, Act.put, List.setIfInBounds_toArray, List.set_cons_zero, List.set_cons_succ]
    go_wp2_with fail
    refine ((HX.out _)).mono ?_
    rintro e wn ⟨rfl, hb⟩
    go_wp2_with fail
    refine HK.out _ _ ?_
    refine ⟨(.agg #[.int .i64 a, .int .i64 b]), (.agg #[.int .i64 X1, .int .i64 X2]), v19, v20, (by rw [ha0]; simp only [putL, Act.put, List.setIfInBounds_toArray, List.set_cons_zero, List.set_cons_succ]), ?_, ?_, ?_, ?_, ?_, ?_, trivial⟩
    · obtain ⟨h17, h18, h19, h20, _⟩ := hR.out
      exact Lib.hid ⟨fun _ => rfl, fun _ => rfl, fun h => h19 (by simpa using h), fun h => h20 (by simpa using h), trivial⟩
    · exact hX.call hb
    · exact ⟨_, _, (hb.block _ (blk_lt hPB2.out)).trans hPB2.out, fun h => hPT2.out (by simpa using h), fun h => ⟨rfl, rfl⟩⟩
    · exact fun h => (by have h1 := hQ2 (by simpa using h); simp [h1])
    · exact ⟨_, _, (hb.block _ (blk_lt hPB3.out)).trans hPB3.out, fun h => hPT3.out (by simpa using h), fun h => ⟨rfl, rfl⟩⟩
    · exact fun h => (by have h1 := hQ3 (by simpa using h); simp [h1])
  case x1hs2 =>
    intro s a' w' hsk hdep hI K hK
    try dsimp only at hI hK
    obtain ⟨v17, v18, v19, v20, hact, hR, hX, hP2, hQ2, hP3, hQ3, _⟩ := hI
    subst hact
    have HK := Lib.hid hK
    clear hK
    obtain ⟨b2_0, b2_1, pb2, pt2, pf2⟩ := hP2
    have kp2_0 := cell_of_row w' (w.heap.size) 0 _ _ _ pb2
    have kp2_1 := cell_of_row w' (w.heap.size) 1 _ _ _ pb2
    simp only [List.getElem?_toArray, List.getElem?_cons_zero, List.getElem?_cons_succ] at kp2_0 kp2_1
    have kq2 : ∀ o, w'.frozen? ⟨w.heap.size, o, none⟩ = false := fun o => frozen_of_row w' _ o _ _ pb2
    have hPB2 := Lib.hid pb2
    clear pb2
    have hPT2 := Lib.hid pt2
    clear pt2
    have hPF2 := Lib.hid pf2
    clear pf2
    obtain ⟨b3_0, b3_1, pb3, pt3, pf3⟩ := hP3
    have hs0 : s 5 = false := Bool.eq_false_iff.2 fun h => (by have := hQ3 h; simp [hsk] at this)
    obtain ⟨q3_0, q3_1⟩ := pf3 hs0
    subst q3_0
    subst q3_1
    clear hs0
    have kp3_0 := cell_of_row w' (w.heap.size + 1) 0 _ _ _ pb3
    have kp3_1 := cell_of_row w' (w.heap.size + 1) 1 _ _ _ pb3
    simp only [List.getElem?_toArray, List.getElem?_cons_zero, List.getElem?_cons_succ] at kp3_0 kp3_1
    have kq3 : ∀ o, w'.frozen? ⟨w.heap.size + 1, o, none⟩ = false := fun o => frozen_of_row w' _ o _ _ pb3
    have hPB3 := Lib.hid pb3
    clear pb3
    have hPT3 := Lib.hid pt3
    clear pt3
    have hPF3 := Lib.hid pf3
    clear pf3
    clear hdep
    refine StepG.mk rfl ?_; rw [ha0]; simp only [putL, Act.put, List.setIfInBounds_toArray, List.set_cons_zero, List.set_cons_succ]
    go_wp2_with fail
    refine HK.out _ _ ?_
    refine ⟨v17, v18, (.agg #[.int .i64 c, .int .i64 d]), v20, (by rw [ha0]; simp only [putL, Act.put, List.setIfInBounds_toArray, List.set_cons_zero, List.set_cons_succ]), ?_, ?_, ?_, ?_, ?_, ?_, trivial⟩
    · obtain ⟨h17, h18, h19, h20, _⟩ := hR.out
      exact Lib.hid ⟨fun h => h17 (by simpa using h), fun h => h18 (by simpa using h), fun _ => rfl, fun h => h20 (by simpa using h), trivial⟩
    · exact hX
    · exact ⟨_, _, hPB2.out, fun h => hPT2.out (by simpa using h), fun h => (hPF2.out (by simpa using h))⟩
    · exact fun h => (by have h1 := hQ2 (by simpa using h); simp [h1])
    · exact ⟨_, _, hPB3.out, fun h => hPT3.out (by simpa using h), fun h => ⟨rfl, rfl⟩⟩
    · exact fun h => (by have h1 := hQ3 (by simpa using h); simp [h1])
  case x1hs3 =>
    intro s a' w' hsk hdep hI K hK
    try dsimp only at hI hK
    obtain ⟨v17, v18, v19, v20, hact, hR, hX, hP2, hQ2, hP3, hQ3, _⟩ := hI
    subst hact
    have HK := Lib.hid hK
    clear hK
    have e19 : v19 = .agg #[.int .i64 c, .int .i64 d] := by obtain ⟨h17, h18, h19, h20, _⟩ := hR.out; exact h19 (hdep ⟨2, .data⟩ (by simp) rfl)
    subst e19
    obtain ⟨b2_0, b2_1, pb2, pt2, pf2⟩ := hP2
    have hs0 : s 4 = false := Bool.eq_false_iff.2 fun h => (by have := hQ2 h; simp [hsk] at this)
    obtain ⟨q2_0, q2_1⟩ := pf2 hs0
    subst q2_0
    subst q2_1
    clear hs0
    have kp2_0 := cell_of_row w' (w.heap.size) 0 _ _ _ pb2
    have kp2_1 := cell_of_row w' (w.heap.size) 1 _ _ _ pb2
    simp only [List.getElem?_toArray, List.getElem?_cons_zero, List.getElem?_cons_succ] at kp2_0 kp2_1
    have kq2 : ∀ o, w'.frozen? ⟨w.heap.size, o, none⟩ = false := fun o => frozen_of_row w' _ o _ _ pb2
    have hPB2 := Lib.hid pb2
    clear pb2
    have hPT2 := Lib.hid pt2
    clear pt2
    have hPF2 := Lib.hid pf2
    clear pf2
    obtain ⟨b3_0, b3_1, pb3, pt3, pf3⟩ := hP3
    have hs0 : s 5 = false := Bool.eq_false_iff.2 fun h => (by have := hQ3 h; simp [hsk] at this)
    obtain ⟨q3_0, q3_1⟩ := pf3 hs0
    subst q3_0
    subst q3_1
    clear hs0
    have kp3_0 := cell_of_row w' (w.heap.size + 1) 0 _ _ _ pb3
    have kp3_1 := cell_of_row w' (w.heap.size + 1) 1 _ _ _ pb3
    simp only [List.getElem?_toArray, List.getElem?_cons_zero, List.getElem?_cons_succ] at kp3_0 kp3_1
    have kq3 : ∀ o, w'.frozen? ⟨w.heap.size + 1, o, none⟩ = false := fun o => frozen_of_row w' _ o _ _ pb3
    have hPB3 := Lib.hid pb3
    clear pb3
    have hPT3 := Lib.hid pt3
    clear pt3
    have hPF3 := Lib.hid pf3
    clear pf3
    clear hdep
    refine StepG.mk rfl ?_; rw [ha0]; simp only [putL, Act.put, List.setIfInBounds_toArray, List.set_cons_zero, List.set_cons_succ]
    go_wp2_with fail
    refine ((HY.out _)).mono ?_
    rintro e wn ⟨rfl, hb⟩
    go_wp2_with fail
    refine HK.out _ _ ?_
    refine ⟨v17, v18, (.agg #[.int .i64 c, .int .i64 d]), (.agg #[.int .i64 Y1, .int .i64 Y2]), (by rw [ha0]; simp only [putL, Act.put, List.setIfInBounds_toArray, List.set_cons_zero, List.set_cons_succ]), ?_, ?_, ?_, ?_, ?_, ?_, trivial⟩
    · obtain ⟨h17, h18, h19, h20, _⟩ := hR.out
      exact Lib.hid ⟨fun h => h17 (by simpa using h), fun h => h18 (by simpa using h), fun _ => rfl, fun _ => rfl, trivial⟩
    · exact hX.call hb
    · exact ⟨_, _, (hb.block _ (blk_lt hPB2.out)).trans hPB2.out, fun h => hPT2.out (by simpa using h), fun h => ⟨rfl, rfl⟩⟩
    · exact fun h => (by have h1 := hQ2 (by simpa using h); simp [h1])
    · exact ⟨_, _, (hb.block _ (blk_lt hPB3.out)).trans hPB3.out, fun h => hPT3.out (by simpa using h), fun h => ⟨rfl, rfl⟩⟩
    · exact fun h => (by have h1 := hQ3 (by simpa using h); simp [h1])
  case x1hs4 =>
    intro s a' w' hsk hdep hI K hK
    try dsimp only at hI hK
    obtain ⟨v17, v18, v19, v20, hact, hR, hX, hP2, hQ2, hP3, hQ3, _⟩ := hI
    subst hact
    have HK := Lib.hid hK
    clear hK
    have e18 : v18 = .agg #[.int .i64 X1, .int .i64 X2] := by obtain ⟨h17, h18, h19, h20, _⟩ := hR.out; exact h18 (hdep ⟨1, .data⟩ (by simp) rfl)
    subst e18
    obtain ⟨b2_0, b2_1, pb2, pt2, pf2⟩ := hP2
    have hs0 : s 4 = false := hsk
    obtain ⟨q2_0, q2_1⟩ := pf2 hs0
    subst q2_0
    subst q2_1
    clear hs0
    have kp2_0 := cell_of_row w' (w.heap.size) 0 _ _ _ pb2
    have kp2_1 := cell_of_row w' (w.heap.size) 1 _ _ _ pb2
    simp only [List.getElem?_toArray, List.getElem?_cons_zero, List.getElem?_cons_succ] at kp2_0 kp2_1
    have kq2 : ∀ o, w'.frozen? ⟨w.heap.size, o, none⟩ = false := fun o => frozen_of_row w' _ o _ _ pb2
    have hPB2 := Lib.hid pb2
    clear pb2
    have hPT2 := Lib.hid pt2
    clear pt2
    have hPF2 := Lib.hid pf2
    clear pf2
    obtain ⟨b3_0, b3_1, pb3, pt3, pf3⟩ := hP3
    have hs0 : s 5 = false := Bool.eq_false_iff.2 fun h => (by have := hQ3 h; simp [hsk] at this)
    obtain ⟨q3_0, q3_1⟩ := pf3 hs0
    subst q3_0
    subst q3_1
    clear hs0
    have kp3_0 := cell_of_row w' (w.heap.size + 1) 0 _ _ _ pb3
    have kp3_1 := cell_of_row w' (w.heap.size + 1) 1 _ _ _ pb3
    simp only [List.getElem?_toArray, List.getElem?_cons_zero, List.getElem?_cons_succ] at kp3_0 kp3_1
    have kq3 : ∀ o, w'.frozen? ⟨w.heap.size + 1, o, none⟩ = false := fun o => frozen_of_row w' _ o _ _ pb3
    have hPB3 := Lib.hid pb3
    clear pb3
    have hPT3 := Lib.hid pt3
    clear pt3
    have hPF3 := Lib.hid pf3
    clear pf3
    have hd0 : s 0 = true := hdep ⟨0, .phase⟩ (by simp) rfl
    have hd1 : s 1 = true := hdep ⟨1, .data⟩ (by simp) rfl
    have hd3 : s 3 = true := hdep ⟨3, .chain⟩ (by simp) rfl
    clear hdep
    refine StepG.mk rfl ?_; rw [ha0]; simp only [putL, Act.put, List.setIfInBounds_toArray, List.set_cons_zero, List.set_cons_succ]
    go_wp2_with fail
    refine HK.out _ _ ?_
    refine ⟨v17, (.agg #[.int .i64 X1, .int .i64 X2]), v19, v20, (by rw [ha0]; simp only [putL, Act.put, List.setIfInBounds_toArray, List.set_cons_zero, List.set_cons_succ]), ?_, ?_, ?_, ?_, ?_, ?_, trivial⟩
    · obtain ⟨h17, h18, h19, h20, _⟩ := hR.out
      exact Lib.hid ⟨fun h => h17 (by simpa using h), fun _ => rfl, fun h => h19 (by simpa using h), fun h => h20 (by simpa using h), trivial⟩
    · exact ((hX.setOld (p := ⟨w.heap.size, 0, none⟩) (by simp) _).setOld (p := ⟨w.heap.size, 1, none⟩) (by simp) _)
    · exact ⟨_, _, blk_set2 hPB2.out, fun _ => ⟨rfl, rfl⟩, fun h => (by simp at h)⟩
    · exact fun _ => (by simp [hd0, hd1, hd3])
    · exact ⟨_, _, blk_far2 (by simp <;> omega) hPB3.out, fun h => hPT3.out (by simpa using h), fun h => ⟨rfl, rfl⟩⟩
    · exact fun h => (by have h1 := hQ3 (by simpa using h); simp [h1])
  case x1hs5 =>
    intro s a' w' hsk hdep hI K hK
    try dsimp only at hI hK
    obtain ⟨v17, v18, v19, v20, hact, hR, hX, hP2, hQ2, hP3, hQ3, _⟩ := hI
    subst hact
    have HK := Lib.hid hK
    clear hK
    have e20 : v20 = .agg #[.int .i64 Y1, .int .i64 Y2] := by obtain ⟨h17, h18, h19, h20, _⟩ := hR.out; exact h20 (hdep ⟨3, .data⟩ (by simp) rfl)
    subst e20
    obtain ⟨b2_0, b2_1, pb2, pt2, pf2⟩ := hP2
    have kp2_0 := cell_of_row w' (w.heap.size) 0 _ _ _ pb2
    have kp2_1 := cell_of_row w' (w.heap.size) 1 _ _ _ pb2
    simp only [List.getElem?_toArray, List.getElem?_cons_zero, List.getElem?_cons_succ] at kp2_0 kp2_1
    have kq2 : ∀ o, w'.frozen? ⟨w.heap.size, o, none⟩ = false := fun o => frozen_of_row w' _ o _ _ pb2
    have hPB2 := Lib.hid pb2
    clear pb2
    have hPT2 := Lib.hid pt2
    clear pt2
    have hPF2 := Lib.hid pf2
    clear pf2
    obtain ⟨b3_0, b3_1, pb3, pt3, pf3⟩ := hP3
    have hs0 : s 5 = false := hsk
    obtain ⟨q3_0, q3_1⟩ := pf3 hs0
    subst q3_0
    subst q3_1
    clear hs0
    have kp3_0 := cell_of_row w' (w.heap.size + 1) 0 _ _ _ pb3
    have kp3_1 := cell_of_row w' (w.heap.size + 1) 1 _ _ _ pb3
    simp only [List.getElem?_toArray, List.getElem?_cons_zero, List.getElem?_cons_succ] at kp3_0 kp3_1
    have kq3 : ∀ o, w'.frozen? ⟨w.heap.size + 1, o, none⟩ = false := fun o => frozen_of_row w' _ o _ _ pb3
    have hPB3 := Lib.hid pb3
    clear pb3
    have hPT3 := Lib.hid pt3
    clear pt3
    have hPF3 := Lib.hid pf3
    clear pf3
    have hd0 : s 0 = true := hdep ⟨0, .phase⟩ (by simp) rfl
    have hd1 : s 1 = true := hdep ⟨1, .phase⟩ (by simp) rfl
    have hd2 : s 2 = true := hdep ⟨2, .phase⟩ (by simp) rfl
    have hd3 : s 3 = true := hdep ⟨3, .data⟩ (by simp) rfl
    have hd4 : s 4 = true := hdep ⟨4, .chain⟩ (by simp) rfl
    clear hdep
    refine StepG.mk rfl ?_; rw [ha0]; simp only [putL, Act.put, List.setIfInBounds_toArray, List.set_cons_zero, List.set_cons_succ]
    go_wp2_with fail
    refine HK.out _ _ ?_
    refine ⟨v17, v18, v19, (.agg #[.int .i64 Y1, .int .i64 Y2]), (by rw [ha0]; simp only [putL, Act.put, List.setIfInBounds_toArray, List.set_cons_zero, List.set_cons_succ]), ?_, ?_, ?_, ?_, ?_, ?_, trivial⟩
    · obtain ⟨h17, h18, h19, h20, _⟩ := hR.out
      exact Lib.hid ⟨fun h => h17 (by simpa using h), fun h => h18 (by simpa using h), fun h => h19 (by simpa using h), fun _ => rfl, trivial⟩
    · exact ((hX.setOld (p := ⟨w.heap.size + 1, 0, none⟩) (by simp) _).setOld (p := ⟨w.heap.size + 1, 1, none⟩) (by simp) _)
    · exact ⟨_, _, blk_far2 (by simp <;> omega) hPB2.out, fun h => hPT2.out (by simpa using h), fun h => (hPF2.out (by simpa using h))⟩
    · exact fun h => (by have h1 := hQ2 (by simpa using h); simp [h1])
    · exact ⟨_, _, blk_set2 hPB3.out, fun _ => ⟨rfl, rfl⟩, fun h => (by simp at h)⟩
    · exact fun _ => (by simp [hd0, hd1, hd2, hd3, hd4])
  intro s a' w2 hall hI
  try dsimp only at hI
  obtain ⟨v17, v18, v19, v20, hact, hR, hXR, hP2, hQ2, hP3, hQ3, _⟩ := hI
  subst hact
  obtain ⟨h17, h18, h19, h20, _⟩ := hR.out
  clear hR
  have e17 := h17 (hall 0 (by decide))
  subst e17
  clear h17
  have e18 := h18 (hall 1 (by decide))
  subst e18
  clear h18
  have e19 := h19 (hall 2 (by decide))
  subst e19
  clear h19
  have e20 := h20 (hall 3 (by decide))
  subst e20
  clear h20
  obtain ⟨c0, c1, pblkR2, hpt, _⟩ := hP2
  clear hQ2
  obtain ⟨es0, es1⟩ := hpt (hall 4 (by decide))
  subst es0
  subst es1
  clear hpt
  try clear pblk2
  have pblk2 := pblkR2
  clear pblkR2
  obtain ⟨c0, c1, pblkR3, hpt, _⟩ := hP3
  clear hQ3
  obtain ⟨es0, es1⟩ := hpt (hall 5 (by decide))
  subst es0
  subst es1
  clear hpt
  try clear pblk3
  have pblk3 := pblkR3
  clear pblkR3
  clear hall
  rw [ha0]; simp only [putL, Act.put, List.setIfInBounds_toArray, List.set_cons_zero, List.set_cons_succ]
  clear ha0
  have B2 : Below w.heap.size w w2 := hXR.below (by first | assumption | exact (by repeat (first | exact Below.refl _ _ | exact Nat.le_refl _ | refine Below.alloc ?_ ?_ _ | refine Below.setCell ?_ ?_ _ | refine Below.drew ?_ | refine bl_drewN ?_ _ | (assumption) | refine bl_call ?_ (by assumption) ?_ | omega | (simp <;> omega)))) (by first | omega | (simp <;> omega)) (by simp <;> omega)
  clear hXR
  have zz2 := blk_lt pblk3
  have RX2 := pblk2
  have RY2 := pblk3
  have cx0 := row2_0 pblk2
  have cx1 := row2_1 pblk2
  have cy0 := row2_0 pblk3
  have cy1 := row2_1 pblk3
  clear pblk2 pblk3 HX HY q1_0 q1_1
  go_upto_region 2 with fail
  refine with_act fun a0 ha0 => ?_
  refine wp_region_inv (by kernel_rfl) (by kernel_rfl) (fun s a' w' => ∃ v21 v22 v5 v6 : Value, a' = putL a0 [(21, v21), (22, v22), (5, v5), (6, v6)] ∧ Hid ((s 0 = true → v21 = .agg #[.int .i64 X1, .int .i64 X2]) ∧ (s 1 = true → v22 = .agg #[.int .i64 Y1, .int .i64 Y2]) ∧ True) ∧ BelX [] w2 w' ∧ (s 2 = true → ∃ (g : Nat) (c0 c1 : Value), v5 = .pointer (some ⟨g, 0, none⟩) ∧ w2.heap.size ≤ g ∧ w'.heap[g]? = some (.cells #[c0, c1] 23 (0, 0)) ∧ (s 4 = true → c0 = .int .i64 X1 ∧ c1 = .int .i64 X2)) ∧ (s 4 = true → s 2 = true) ∧ (s 3 = true → ∃ (g : Nat) (c0 c1 : Value), v6 = .pointer (some ⟨g, 0, none⟩) ∧ w2.heap.size ≤ g ∧ w'.heap[g]? = some (.cells #[c0, c1] 23 (0, 0)) ∧ (s 5 = true → c0 = .int .i64 Y1 ∧ c1 = .int .i64 Y2)) ∧ (s 5 = true → s 3 = true) ∧ (s 2 = true → s 3 = true → v5 ≠ v6) ∧ True) ?x2hzero ⟨?x2hs0, ?x2hs1, ?x2hs2, ?x2hs3, ?x2hs4, ?x2hs5, trivial⟩ ?x2hdone
  case x2hzero =>
    refine ⟨a0.tmps.getD 21 undef, a0.tmps.getD 22 undef, a0.tmps.getD 5 undef, a0.tmps.getD 6 undef, ?_, ?_, ?_, ?_, ?_, ?_, ?_, ?_, trivial⟩
    · simp only [putL, put_self]
    · exact Lib.hid ⟨fun h => (by simp at h), fun h => (by simp at h), trivial⟩
    · exact BelX.start _ _
    · exact fun h => (by simp at h)
    · exact fun h => (by simp at h)
    · exact fun h => (by simp at h)
    · exact fun h => (by simp at h)
    · exact fun h => (by simp at h)
  case x2hs0 =>
    intro s a' w' hsk hdep hI K hK
    try dsimp only at hI hK
    obtain ⟨v21, v22, v5, v6, hact, hR, hX, hA5, hN5, hA6, hN6, hD5_6, _⟩ := hI
    subst hact
    have HK := Lib.hid hK
    clear hK
    have kc0 : w'.cell? ⟨w.heap.size, 0, none⟩ = some (.int .i64 X1) := hX.cell (by first | (simp; done) | (simp; omega)) (by first | assumption | (go_simp; done) | (simp; done))
    have kc1 : w'.cell? ⟨w.heap.size, 1, none⟩ = some (.int .i64 X2) := hX.cell (by first | (simp; done) | (simp; omega)) (by first | assumption | (go_simp; done) | (simp; done))
    have kc2 : w'.cell? ⟨w.heap.size + 1, 0, none⟩ = some (.int .i64 Y1) := hX.cell (by first | (simp; done) | (simp; omega)) (by first | assumption | (go_simp; done) | (simp; done))
    have kc3 : w'.cell? ⟨w.heap.size + 1, 1, none⟩ = some (.int .i64 Y2) := hX.cell (by first | (simp; done) | (simp; omega)) (by first | assumption | (go_simp; done) | (simp; done))
    clear hdep
    refine StepG.mk rfl ?_; rw [ha0]; simp only [putL, Act.put, List.setIfInBounds_toArray, List.set_cons_zero, List.set_cons_succ]
    go_wp2_with fail
    refine HK.out _ _ ?_
    refine ⟨(.agg #[.int .i64 X1, .int .i64 X2]), v22, v5, v6, (by rw [ha0]; simp only [putL, Act.put, List.setIfInBounds_toArray, List.set_cons_zero, List.set_cons_succ]), ?_, ?_, ?_, ?_, ?_, ?_, ?_, trivial⟩
    · obtain ⟨h21, h22, _⟩ := hR.out
      exact Lib.hid ⟨fun _ => rfl, fun h => h22 (by simpa using h), trivial⟩
    · exact hX
    · intro h; obtain ⟨g, c0, c1, e, hg, hblk, hst⟩ := hA5 (by simpa using h); exact ⟨g, c0, c1, e, hg, hblk, fun h => hst (by simpa using h)⟩
    · exact fun h => (by have h1 := hN5 (by simpa using h); simp [h1])
    · intro h; obtain ⟨g, c0, c1, e, hg, hblk, hst⟩ := hA6 (by simpa using h); exact ⟨g, c0, c1, e, hg, hblk, fun h => hst (by simpa using h)⟩
    · exact fun h => (by have h1 := hN6 (by simpa using h); simp [h1])
    · exact fun h1 h2 => hD5_6 (by simpa using h1) (by simpa using h2)
  case x2hs1 =>
    intro s a' w' hsk hdep hI K hK
    try dsimp only at hI hK
    obtain ⟨v21, v22, v5, v6, hact, hR, hX, hA5, hN5, hA6, hN6, hD5_6, _⟩ := hI
    subst hact
    have HK := Lib.hid hK
    clear hK
    have kc0 : w'.cell? ⟨w.heap.size, 0, none⟩ = some (.int .i64 X1) := hX.cell (by first | (simp; done) | (simp; omega)) (by first | assumption | (go_simp; done) | (simp; done))
    have kc1 : w'.cell? ⟨w.heap.size, 1, none⟩ = some (.int .i64 X2) := hX.cell (by first | (simp; done) | (simp; omega)) (by first | assumption | (go_simp; done) | (simp; done))
    have kc2 : w'.cell? ⟨w.heap.size + 1, 0, none⟩ = some (.int .i64 Y1) := hX.cell (by first | (simp; done) | (simp; omega)) (by first | assumption | (go_simp; done) | (simp; done))
    have kc3 : w'.cell? ⟨w.heap.size + 1, 1, none⟩ = some (.int .i64 Y2) := hX.cell (by first | (simp; done) | (simp; omega)) (by first | assumption | (go_simp; done) | (simp; done))
    clear hdep
    refine StepG.mk rfl ?_; rw [ha0]; simp only [putL, Act.put, List.setIfInBounds_toArray, List.set_cons_zero, List.set_cons_succ]
    go_wp2_with fail
    refine HK.out _ _ ?_
    refine ⟨v21, (.agg #[.int .i64 Y1, .int .i64 Y2]), v5, v6, (by rw [ha0]; simp only [putL, Act.put, List.setIfInBounds_toArray, List.set_cons_zero, List.set_cons_succ]), ?_, ?_, ?_, ?_, ?_, ?_, ?_, trivial⟩
    · obtain ⟨h21, h22, _⟩ := hR.out
      exact Lib.hid ⟨fun h => h21 (by simpa using h), fun _ => rfl, trivial⟩
    · exact hX
    · intro h; obtain ⟨g, c0, c1, e, hg, hblk, hst⟩ := hA5 (by simpa using h); exact ⟨g, c0, c1, e, hg, hblk, fun h => hst (by simpa using h)⟩
    · exact fun h => (by have h1 := hN5 (by simpa using h); simp [h1])
    · intro h; obtain ⟨g, c0, c1, e, hg, hblk, hst⟩ := hA6 (by simpa using h); exact ⟨g, c0, c1, e, hg, hblk, fun h => hst (by simpa using h)⟩
    · exact fun h => (by have h1 := hN6 (by simpa using h); simp [h1])
    · exact fun h1 h2 => hD5_6 (by simpa using h1) (by simpa using h2)
  case x2hs2 =>
    intro s a' w' hsk hdep hI K hK
    try dsimp only at hI hK
    obtain ⟨v21, v22, v5, v6, hact, hR, hX, hA5, hN5, hA6, hN6, hD5_6, _⟩ := hI
    subst hact
    have HK := Lib.hid hK
    clear hK
    have kc0 : w'.cell? ⟨w.heap.size, 0, none⟩ = some (.int .i64 X1) := hX.cell (by first | (simp; done) | (simp; omega)) (by first | assumption | (go_simp; done) | (simp; done))
    have kc1 : w'.cell? ⟨w.heap.size, 1, none⟩ = some (.int .i64 X2) := hX.cell (by first | (simp; done) | (simp; omega)) (by first | assumption | (go_simp; done) | (simp; done))
    have kc2 : w'.cell? ⟨w.heap.size + 1, 0, none⟩ = some (.int .i64 Y1) := hX.cell (by first | (simp; done) | (simp; omega)) (by first | assumption | (go_simp; done) | (simp; done))
    have kc3 : w'.cell? ⟨w.heap.size + 1, 1, none⟩ = some (.int .i64 Y2) := hX.cell (by first | (simp; done) | (simp; omega)) (by first | assumption | (go_simp; done) | (simp; done))
    clear hdep
    refine StepG.mk rfl ?_; rw [ha0]; simp only [putL, Act.put, List.setIfInBounds_toArray, List.set_cons_zero, List.set_cons_succ]
    go_wp2_with fail
    refine HK.out _ _ ?_
    refine ⟨v21, v22, (.pointer (some ⟨w'.heap.size, 0, none⟩)), v6, (by rw [ha0]; simp only [putL, Act.put, List.setIfInBounds_toArray, List.set_cons_zero, List.set_cons_succ]), ?_, ?_, ?_, ?_, ?_, ?_, ?_, trivial⟩
    · obtain ⟨h21, h22, _⟩ := hR.out
      exact Lib.hid ⟨fun h => h21 (by simpa using h), fun h => h22 (by simpa using h), trivial⟩
    · exact hX.alloc _
    · exact fun _ => ⟨w'.heap.size, .int .i64 0, .int .i64 0, rfl, hX.size, blk_new w' _, fun h => (by have h1 := hN5 (by simpa using h); rw [h1] at hsk; cases hsk)⟩
    · exact fun _ => rfl
    · intro h; obtain ⟨g, c0, c1, e, hg, hblk, hst⟩ := hA6 (by simpa using h); exact ⟨g, c0, c1, e, hg, blk_old hblk, fun h => hst (by simpa using h)⟩
    · exact fun h => (by have h1 := hN6 (by simpa using h); simp [h1])
    · intro h1 h2 hE; obtain ⟨g2, _, _, e2, hg2, hblk2, _⟩ := hA6 (by simpa using h2); rw [e2] at hE; have hlt2 := blk_lt hblk2; (simp at hE <;> omega)
  case x2hs3 =>
    intro s a' w' hsk hdep hI K hK
    try dsimp only at hI hK
    obtain ⟨v21, v22, v5, v6, hact, hR, hX, hA5, hN5, hA6, hN6, hD5_6, _⟩ := hI
    subst hact
    have HK := Lib.hid hK
    clear hK
    have kc0 : w'.cell? ⟨w.heap.size, 0, none⟩ = some (.int .i64 X1) := hX.cell (by first | (simp; done) | (simp; omega)) (by first | assumption | (go_simp; done) | (simp; done))
    have kc1 : w'.cell? ⟨w.heap.size, 1, none⟩ = some (.int .i64 X2) := hX.cell (by first | (simp; done) | (simp; omega)) (by first | assumption | (go_simp; done) | (simp; done))
    have kc2 : w'.cell? ⟨w.heap.size + 1, 0, none⟩ = some (.int .i64 Y1) := hX.cell (by first | (simp; done) | (simp; omega)) (by first | assumption | (go_simp; done) | (simp; done))
    have kc3 : w'.cell? ⟨w.heap.size + 1, 1, none⟩ = some (.int .i64 Y2) := hX.cell (by first | (simp; done) | (simp; omega)) (by first | assumption | (go_simp; done) | (simp; done))
    clear hdep
    refine StepG.mk rfl ?_; rw [ha0]; simp only [putL, Act.put, List.setIfInBounds_toArray, List.set_cons_zero, List.set_cons_succ]
    go_wp2_with fail
    refine HK.out _ _ ?_
    refine ⟨v21, v22, v5, (.pointer (some ⟨w'.heap.size, 0, none⟩)), (by rw [ha0]; simp only [putL, Act.put, List.setIfInBounds_toArray, List.set_cons_zero, List.set_cons_succ]), ?_, ?_, ?_, ?_, ?_, ?_, ?_, trivial⟩
    · obtain ⟨h21, h22, _⟩ := hR.out
      exact Lib.hid ⟨fun h => h21 (by simpa using h), fun h => h22 (by simpa using h), trivial⟩
    · exact hX.alloc _
    · intro h; obtain ⟨g, c0, c1, e, hg, hblk, hst⟩ := hA5 (by simpa using h); exact ⟨g, c0, c1, e, hg, blk_old hblk, fun h => hst (by simpa using h)⟩
    · exact fun h => (by have h1 := hN5 (by simpa using h); simp [h1])
    · exact fun _ => ⟨w'.heap.size, .int .i64 0, .int .i64 0, rfl, hX.size, blk_new w' _, fun h => (by have h1 := hN6 (by simpa using h); rw [h1] at hsk; cases hsk)⟩
    · exact fun _ => rfl
    · intro h1 h2 hE; obtain ⟨g2, _, _, e2, hg2, hblk2, _⟩ := hA5 (by simpa using h1); rw [e2] at hE; have hlt2 := blk_lt hblk2; (simp at hE <;> omega)
  case x2hs4 =>
    intro s a' w' hsk hdep hI K hK
    try dsimp only at hI hK
    obtain ⟨v21, v22, v5, v6, hact, hR, hX, hA5, hN5, hA6, hN6, hD5_6, _⟩ := hI
    subst hact
    have HK := Lib.hid hK
    clear hK
    have e21 : v21 = .agg #[.int .i64 X1, .int .i64 X2] := by obtain ⟨h21, h22, _⟩ := hR.out; exact h21 (hdep ⟨0, .data⟩ (by simp) rfl)
    subst e21
    obtain ⟨g, c0, c1, ev, hg, hblk, hst⟩ := hA5 (hdep ⟨2, .data⟩ (by simp) rfl)
    subst ev
    have kc0 : w'.cell? ⟨w.heap.size, 0, none⟩ = some (.int .i64 X1) := hX.cell (by first | (simp; done) | (simp; omega)) (by first | assumption | (go_simp; done) | (simp; done))
    have kc1 : w'.cell? ⟨w.heap.size, 1, none⟩ = some (.int .i64 X2) := hX.cell (by first | (simp; done) | (simp; omega)) (by first | assumption | (go_simp; done) | (simp; done))
    have kc2 : w'.cell? ⟨w.heap.size + 1, 0, none⟩ = some (.int .i64 Y1) := hX.cell (by first | (simp; done) | (simp; omega)) (by first | assumption | (go_simp; done) | (simp; done))
    have kc3 : w'.cell? ⟨w.heap.size + 1, 1, none⟩ = some (.int .i64 Y2) := hX.cell (by first | (simp; done) | (simp; omega)) (by first | assumption | (go_simp; done) | (simp; done))
    have kb0 : w'.cell? ⟨g, 0, none⟩ = some c0 := cell_of_row w' g 0 _ _ _ hblk
    have kb1 : w'.cell? ⟨g, 1, none⟩ = some c1 := cell_of_row w' g 1 _ _ _ hblk
    have kf : ∀ o, w'.frozen? ⟨g, o, none⟩ = false := fun o => frozen_of_row w' g o _ _ hblk
    have hBlk := Lib.hid hblk
    clear hblk
    have hdepA : s 2 = true := hdep ⟨2, .data⟩ (by simp) rfl
    clear hdep
    refine StepG.mk rfl ?_; rw [ha0]; simp only [putL, Act.put, List.setIfInBounds_toArray, List.set_cons_zero, List.set_cons_succ]
    go_wp2_with fail
    refine HK.out _ _ ?_
    refine ⟨(.agg #[.int .i64 X1, .int .i64 X2]), v22, (.pointer (some ⟨g, 0, none⟩)), v6, (by rw [ha0]; simp only [putL, Act.put, List.setIfInBounds_toArray, List.set_cons_zero, List.set_cons_succ]), ?_, ?_, ?_, ?_, ?_, ?_, ?_, trivial⟩
    · obtain ⟨h21, h22, _⟩ := hR.out
      exact Lib.hid ⟨fun _ => rfl, fun h => h22 (by simpa using h), trivial⟩
    · exact ((hX.setNew (p := ⟨g, 0, none⟩) hg _).setNew (p := ⟨g, 1, none⟩) hg _)
    · exact fun _ => ⟨g, _, _, rfl, hg, blk_set2 hBlk.out, fun _ => ⟨rfl, rfl⟩⟩
    · exact fun _ => (by simp [hdepA])
    · intro h; obtain ⟨g2, c0, c1, e, hg2, hblk, hst⟩ := hA6 (by simpa using h); exact ⟨g2, c0, c1, e, hg2, blk_far2 (fun h0 => hD5_6 hdepA (by simpa using h) (by rw [e, h0])) hblk, fun h => hst (by simpa using h)⟩
    · exact fun h => (by have h1 := hN6 (by simpa using h); simp [h1])
    · exact fun h1 h2 => hD5_6 (by simpa using h1) (by simpa using h2)
  case x2hs5 =>
    intro s a' w' hsk hdep hI K hK
    try dsimp only at hI hK
    obtain ⟨v21, v22, v5, v6, hact, hR, hX, hA5, hN5, hA6, hN6, hD5_6, _⟩ := hI
    subst hact
    have HK := Lib.hid hK
    clear hK
    have e22 : v22 = .agg #[.int .i64 Y1, .int .i64 Y2] := by obtain ⟨h21, h22, _⟩ := hR.out; exact h22 (hdep ⟨1, .data⟩ (by simp) rfl)
    subst e22
    obtain ⟨g, c0, c1, ev, hg, hblk, hst⟩ := hA6 (hdep ⟨3, .data⟩ (by simp) rfl)
    subst ev
    have kc0 : w'.cell? ⟨w.heap.size, 0, none⟩ = some (.int .i64 X1) := hX.cell (by first | (simp; done) | (simp; omega)) (by first | assumption | (go_simp; done) | (simp; done))
    have kc1 : w'.cell? ⟨w.heap.size, 1, none⟩ = some (.int .i64 X2) := hX.cell (by first | (simp; done) | (simp; omega)) (by first | assumption | (go_simp; done) | (simp; done))
    have kc2 : w'.cell? ⟨w.heap.size + 1, 0, none⟩ = some (.int .i64 Y1) := hX.cell (by first | (simp; done) | (simp; omega)) (by first | assumption | (go_simp; done) | (simp; done))
    have kc3 : w'.cell? ⟨w.heap.size + 1, 1, none⟩ = some (.int .i64 Y2) := hX.cell (by first | (simp; done) | (simp; omega)) (by first | assumption | (go_simp; done) | (simp; done))
    have kb0 : w'.cell? ⟨g, 0, none⟩ = some c0 := cell_of_row w' g 0 _ _ _ hblk
    have kb1 : w'.cell? ⟨g, 1, none⟩ = some c1 := cell_of_row w' g 1 _ _ _ hblk
    have kf : ∀ o, w'.frozen? ⟨g, o, none⟩ = false := fun o => frozen_of_row w' g o _ _ hblk
    have hBlk := Lib.hid hblk
    clear hblk
    have hdepA : s 3 = true := hdep ⟨3, .data⟩ (by simp) rfl
    clear hdep
    refine StepG.mk rfl ?_; rw [ha0]; simp only [putL, Act.put, List.setIfInBounds_toArray, List.set_cons_zero, List.set_cons_succ]
    go_wp2_with fail
    refine HK.out _ _ ?_
    refine ⟨v21, (.agg #[.int .i64 Y1, .int .i64 Y2]), v5, (.pointer (some ⟨g, 0, none⟩)), (by rw [ha0]; simp only [putL, Act.put, List.setIfInBounds_toArray, List.set_cons_zero, List.set_cons_succ]), ?_, ?_, ?_, ?_, ?_, ?_, ?_, trivial⟩
    · obtain ⟨h21, h22, _⟩ := hR.out
      exact Lib.hid ⟨fun h => h21 (by simpa using h), fun _ => rfl, trivial⟩
    · exact ((hX.setNew (p := ⟨g, 0, none⟩) hg _).setNew (p := ⟨g, 1, none⟩) hg _)
    · intro h; obtain ⟨g2, c0, c1, e, hg2, hblk, hst⟩ := hA5 (by simpa using h); exact ⟨g2, c0, c1, e, hg2, blk_far2 (fun h0 => hD5_6 (by simpa using h) hdepA (by rw [e, h0])) hblk, fun h => hst (by simpa using h)⟩
    · exact fun h => (by have h1 := hN5 (by simpa using h); simp [h1])
    · exact fun _ => ⟨g, _, _, rfl, hg, blk_set2 hBlk.out, fun _ => ⟨rfl, rfl⟩⟩
    · exact fun _ => (by simp [hdepA])
    · exact fun h1 h2 => hD5_6 (by simpa using h1) (by simpa using h2)
  intro s a' w3 hall hI
  try dsimp only at hI
  obtain ⟨v21, v22, v5, v6, hact, hR, hXR, hA5, hN5, hA6, hN6, hD5_6, _⟩ := hI
  subst hact
  obtain ⟨h21, h22, _⟩ := hR.out
  clear hR
  have e21 := h21 (hall 0 (by decide))
  subst e21
  clear h21
  have e22 := h22 (hall 1 (by decide))
  subst e22
  clear h22
  obtain ⟨g5, c0, c1, ev, hg5, hblk5, hst⟩ := hA5 (hall 2 (by decide))
  subst ev
  clear hA5 hN5
  obtain ⟨es0, es1⟩ := hst (hall 4 (by decide))
  subst es0
  subst es1
  clear hst
  obtain ⟨g6, c0, c1, ev, hg6, hblk6, hst⟩ := hA6 (hall 3 (by decide))
  subst ev
  clear hA6 hN6
  obtain ⟨es0, es1⟩ := hst (hall 5 (by decide))
  subst es0
  subst es1
  clear hst
  have hgne5_6 : g5 ≠ g6 := fun h0 => hD5_6 (hall 2 (by decide)) (hall 3 (by decide)) (by rw [h0])
  clear hD5_6
  clear hall
  rw [ha0]; simp only [putL, Act.put, List.setIfInBounds_toArray, List.set_cons_zero, List.set_cons_succ]
  clear ha0
  have B3 : Below w.heap.size w w3 := hXR.below (by first | assumption | exact (by repeat (first | exact Below.refl _ _ | exact Nat.le_refl _ | refine Below.alloc ?_ ?_ _ | refine Below.setCell ?_ ?_ _ | refine Below.drew ?_ | refine bl_drewN ?_ _ | (assumption) | refine bl_call ?_ (by assumption) ?_ | omega | (simp <;> omega)))) (by first | omega | (simp <;> omega)) (by simp <;> omega)
  have RX3 := (hXR.block w.heap.size (by omega) (by simp)).trans RX2
  have RY3 := (hXR.block (w.heap.size + 1) (by omega) (by simp)).trans RY2
  clear hXR RX2 RY2 cx0 cx1 cy0 cy1 B2
  have hg5' : w.heap.size + 1 < g5 := by omega
  have hg6' : w.heap.size + 1 < g6 := by omega
  clear hg5 hg6 zz2
  go_upto_region 4 with fail
  go_loopw [7] (fun y wr => ∃ (i : Nat) (a1 a2 b1 b2 : Int), y = .int .i64 i ∧ i ≤ 19 ∧ Hid (Euc i X1 X2 Y1 Y2 a1 a2 b1 b2) ∧ wr.heap[w.heap.size]? = some (.cells #[.int .i64 X1, .int .i64 X2] 23 (0, 0)) ∧ wr.heap[w.heap.size + 1]? = some (.cells #[.int .i64 Y1, .int .i64 Y2] 23 (0, 0)) ∧
      wr.heap[g5]? = some (.cells #[.int .i64 a1, .int .i64 a2] 23 (0, 0)) ∧ wr.heap[g6]? = some (.cells #[.int .i64 b1, .int .i64 b2] 23 (0, 0)) ∧ Below w.heap.size w wr) (fun y _ => 19 - (intOf y).toNat)
  case atStart => exact ⟨0, X1, X2, Y1, Y2, rfl, by omega, HE0, RX3, RY3, hblk5, hblk6, B3⟩
  case round =>
    obtain ⟨i, a1, a2, b1, b2, rfl, hi, HE, RX, RY, R5, R6, B⟩ := hrel
    clear RX3 RY3 hblk5 hblk6 B3 HE0
    have hi40 : (i : Int) < 40 := by omega
    have zw5 := blk_lt R5
    have zw6 := blk_lt R6
    by_cases hz : b1 = 0 ∧ b2 = 0
    · obtain ⟨rfl, rfl⟩ := hz
      obtain ⟨hNa, p1, p2, r1, r2, m1, m2, m3, m4⟩ := euc_end HE.out
      have cx0 := row2_0 RX
      have cx1 := row2_1 RX
      have cy0 := row2_0 RY
      have cy1 := row2_1 RY
      have ca0 := row2_0 R5
      have ca1 := row2_1 R5
      have cb0 := row2_0 R6
      have cb1 := row2_1 R6
      clear RX RY R5 R6
      by_cases hz : a1 = 0 ∧ a2 = 0
      · obtain ⟨rfl, rfl⟩ := hz
        obtain rfl : X1 = 0 := by rw [m1]; simp
        obtain rfl : X2 = 0 := by rw [m2]; simp
        obtain rfl : Y1 = 0 := by rw [m3]; simp
        obtain rfl : Y2 = 0 := by rw [m4]; simp
        clear m1 m2 m3 m4
        go_wp2_with fail
        refine (awake_any _).mono ?_
        rintro e w12 ⟨rfl, hb12⟩
        have z12_0 : w.heap.size < w12.heap.size := by have := hb12.size; (try simp at this); omega
        have z12_1 : w.heap.size + 1 < w12.heap.size := by have := hb12.size; (try simp at this); omega
        have B12 : Below w.heap.size w w12 := bl_call (by repeat (first | exact Below.refl _ _ | exact Nat.le_refl _ | refine Below.alloc ?_ ?_ _ | refine Below.setCell ?_ ?_ _ | refine Below.drew ?_ | refine bl_drewN ?_ _ | (assumption) | refine bl_call ?_ (by assumption) ?_ | omega | (simp <;> omega))) hb12 (by first | assumption | (simp; done) | (simp; omega) | omega)
        clear hb12
        have hsz_12 := B12.size
        go_wp2_with fail
        go_ret
        exact ⟨rfl, (by repeat (first | exact Below.refl _ _ | exact Nat.le_refl _ | refine Below.alloc ?_ ?_ _ | refine Below.setCell ?_ ?_ _ | refine Below.drew ?_ | refine bl_drewN ?_ _ | (assumption) | refine bl_call ?_ (by assumption) ?_ | omega | (simp <;> omega)))⟩
      · have hDX := fun wx => Divide_yes X1 X2 a1 a2 wx NX.out hNa hz
        have hDY := fun wx => Divide_yes Y1 Y2 a1 a2 wx NY.out hNa hz
        obtain ⟨u1, v1, f1, k1, hf1⟩ := div_multiple X1 X2 a1 a2 p1 p2 m1 m2 hz
        obtain ⟨u2, v2, f2, k2, hf2⟩ := div_multiple Y1 Y2 a1 a2 r1 r2 m3 m4 hz
        rw [k1] at hDX
        rw [k2] at hDY
        have heq := eql_zero a1 a2 hz
        have HDX := Lib.hid hDX
        have HDY := Lib.hid hDY
        clear hDX hDY k1 k2 m1 m2 m3 m4 hz
        go_wp2_with fail
        refine (HDX.out _).mono ?_
        rintro e w12 ⟨rfl, hb12⟩
        have z12_0 : w.heap.size < w12.heap.size := by have := hb12.size; (try simp at this); omega
        have z12_1 : w.heap.size + 1 < w12.heap.size := by have := hb12.size; (try simp at this); omega
        have cew_heap_size12_0 : w12.cell? ⟨w.heap.size, 0, none⟩ = some (.int .i64 X1) := keep_cell hb12 (by first | assumption | (go_simp; done) | (simp; done) | simp [*])
        have zew_heap_size12 : w.heap.size < w12.heap.size := block_lt_of_cell cew_heap_size12_0
        have cew_heap_size12_1 : w12.cell? ⟨w.heap.size, 1, none⟩ = some (.int .i64 X2) := keep_cell hb12 (by first | assumption | (go_simp; done) | (simp; done) | simp [*])
        have cew_heap_size_112_0 : w12.cell? ⟨w.heap.size + 1, 0, none⟩ = some (.int .i64 Y1) := keep_cell hb12 (by first | assumption | (go_simp; done) | (simp; done) | simp [*])
        have zew_heap_size_112 : w.heap.size + 1 < w12.heap.size := block_lt_of_cell cew_heap_size_112_0
        have cew_heap_size_112_1 : w12.cell? ⟨w.heap.size + 1, 1, none⟩ = some (.int .i64 Y2) := keep_cell hb12 (by first | assumption | (go_simp; done) | (simp; done) | simp [*])
        have ceg512_0 : w12.cell? ⟨g5, 0, none⟩ = some (.int .i64 a1) := keep_cell hb12 (by first | assumption | (go_simp; done) | (simp; done) | simp [*])
        have zeg512 : g5 < w12.heap.size := block_lt_of_cell ceg512_0
        have ceg512_1 : w12.cell? ⟨g5, 1, none⟩ = some (.int .i64 a2) := keep_cell hb12 (by first | assumption | (go_simp; done) | (simp; done) | simp [*])
        have B12 : Below w.heap.size w w12 := bl_call (by repeat (first | exact Below.refl _ _ | exact Nat.le_refl _ | refine Below.alloc ?_ ?_ _ | refine Below.setCell ?_ ?_ _ | refine Below.drew ?_ | refine bl_drewN ?_ _ | (assumption) | refine bl_call ?_ (by assumption) ?_ | omega | (simp <;> omega))) hb12 (by first | assumption | (simp; done) | (simp; omega) | omega)
        clear hb12
        have hsz_12 := B12.size
        go_wp2_with fail
        refine (HDY.out _).mono ?_
        rintro e w13 ⟨rfl, hb13⟩
        have z13_0 : w.heap.size < w13.heap.size := by have := hb13.size; (try simp at this); omega
        have z13_1 : w.heap.size + 1 < w13.heap.size := by have := hb13.size; (try simp at this); omega
        have cew_heap_size13_0 : w13.cell? ⟨w.heap.size, 0, none⟩ = some (.int .i64 X1) := keep_cell hb13 (by first | assumption | (go_simp; done) | (simp; done) | simp [*])
        have zew_heap_size13 : w.heap.size < w13.heap.size := block_lt_of_cell cew_heap_size13_0
        have cew_heap_size13_1 : w13.cell? ⟨w.heap.size, 1, none⟩ = some (.int .i64 X2) := keep_cell hb13 (by first | assumption | (go_simp; done) | (simp; done) | simp [*])
        have cew_heap_size_113_0 : w13.cell? ⟨w.heap.size + 1, 0, none⟩ = some (.int .i64 Y1) := keep_cell hb13 (by first | assumption | (go_simp; done) | (simp; done) | simp [*])
        have zew_heap_size_113 : w.heap.size + 1 < w13.heap.size := block_lt_of_cell cew_heap_size_113_0
        have cew_heap_size_113_1 : w13.cell? ⟨w.heap.size + 1, 1, none⟩ = some (.int .i64 Y2) := keep_cell hb13 (by first | assumption | (go_simp; done) | (simp; done) | simp [*])
        have ceg513_0 : w13.cell? ⟨g5, 0, none⟩ = some (.int .i64 a1) := keep_cell hb13 (by first | assumption | (go_simp; done) | (simp; done) | simp [*])
        have zeg513 : g5 < w13.heap.size := block_lt_of_cell ceg513_0
        have ceg513_1 : w13.cell? ⟨g5, 1, none⟩ = some (.int .i64 a2) := keep_cell hb13 (by first | assumption | (go_simp; done) | (simp; done) | simp [*])
        have cew12_heap_size13_0 : w13.cell? ⟨w12.heap.size, 0, none⟩ = some (.int .i64 u1) := keep_cell hb13 (by first | assumption | (go_simp; done) | (simp; done) | simp [*])
        have zew12_heap_size13 : w12.heap.size < w13.heap.size := block_lt_of_cell cew12_heap_size13_0
        have cew12_heap_size13_1 : w13.cell? ⟨w12.heap.size, 1, none⟩ = some (.int .i64 v1) := keep_cell hb13 (by first | assumption | (go_simp; done) | (simp; done) | simp [*])
        have cew12_heap_size_113_0 : w13.cell? ⟨w12.heap.size + 1, 0, none⟩ = some (.int .i64 0) := keep_cell hb13 (by first | assumption | (go_simp; done) | (simp; done) | simp [*])
        have zew12_heap_size_113 : w12.heap.size + 1 < w13.heap.size := block_lt_of_cell cew12_heap_size_113_0
        have cew12_heap_size_113_1 : w13.cell? ⟨w12.heap.size + 1, 1, none⟩ = some (.int .i64 0) := keep_cell hb13 (by first | assumption | (go_simp; done) | (simp; done) | simp [*])
        have B13 : Below w.heap.size w w13 := bl_call (by repeat (first | exact Below.refl _ _ | exact Nat.le_refl _ | refine Below.alloc ?_ ?_ _ | refine Below.setCell ?_ ?_ _ | refine Below.drew ?_ | refine bl_drewN ?_ _ | (assumption) | refine bl_call ?_ (by assumption) ?_ | omega | (simp <;> omega))) hb13 (by first | assumption | (simp; done) | (simp; omega) | omega)
        clear hb13
        have hsz_13 := B13.size
        clear heq
        rcases hf1 with rfl | rfl
        · rcases hf2 with rfl | rfl
          · skip
            go_wp2_with fail
            refine (awake_any _).mono ?_
            rintro e w14 ⟨rfl, hb14⟩
            have z14_0 : w.heap.size < w14.heap.size := by have := hb14.size; (try simp at this); omega
            have z14_1 : w.heap.size + 1 < w14.heap.size := by have := hb14.size; (try simp at this); omega
            have B14 : Below w.heap.size w w14 := bl_call (by repeat (first | exact Below.refl _ _ | exact Nat.le_refl _ | refine Below.alloc ?_ ?_ _ | refine Below.setCell ?_ ?_ _ | refine Below.drew ?_ | refine bl_drewN ?_ _ | (assumption) | refine bl_call ?_ (by assumption) ?_ | omega | (simp <;> omega))) hb14 (by first | assumption | (simp; done) | (simp; omega) | omega)
            clear hb14
            have hsz_14 := B14.size
            go_wp2_with fail
            go_ret
            exact ⟨rfl, (by repeat (first | exact Below.refl _ _ | exact Nat.le_refl _ | refine Below.alloc ?_ ?_ _ | refine Below.setCell ?_ ?_ _ | refine Below.drew ?_ | refine bl_drewN ?_ _ | (assumption) | refine bl_call ?_ (by assumption) ?_ | omega | (simp <;> omega)))⟩
          · skip
            go_wp2_with fail
            refine (awake_any _).mono ?_
            rintro e w14 ⟨rfl, hb14⟩
            have z14_0 : w.heap.size < w14.heap.size := by have := hb14.size; (try simp at this); omega
            have z14_1 : w.heap.size + 1 < w14.heap.size := by have := hb14.size; (try simp at this); omega
            have B14 : Below w.heap.size w w14 := bl_call (by repeat (first | exact Below.refl _ _ | exact Nat.le_refl _ | refine Below.alloc ?_ ?_ _ | refine Below.setCell ?_ ?_ _ | refine Below.drew ?_ | refine bl_drewN ?_ _ | (assumption) | refine bl_call ?_ (by assumption) ?_ | omega | (simp <;> omega))) hb14 (by first | assumption | (simp; done) | (simp; omega) | omega)
            clear hb14
            have hsz_14 := B14.size
            go_wp2_with fail
            go_ret
            exact ⟨rfl, (by repeat (first | exact Below.refl _ _ | exact Nat.le_refl _ | refine Below.alloc ?_ ?_ _ | refine Below.setCell ?_ ?_ _ | refine Below.drew ?_ | refine bl_drewN ?_ _ | (assumption) | refine bl_call ?_ (by assumption) ?_ | omega | (simp <;> omega)))⟩
        · rcases hf2 with rfl | rfl
          · skip
            go_wp2_with fail
            refine (awake_any _).mono ?_
            rintro e w14 ⟨rfl, hb14⟩
            have z14_0 : w.heap.size < w14.heap.size := by have := hb14.size; (try simp at this); omega
            have z14_1 : w.heap.size + 1 < w14.heap.size := by have := hb14.size; (try simp at this); omega
            have B14 : Below w.heap.size w w14 := bl_call (by repeat (first | exact Below.refl _ _ | exact Nat.le_refl _ | refine Below.alloc ?_ ?_ _ | refine Below.setCell ?_ ?_ _ | refine Below.drew ?_ | refine bl_drewN ?_ _ | (assumption) | refine bl_call ?_ (by assumption) ?_ | omega | (simp <;> omega))) hb14 (by first | assumption | (simp; done) | (simp; omega) | omega)
            clear hb14
            have hsz_14 := B14.size
            go_wp2_with fail
            go_ret
            exact ⟨rfl, (by repeat (first | exact Below.refl _ _ | exact Nat.le_refl _ | refine Below.alloc ?_ ?_ _ | refine Below.setCell ?_ ?_ _ | refine Below.drew ?_ | refine bl_drewN ?_ _ | (assumption) | refine bl_call ?_ (by assumption) ?_ | omega | (simp <;> omega)))⟩
          · skip
            go_wp2_with fail
            refine (awake_any _).mono ?_
            rintro e w14 ⟨rfl, hb14⟩
            have z14_0 : w.heap.size < w14.heap.size := by have := hb14.size; (try simp at this); omega
            have z14_1 : w.heap.size + 1 < w14.heap.size := by have := hb14.size; (try simp at this); omega
            have B14 : Below w.heap.size w w14 := bl_call (by repeat (first | exact Below.refl _ _ | exact Nat.le_refl _ | refine Below.alloc ?_ ?_ _ | refine Below.setCell ?_ ?_ _ | refine Below.drew ?_ | refine bl_drewN ?_ _ | (assumption) | refine bl_call ?_ (by assumption) ?_ | omega | (simp <;> omega))) hb14 (by first | assumption | (simp; done) | (simp; omega) | omega)
            clear hb14
            have hsz_14 := B14.size
            go_wp2_with fail
            go_ret
            exact ⟨rfl, (by repeat (first | exact Below.refl _ _ | exact Nat.le_refl _ | refine Below.alloc ?_ ?_ _ | refine Below.setCell ?_ ?_ _ | refine Below.drew ?_ | refine bl_drewN ?_ _ | (assumption) | refine bl_call ?_ (by assumption) ?_ | omega | (simp <;> omega)))⟩
    · have hi19 := euc_few HE.out hz
      have hNa := HE.out.2.2.1
      have hNb := HE.out.2.2.2
      have hD := fun wx => Divide_yes a1 a2 b1 b2 wx hNa hNb hz
      have hneq := neq_zero b1 b2 hz
      have ca0 := row2_0 R5
      have ca1 := row2_1 R5
      have cb0 := row2_0 R6
      have cb1 := row2_1 R6
      unfold divV at hD
      by_cases hk : (isN (quo a1 a2 b1 b2).1 (quo a1 a2 b1 b2).2 && isN (rem a1 a2 b1 b2).1 (rem a1 a2 b1 b2).2) = true
      · rw [if_pos hk] at hD
        obtain ⟨k1, k2⟩ := Bool.and_eq_true_iff.1 hk
        have hE2 := euc_step HE.out hz k2
        obtain ⟨Q1, q1⟩ : ∃ x, (quo a1 a2 b1 b2).1 = x := ⟨_, rfl⟩
        obtain ⟨Q2, q2⟩ : ∃ x, (quo a1 a2 b1 b2).2 = x := ⟨_, rfl⟩
        obtain ⟨R1, q3⟩ : ∃ x, (rem a1 a2 b1 b2).1 = x := ⟨_, rfl⟩
        obtain ⟨R2, q4⟩ : ∃ x, (rem a1 a2 b1 b2).2 = x := ⟨_, rfl⟩
        rw [q1, q2, q3, q4] at hD
        rw [q3, q4] at hE2 k2
        have hNR := fun wx => refNumber R1 R2 wx
        rw [k2] at hNR
        have HD := Lib.hid hD
        have HE2 := Lib.hid hE2
        have HNR := Lib.hid hNR
        clear hD hE2 hNR hk k1 k2 q1 q2 q3 q4 hz hNa hNb HE
        go_wp2_with fail
        refine (HD.out _).mono ?_
        rintro e w5 ⟨rfl, hb5⟩
        have RX5 := blk_call hb5 RX
        have RY5 := blk_call hb5 RY
        have R55 := blk_call hb5 R5
        have R65 := blk_call hb5 R6
        have B5 := bl_call B hb5 (by omega)
        have y5 := blk_lt R55
        have y6 := blk_lt R65
        clear hb5 RX RY R5 R6 ca0 ca1 cb0 cb1 hneq B HD
        go_upto_region 9 with fail
        obtain ⟨w6, h6⟩ : ∃ w6, w6 = (w5.alloc (.cells #[.int .i64 Q1, .int .i64 Q2] 23)).alloc (.cells #[.int .i64 R1, .int .i64 R2] 23) := ⟨_, rfl⟩
        rw [← h6]
        have RX6 : w6.heap[w.heap.size]? = some (.cells #[.int .i64 X1, .int .i64 X2] 23 (0, 0)) := by rw [h6]; exact (by repeat (first | assumption | (with_reducible apply blk_set2) | (with_reducible apply blk_set1) | (with_reducible refine blk_far2 ?_ ?_; (first | omega | (simp; done) | (simp; omega))) | (with_reducible refine blk_far1 ?_ ?_; (first | omega | (simp; done) | (simp; omega))) | (with_reducible refine blk_new' _ _ ?_; (first | omega | (simp; done) | (simp; omega))) | (with_reducible refine blk_old ?_) | (with_reducible refine blk_drew ?_)))
        have RY6 : w6.heap[w.heap.size + 1]? = some (.cells #[.int .i64 Y1, .int .i64 Y2] 23 (0, 0)) := by rw [h6]; exact (by repeat (first | assumption | (with_reducible apply blk_set2) | (with_reducible apply blk_set1) | (with_reducible refine blk_far2 ?_ ?_; (first | omega | (simp; done) | (simp; omega))) | (with_reducible refine blk_far1 ?_ ?_; (first | omega | (simp; done) | (simp; omega))) | (with_reducible refine blk_new' _ _ ?_; (first | omega | (simp; done) | (simp; omega))) | (with_reducible refine blk_old ?_) | (with_reducible refine blk_drew ?_)))
        have R56 : w6.heap[g5]? = some (.cells #[.int .i64 a1, .int .i64 a2] 23 (0, 0)) := by rw [h6]; exact (by repeat (first | assumption | (with_reducible apply blk_set2) | (with_reducible apply blk_set1) | (with_reducible refine blk_far2 ?_ ?_; (first | omega | (simp; done) | (simp; omega))) | (with_reducible refine blk_far1 ?_ ?_; (first | omega | (simp; done) | (simp; omega))) | (with_reducible refine blk_new' _ _ ?_; (first | omega | (simp; done) | (simp; omega))) | (with_reducible refine blk_old ?_) | (with_reducible refine blk_drew ?_)))
        have R66 : w6.heap[g6]? = some (.cells #[.int .i64 b1, .int .i64 b2] 23 (0, 0)) := by rw [h6]; exact (by repeat (first | assumption | (with_reducible apply blk_set2) | (with_reducible apply blk_set1) | (with_reducible refine blk_far2 ?_ ?_; (first | omega | (simp; done) | (simp; omega))) | (with_reducible refine blk_far1 ?_ ?_; (first | omega | (simp; done) | (simp; omega))) | (with_reducible refine blk_new' _ _ ?_; (first | omega | (simp; done) | (simp; omega))) | (with_reducible refine blk_old ?_) | (with_reducible refine blk_drew ?_)))
        have N6 : w6.heap[w5.heap.size + 1]? = some (.cells #[.int .i64 R1, .int .i64 R2] 23 (0, 0)) := by rw [h6]; exact (by repeat (first | assumption | (with_reducible apply blk_set2) | (with_reducible apply blk_set1) | (with_reducible refine blk_far2 ?_ ?_; (first | omega | (simp; done) | (simp; omega))) | (with_reducible refine blk_far1 ?_ ?_; (first | omega | (simp; done) | (simp; omega))) | (with_reducible refine blk_new' _ _ ?_; (first | omega | (simp; done) | (simp; omega))) | (with_reducible refine blk_old ?_) | (with_reducible refine blk_drew ?_)))
        have B6 : Below w.heap.size w w6 := by rw [h6]; exact (by repeat (first | exact Below.refl _ _ | exact Nat.le_refl _ | refine Below.alloc ?_ ?_ _ | refine Below.setCell ?_ ?_ _ | refine Below.drew ?_ | refine bl_drewN ?_ _ | (assumption) | refine bl_call ?_ (by assumption) ?_ | omega | (simp <;> omega)))
        clear h6 RX5 RY5 R55 R65 B5
        obtain ⟨g9, h9⟩ : ∃ g9, w5.heap.size + 1 = g9 := ⟨_, rfl⟩
        rw [h9] at N6
        rw [h9]
        have h95 : g5 < g9 := by omega
        have h96 : g6 < g9 := by omega
        clear h9 y5 y6
        have cn0 := row2_0 N6
        have cn1 := row2_1 N6
        go_wp2_with fail
        refine (HNR.out _).mono ?_
        rintro e w7 ⟨rfl, hb7⟩
        have y6 := blk_lt N6
        have RX7 := blk_call hb7 RX6
        have RY7 := blk_call hb7 RY6
        have pblk5 := blk_call hb7 R56
        have pblk6 := blk_call hb7 R66
        have N7 := blk_call hb7 N6
        have B7 := bl_call B6 hb7 (by omega)
        have y7 := blk_lt N7
        clear hb7 RX6 RY6 R56 R66 N6 B6 cn0 cn1 HNR
        have cn0 := row2_0 N7
        have cn1 := row2_1 N7
        go_upto_region 11 with fail
        have pblk5 : w7.heap[g5]? = some (.cells #[.int .i64 a1, .int .i64 a2] 23 (0, 0)) := by first | assumption | exact hblk5
        have pblk6 : w7.heap[g6]? = some (.cells #[.int .i64 b1, .int .i64 b2] 23 (0, 0)) := by first | assumption | exact hblk6
        refine with_act fun a0 ha0 => ?_
        refine wp_region_inv (by kernel_rfl) (by kernel_rfl) (fun s a' w' => ∃ v49 v50 : Value, a' = putL a0 [(49, v49), (50, v50)] ∧ Hid ((s 0 = true → v49 = .agg #[.int .i64 b1, .int .i64 b2]) ∧ (s 1 = true → v50 = .agg #[.int .i64 R1, .int .i64 R2]) ∧ True) ∧ BelX [g5, g6] w7 w' ∧ (∃ (c0 c1 : Value), w'.heap[g5]? = some (.cells #[c0, c1] 23 (0, 0)) ∧ (s 2 = true → c0 = .int .i64 b1 ∧ c1 = .int .i64 b2) ∧ (s 2 = false → c0 = .int .i64 a1 ∧ c1 = .int .i64 a2)) ∧ (s 2 = true → s 0 = true ∧ True) ∧ (∃ (c0 c1 : Value), w'.heap[g6]? = some (.cells #[c0, c1] 23 (0, 0)) ∧ (s 3 = true → c0 = .int .i64 R1 ∧ c1 = .int .i64 R2) ∧ (s 3 = false → c0 = .int .i64 b1 ∧ c1 = .int .i64 b2)) ∧ (s 3 = true → s 0 = true ∧ s 1 = true ∧ s 2 = true ∧ True) ∧ True) ?x3hzero ⟨?x3hs0, ?x3hs1, ?x3hs2, ?x3hs3, trivial⟩ ?x3hdone
        case x3hzero =>
          refine ⟨a0.tmps.getD 49 undef, a0.tmps.getD 50 undef, ?_, ?_, ?_, ?_, ?_, ?_, ?_, trivial⟩
          · simp only [putL, put_self]
          · exact Lib.hid ⟨fun h => (by simp at h), fun h => (by simp at h), trivial⟩
          · exact BelX.start _ _
          · exact ⟨.int .i64 a1, .int .i64 a2, pblk5, fun h => (by simp at h), fun _ => ⟨rfl, rfl⟩⟩
          · exact fun h => (by simp at h)
          · exact ⟨.int .i64 b1, .int .i64 b2, pblk6, fun h => (by simp at h), fun _ => ⟨rfl, rfl⟩⟩
          · exact fun h => (by simp at h)
        case x3hs0 =>
          intro s a' w' hsk hdep hI K hK
          try dsimp only at hI hK
          obtain ⟨v49, v50, hact, hR, hX, hP5, hQ5, hP6, hQ6, _⟩ := hI
          subst hact
          have HK := Lib.hid hK
          clear hK
          have kc0 : w'.cell? ⟨g9, 0, none⟩ = some (.int .i64 R1) := hX.cell (by first | (simp; done) | (simp; omega)) (by first | assumption | (go_simp; done) | (simp; done))
          have kc1 : w'.cell? ⟨g9, 1, none⟩ = some (.int .i64 R2) := hX.cell (by first | (simp; done) | (simp; omega)) (by first | assumption | (go_simp; done) | (simp; done))
          obtain ⟨b5_0, b5_1, pb5, pt5, pf5⟩ := hP5
          have hs0 : s 2 = false := Bool.eq_false_iff.2 fun h => (by have := hQ5 h; simp [hsk] at this)
          obtain ⟨q5_0, q5_1⟩ := pf5 hs0
          subst q5_0
          subst q5_1
          clear hs0
          have kp5_0 := cell_of_row w' (g5) 0 _ _ _ pb5
          have kp5_1 := cell_of_row w' (g5) 1 _ _ _ pb5
          simp only [List.getElem?_toArray, List.getElem?_cons_zero, List.getElem?_cons_succ] at kp5_0 kp5_1
          have kq5 : ∀ o, w'.frozen? ⟨g5, o, none⟩ = false := fun o => frozen_of_row w' _ o _ _ pb5
          have hPB5 := Lib.hid pb5
          clear pb5
          have hPT5 := Lib.hid pt5
          clear pt5
          have hPF5 := Lib.hid pf5
          clear pf5
          obtain ⟨b6_0, b6_1, pb6, pt6, pf6⟩ := hP6
          have hs0 : s 3 = false := Bool.eq_false_iff.2 fun h => (by have := hQ6 h; simp [hsk] at this)
          obtain ⟨q6_0, q6_1⟩ := pf6 hs0
          subst q6_0
          subst q6_1
          clear hs0
          have kp6_0 := cell_of_row w' (g6) 0 _ _ _ pb6
          have kp6_1 := cell_of_row w' (g6) 1 _ _ _ pb6
          simp only [List.getElem?_toArray, List.getElem?_cons_zero, List.getElem?_cons_succ] at kp6_0 kp6_1
          have kq6 : ∀ o, w'.frozen? ⟨g6, o, none⟩ = false := fun o => frozen_of_row w' _ o _ _ pb6
          have hPB6 := Lib.hid pb6
          clear pb6
          have hPT6 := Lib.hid pt6
          clear pt6
          have hPF6 := Lib.hid pf6
          clear pf6
          clear hdep
          refine StepG.mk rfl ?_; rw [ha0]; simp only [putL, Act.put, List.setIfInBounds_toArray, List.set_cons_zero, List.set_cons_succ]
          go_wp2_with fail
          refine HK.out _ _ ?_
          refine ⟨(.agg #[.int .i64 b1, .int .i64 b2]), v50, (by rw [ha0]; simp only [putL, Act.put, List.setIfInBounds_toArray, List.set_cons_zero, List.set_cons_succ]), ?_, ?_, ?_, ?_, ?_, ?_, trivial⟩
          · obtain ⟨h49, h50, _⟩ := hR.out
            exact Lib.hid ⟨fun _ => rfl, fun h => h50 (by simpa using h), trivial⟩
          · exact hX
          · exact ⟨_, _, hPB5.out, fun h => hPT5.out (by simpa using h), fun h => ⟨rfl, rfl⟩⟩
          · exact fun h => (by have h1 := hQ5 (by simpa using h); simp [h1])
          · exact ⟨_, _, hPB6.out, fun h => hPT6.out (by simpa using h), fun h => ⟨rfl, rfl⟩⟩
          · exact fun h => (by have h1 := hQ6 (by simpa using h); simp [h1])
        case x3hs1 =>
          intro s a' w' hsk hdep hI K hK
          try dsimp only at hI hK
          obtain ⟨v49, v50, hact, hR, hX, hP5, hQ5, hP6, hQ6, _⟩ := hI
          subst hact
          have HK := Lib.hid hK
          clear hK
          have kc0 : w'.cell? ⟨g9, 0, none⟩ = some (.int .i64 R1) := hX.cell (by first | (simp; done) | (simp; omega)) (by first | assumption | (go_simp; done) | (simp; done))
          have kc1 : w'.cell? ⟨g9, 1, none⟩ = some (.int .i64 R2) := hX.cell (by first | (simp; done) | (simp; omega)) (by first | assumption | (go_simp; done) | (simp; done))
          obtain ⟨b5_0, b5_1, pb5, pt5, pf5⟩ := hP5
          have kp5_0 := cell_of_row w' (g5) 0 _ _ _ pb5
          have kp5_1 := cell_of_row w' (g5) 1 _ _ _ pb5
          simp only [List.getElem?_toArray, List.getElem?_cons_zero, List.getElem?_cons_succ] at kp5_0 kp5_1
          have kq5 : ∀ o, w'.frozen? ⟨g5, o, none⟩ = false := fun o => frozen_of_row w' _ o _ _ pb5
          have hPB5 := Lib.hid pb5
          clear pb5
          have hPT5 := Lib.hid pt5
          clear pt5
          have hPF5 := Lib.hid pf5
          clear pf5
          obtain ⟨b6_0, b6_1, pb6, pt6, pf6⟩ := hP6
          have hs0 : s 3 = false := Bool.eq_false_iff.2 fun h => (by have := hQ6 h; simp [hsk] at this)
          obtain ⟨q6_0, q6_1⟩ := pf6 hs0
          subst q6_0
          subst q6_1
          clear hs0
          have kp6_0 := cell_of_row w' (g6) 0 _ _ _ pb6
          have kp6_1 := cell_of_row w' (g6) 1 _ _ _ pb6
          simp only [List.getElem?_toArray, List.getElem?_cons_zero, List.getElem?_cons_succ] at kp6_0 kp6_1
          have kq6 : ∀ o, w'.frozen? ⟨g6, o, none⟩ = false := fun o => frozen_of_row w' _ o _ _ pb6
          have hPB6 := Lib.hid pb6
          clear pb6
          have hPT6 := Lib.hid pt6
          clear pt6
          have hPF6 := Lib.hid pf6
          clear pf6
          clear hdep
          refine StepG.mk rfl ?_; rw [ha0]; simp only [putL, Act.put, List.setIfInBounds_toArray, List.set_cons_zero, List.set_cons_succ]
          go_wp2_with fail
          refine HK.out _ _ ?_
          refine ⟨v49, (.agg #[.int .i64 R1, .int .i64 R2]), (by rw [ha0]; simp only [putL, Act.put, List.setIfInBounds_toArray, List.set_cons_zero, List.set_cons_succ]), ?_, ?_, ?_, ?_, ?_, ?_, trivial⟩
          · obtain ⟨h49, h50, _⟩ := hR.out
            exact Lib.hid ⟨fun h => h49 (by simpa using h), fun _ => rfl, trivial⟩
          · exact hX
          · exact ⟨_, _, hPB5.out, fun h => hPT5.out (by simpa using h), fun h => (hPF5.out (by simpa using h))⟩
          · exact fun h => (by have h1 := hQ5 (by simpa using h); simp [h1])
          · exact ⟨_, _, hPB6.out, fun h => hPT6.out (by simpa using h), fun h => ⟨rfl, rfl⟩⟩
          · exact fun h => (by have h1 := hQ6 (by simpa using h); simp [h1])
        case x3hs2 =>
          intro s a' w' hsk hdep hI K hK
          try dsimp only at hI hK
          obtain ⟨v49, v50, hact, hR, hX, hP5, hQ5, hP6, hQ6, _⟩ := hI
          subst hact
          have HK := Lib.hid hK
          clear hK
          have e49 : v49 = .agg #[.int .i64 b1, .int .i64 b2] := by obtain ⟨h49, h50, _⟩ := hR.out; exact h49 (hdep ⟨0, .data⟩ (by simp) rfl)
          subst e49
          have kc0 : w'.cell? ⟨g9, 0, none⟩ = some (.int .i64 R1) := hX.cell (by first | (simp; done) | (simp; omega)) (by first | assumption | (go_simp; done) | (simp; done))
          have kc1 : w'.cell? ⟨g9, 1, none⟩ = some (.int .i64 R2) := hX.cell (by first | (simp; done) | (simp; omega)) (by first | assumption | (go_simp; done) | (simp; done))
          obtain ⟨b5_0, b5_1, pb5, pt5, pf5⟩ := hP5
          have hs0 : s 2 = false := hsk
          obtain ⟨q5_0, q5_1⟩ := pf5 hs0
          subst q5_0
          subst q5_1
          clear hs0
          have kp5_0 := cell_of_row w' (g5) 0 _ _ _ pb5
          have kp5_1 := cell_of_row w' (g5) 1 _ _ _ pb5
          simp only [List.getElem?_toArray, List.getElem?_cons_zero, List.getElem?_cons_succ] at kp5_0 kp5_1
          have kq5 : ∀ o, w'.frozen? ⟨g5, o, none⟩ = false := fun o => frozen_of_row w' _ o _ _ pb5
          have hPB5 := Lib.hid pb5
          clear pb5
          have hPT5 := Lib.hid pt5
          clear pt5
          have hPF5 := Lib.hid pf5
          clear pf5
          obtain ⟨b6_0, b6_1, pb6, pt6, pf6⟩ := hP6
          have hs0 : s 3 = false := Bool.eq_false_iff.2 fun h => (by have := hQ6 h; simp [hsk] at this)
          obtain ⟨q6_0, q6_1⟩ := pf6 hs0
          subst q6_0
          subst q6_1
          clear hs0
          have kp6_0 := cell_of_row w' (g6) 0 _ _ _ pb6
          have kp6_1 := cell_of_row w' (g6) 1 _ _ _ pb6
          simp only [List.getElem?_toArray, List.getElem?_cons_zero, List.getElem?_cons_succ] at kp6_0 kp6_1
          have kq6 : ∀ o, w'.frozen? ⟨g6, o, none⟩ = false := fun o => frozen_of_row w' _ o _ _ pb6
          have hPB6 := Lib.hid pb6
          clear pb6
          have hPT6 := Lib.hid pt6
          clear pt6
          have hPF6 := Lib.hid pf6
          clear pf6
          have hd0 : s 0 = true := hdep ⟨0, .data⟩ (by simp) rfl
          clear hdep
          refine StepG.mk rfl ?_; rw [ha0]; simp only [putL, Act.put, List.setIfInBounds_toArray, List.set_cons_zero, List.set_cons_succ]
          go_wp2_with fail
          refine HK.out _ _ ?_
          refine ⟨(.agg #[.int .i64 b1, .int .i64 b2]), v50, (by rw [ha0]; simp only [putL, Act.put, List.setIfInBounds_toArray, List.set_cons_zero, List.set_cons_succ]), ?_, ?_, ?_, ?_, ?_, ?_, trivial⟩
          · obtain ⟨h49, h50, _⟩ := hR.out
            exact Lib.hid ⟨fun _ => rfl, fun h => h50 (by simpa using h), trivial⟩
          · exact ((hX.setOld (p := ⟨g5, 0, none⟩) (by simp) _).setOld (p := ⟨g5, 1, none⟩) (by simp) _)
          · exact ⟨_, _, blk_set2 hPB5.out, fun _ => ⟨rfl, rfl⟩, fun h => (by simp at h)⟩
          · exact fun _ => (by simp [hd0])
          · exact ⟨_, _, blk_far2 (by simp <;> omega) hPB6.out, fun h => hPT6.out (by simpa using h), fun h => ⟨rfl, rfl⟩⟩
          · exact fun h => (by have h1 := hQ6 (by simpa using h); simp [h1])
        case x3hs3 =>
          intro s a' w' hsk hdep hI K hK
          try dsimp only at hI hK
          obtain ⟨v49, v50, hact, hR, hX, hP5, hQ5, hP6, hQ6, _⟩ := hI
          subst hact
          have HK := Lib.hid hK
          clear hK
          have e50 : v50 = .agg #[.int .i64 R1, .int .i64 R2] := by obtain ⟨h49, h50, _⟩ := hR.out; exact h50 (hdep ⟨1, .data⟩ (by simp) rfl)
          subst e50
          have kc0 : w'.cell? ⟨g9, 0, none⟩ = some (.int .i64 R1) := hX.cell (by first | (simp; done) | (simp; omega)) (by first | assumption | (go_simp; done) | (simp; done))
          have kc1 : w'.cell? ⟨g9, 1, none⟩ = some (.int .i64 R2) := hX.cell (by first | (simp; done) | (simp; omega)) (by first | assumption | (go_simp; done) | (simp; done))
          obtain ⟨b5_0, b5_1, pb5, pt5, pf5⟩ := hP5
          have kp5_0 := cell_of_row w' (g5) 0 _ _ _ pb5
          have kp5_1 := cell_of_row w' (g5) 1 _ _ _ pb5
          simp only [List.getElem?_toArray, List.getElem?_cons_zero, List.getElem?_cons_succ] at kp5_0 kp5_1
          have kq5 : ∀ o, w'.frozen? ⟨g5, o, none⟩ = false := fun o => frozen_of_row w' _ o _ _ pb5
          have hPB5 := Lib.hid pb5
          clear pb5
          have hPT5 := Lib.hid pt5
          clear pt5
          have hPF5 := Lib.hid pf5
          clear pf5
          obtain ⟨b6_0, b6_1, pb6, pt6, pf6⟩ := hP6
          have hs0 : s 3 = false := hsk
          obtain ⟨q6_0, q6_1⟩ := pf6 hs0
          subst q6_0
          subst q6_1
          clear hs0
          have kp6_0 := cell_of_row w' (g6) 0 _ _ _ pb6
          have kp6_1 := cell_of_row w' (g6) 1 _ _ _ pb6
          simp only [List.getElem?_toArray, List.getElem?_cons_zero, List.getElem?_cons_succ] at kp6_0 kp6_1
          have kq6 : ∀ o, w'.frozen? ⟨g6, o, none⟩ = false := fun o => frozen_of_row w' _ o _ _ pb6
          have hPB6 := Lib.hid pb6
          clear pb6
          have hPT6 := Lib.hid pt6
          clear pt6
          have hPF6 := Lib.hid pf6
          clear pf6
          have hd0 : s 0 = true := hdep ⟨0, .phase⟩ (by simp) rfl
          have hd1 : s 1 = true := hdep ⟨1, .data⟩ (by simp) rfl
          have hd2 : s 2 = true := hdep ⟨2, .chain⟩ (by simp) rfl
          clear hdep
          refine StepG.mk rfl ?_; rw [ha0]; simp only [putL, Act.put, List.setIfInBounds_toArray, List.set_cons_zero, List.set_cons_succ]
          go_wp2_with fail
          refine HK.out _ _ ?_
          refine ⟨v49, (.agg #[.int .i64 R1, .int .i64 R2]), (by rw [ha0]; simp only [putL, Act.put, List.setIfInBounds_toArray, List.set_cons_zero, List.set_cons_succ]), ?_, ?_, ?_, ?_, ?_, ?_, trivial⟩
          · obtain ⟨h49, h50, _⟩ := hR.out
            exact Lib.hid ⟨fun h => h49 (by simpa using h), fun _ => rfl, trivial⟩
          · exact ((hX.setOld (p := ⟨g6, 0, none⟩) (by simp) _).setOld (p := ⟨g6, 1, none⟩) (by simp) _)
          · exact ⟨_, _, blk_far2 (by simp <;> omega) hPB5.out, fun h => hPT5.out (by simpa using h), fun h => (hPF5.out (by simpa using h))⟩
          · exact fun h => (by have h1 := hQ5 (by simpa using h); simp [h1])
          · exact ⟨_, _, blk_set2 hPB6.out, fun _ => ⟨rfl, rfl⟩, fun h => (by simp at h)⟩
          · exact fun _ => (by simp [hd0, hd1, hd2])
        intro s a' w8 hall hI
        try dsimp only at hI
        obtain ⟨v49, v50, hact, hR, hXR, hP5, hQ5, hP6, hQ6, _⟩ := hI
        subst hact
        obtain ⟨h49, h50, _⟩ := hR.out
        clear hR
        have e49 := h49 (hall 0 (by decide))
        subst e49
        clear h49
        have e50 := h50 (hall 1 (by decide))
        subst e50
        clear h50
        obtain ⟨c0, c1, pblkR5, hpt, _⟩ := hP5
        clear hQ5
        obtain ⟨es0, es1⟩ := hpt (hall 2 (by decide))
        subst es0
        subst es1
        clear hpt
        try clear pblk5
        have pblk5 := pblkR5
        clear pblkR5
        obtain ⟨c0, c1, pblkR6, hpt, _⟩ := hP6
        clear hQ6
        obtain ⟨es0, es1⟩ := hpt (hall 3 (by decide))
        subst es0
        subst es1
        clear hpt
        try clear pblk6
        have pblk6 := pblkR6
        clear pblkR6
        clear hall
        rw [ha0]; simp only [putL, Act.put, List.setIfInBounds_toArray, List.set_cons_zero, List.set_cons_succ]
        clear ha0
        have B8 : Below w.heap.size w w8 := hXR.below (by first | assumption | exact (by repeat (first | exact Below.refl _ _ | exact Nat.le_refl _ | refine Below.alloc ?_ ?_ _ | refine Below.setCell ?_ ?_ _ | refine Below.drew ?_ | refine bl_drewN ?_ _ | (assumption) | refine bl_call ?_ (by assumption) ?_ | omega | (simp <;> omega)))) (by first | omega | (simp <;> omega)) (by simp <;> omega)
        have RX8 := (hXR.block w.heap.size (by omega) (by simp <;> omega)).trans RX7
        have RY8 := (hXR.block (w.heap.size + 1) (by omega) (by simp <;> omega)).trans RY7
        clear hXR
        go_wp2_with fail
        go_roundw
        case rel => exact ⟨i + 1, b1, b2, R1, R2, by simp, by omega, HE2, RX8, RY8, pblk5, pblk6, B8⟩
        case measure => simp [intOf]; omega
      · rw [if_neg hk] at hD
        have HD := Lib.hid hD
        clear hD hz hk hNa hNb HE
        have cx0 := row2_0 RX
        have cx1 := row2_1 RX
        have cy0 := row2_0 RY
        have cy1 := row2_1 RY
        clear RX RY R5 R6
        go_wp2_with fail
        refine (HD.out _).mono ?_
        rintro e w12 ⟨rfl, hb12⟩
        have z12_0 : w.heap.size < w12.heap.size := by have := hb12.size; (try simp at this); omega
        have z12_1 : w.heap.size + 1 < w12.heap.size := by have := hb12.size; (try simp at this); omega
        have cew_heap_size12_0 : w12.cell? ⟨w.heap.size, 0, none⟩ = some (.int .i64 X1) := keep_cell hb12 (by first | assumption | (go_simp; done) | (simp; done) | simp [*])
        have zew_heap_size12 : w.heap.size < w12.heap.size := block_lt_of_cell cew_heap_size12_0
        have cew_heap_size12_1 : w12.cell? ⟨w.heap.size, 1, none⟩ = some (.int .i64 X2) := keep_cell hb12 (by first | assumption | (go_simp; done) | (simp; done) | simp [*])
        have cew_heap_size_112_0 : w12.cell? ⟨w.heap.size + 1, 0, none⟩ = some (.int .i64 Y1) := keep_cell hb12 (by first | assumption | (go_simp; done) | (simp; done) | simp [*])
        have zew_heap_size_112 : w.heap.size + 1 < w12.heap.size := block_lt_of_cell cew_heap_size_112_0
        have cew_heap_size_112_1 : w12.cell? ⟨w.heap.size + 1, 1, none⟩ = some (.int .i64 Y2) := keep_cell hb12 (by first | assumption | (go_simp; done) | (simp; done) | simp [*])
        have ceg512_0 : w12.cell? ⟨g5, 0, none⟩ = some (.int .i64 a1) := keep_cell hb12 (by first | assumption | (go_simp; done) | (simp; done) | simp [*])
        have zeg512 : g5 < w12.heap.size := block_lt_of_cell ceg512_0
        have ceg512_1 : w12.cell? ⟨g5, 1, none⟩ = some (.int .i64 a2) := keep_cell hb12 (by first | assumption | (go_simp; done) | (simp; done) | simp [*])
        have ceg612_0 : w12.cell? ⟨g6, 0, none⟩ = some (.int .i64 b1) := keep_cell hb12 (by first | assumption | (go_simp; done) | (simp; done) | simp [*])
        have zeg612 : g6 < w12.heap.size := block_lt_of_cell ceg612_0
        have ceg612_1 : w12.cell? ⟨g6, 1, none⟩ = some (.int .i64 b2) := keep_cell hb12 (by first | assumption | (go_simp; done) | (simp; done) | simp [*])
        have B12 : Below w.heap.size w w12 := bl_call (by repeat (first | exact Below.refl _ _ | exact Nat.le_refl _ | refine Below.alloc ?_ ?_ _ | refine Below.setCell ?_ ?_ _ | refine Below.drew ?_ | refine bl_drewN ?_ _ | (assumption) | refine bl_call ?_ (by assumption) ?_ | omega | (simp <;> omega))) hb12 (by first | assumption | (simp; done) | (simp; omega) | omega)
        clear hb12
        have hsz_12 := B12.size
        go_wp2_with fail
        refine (awake_any _).mono ?_
        rintro e w13 ⟨rfl, hb13⟩
        have z13_0 : w.heap.size < w13.heap.size := by have := hb13.size; (try simp at this); omega
        have z13_1 : w.heap.size + 1 < w13.heap.size := by have := hb13.size; (try simp at this); omega
        have B13 : Below w.heap.size w w13 := bl_call (by repeat (first | exact Below.refl _ _ | exact Nat.le_refl _ | refine Below.alloc ?_ ?_ _ | refine Below.setCell ?_ ?_ _ | refine Below.drew ?_ | refine bl_drewN ?_ _ | (assumption) | refine bl_call ?_ (by assumption) ?_ | omega | (simp <;> omega))) hb13 (by first | assumption | (simp; done) | (simp; omega) | omega)
        clear hb13
        have hsz_13 := B13.size
        go_wp2_with fail
        go_ret
        exact ⟨rfl, (by repeat (first | exact Below.refl _ _ | exact Nat.le_refl _ | refine Below.alloc ?_ ?_ _ | refine Below.setCell ?_ ?_ _ | refine Below.drew ?_ | refine bl_drewN ?_ _ | (assumption) | refine bl_call ?_ (by assumption) ?_ | omega | (simp <;> omega)))⟩
namespace gaugeEuclid
open Go.ChangeShapes Go.WideShapes Go.ChangeAt Go.RowKit
open Go.Lib Go.Joins
set_option maxRecDepth 100000 in
theorem contract (H : Type) (enc : TypeId × Value → H) (W : World) (base : Nat) (args : Array Value) (ds gs : List (DataW H)) (before : List MemPlace)
    (hval : ∀ (j : Nat) t v, Tryd.f6.params[j]? = some t → args[j]? = some v → Value.okWide Tryd.prog W .any base t v)
    (hW : DataW.Whole enc Tryd.prog Tryd.f6.params.toList Rows.gaugeEuclidSpec.vars false W args.toList ds gs before) :
    Calls Tryd.prog 6 args W fun e W' => ∃ v, e = .returned v ∧ Rows.gaugeEuclidSpec.post enc Tryd.prog Tryd.f6 false true false false W args v W' := by
  have hW' := hW
  obtain ⟨p, q, hA0, hV, rfl, hfz, hnd⟩ := hW
  have hA : DataW.TrodAll enc Tryd.prog W 0 (fun _ => true) true Tryd.f6.params.toList args.toList ds p := hA0
  rw [Tryd.params6] at hA hval
  obtain ⟨v0, vs0, d0, ds0, p0, q0, hargs, rfl, rfl, h0, r0⟩ := trodAll_cons hA
  obtain ⟨v1, vs1, d1, ds1, p1, q1, rfl, rfl, rfl, h1, r1⟩ := trodAll_cons r0
  obtain ⟨rfl, rfl, rfl⟩ := trodAll_nil r1
  obtain rfl : args = #[v0, v1] := by cases args; simp_all
  obtain ⟨rfl, rfl⟩ := trodVars_none hV
  obtain ⟨u0, t0, y0, z0, n0, rfl, rfl, rfl, tu0, tt0⟩ := open_agg2 Tryd.underlying23 (by kernel_rfl) (by kernel_rfl) (hval 0 23 v0 rfl rfl) h0
  obtain ⟨a0, ea0, rfl, wa0⟩ := DataW.trod_int Tryd.underlying3 tu0
  obtain ⟨b0, eb0, rfl, wb0⟩ := DataW.trod_int Tryd.underlying3 tt0
  obtain rfl : u0 = .int .i64 a0 := by simpa using ea0
  obtain rfl : t0 = .int .i64 b0 := by simpa using eb0
  obtain ⟨u1, t1, y1, z1, n1, rfl, rfl, rfl, tu1, tt1⟩ := open_agg2 Tryd.underlying23 (by kernel_rfl) (by kernel_rfl) (hval 1 23 v1 rfl rfl) h1
  obtain ⟨a1, ea1, rfl, wa1⟩ := DataW.trod_int Tryd.underlying3 tu1
  obtain ⟨b1, eb1, rfl, wb1⟩ := DataW.trod_int Tryd.underlying3 tt1
  obtain rfl : u1 = .int .i64 a1 := by simpa using ea1
  obtain rfl : t1 = .int .i64 b1 := by simpa using eb1
  clear hA0
  simp only [List.append_nil] at hW'
  refine (show Calls Tryd.prog 6 _ W _ from (GaugeEuclid_walk a0 b0 a1 b1 W (inI wa0) (inI wb0) (inI wa1) (inI wb1))).mono fun e W' ⟨he, hb⟩ => ?_
  subst he
  exact ⟨_, rfl, _, _, _, [], [], [], hW', trodAll_mk1 (shut_bool Tryd.underlying4 _), trodAll_cons_mk (shut_agg2 (y0 := (.lit (.int .i64 a0), [])) (y1 := (.lit (.int .i64 b0), [])) Tryd.underlying23 (by kernel_rfl) (by kernel_rfl) ⟨1, by simp [DataW.trod, Tryd.underlying3, wa0]⟩ ⟨1, by simp [DataW.trod, Tryd.underlying3, wb0]⟩) (trodAll_cons_mk (shut_agg2 (y0 := (.lit (.int .i64 a1), [])) (y1 := (.lit (.int .i64 b1), [])) Tryd.underlying23 (by kernel_rfl) (by kernel_rfl) ⟨1, by simp [DataW.trod, Tryd.underlying3, wa1]⟩ ⟨1, by simp [DataW.trod, Tryd.underlying3, wb1]⟩) (trodAll_mk0)), rfl, hb.frame _, fun h => by cases h⟩
theorem reads (os : Os) {H : Type} (enc : TypeId × Value → H) : ∃ places, DataW.whole enc Tryd.prog ((laidWorld os).forCall (fun _ _ => 0) ⟨#[], #[.agg #[.int .i64 0, .int .i64 0], .agg #[.int .i64 0, .int .i64 0]], []⟩).memory Tryd.f6.params.toList Rows.gaugeEuclidSpec.vars false (#[.agg #[.int .i64 0, .int .i64 0], .agg #[.int .i64 0, .int .i64 0]] : Array Value).toList 8 = some ([.agg [.lit (.int .i64 0), .lit (.int .i64 0)], .agg [.lit (.int .i64 0), .lit (.int .i64 0)]], [], places) :=
  ⟨[], by kernel_rfl⟩
set_option maxRecDepth 100000 in
theorem lifted (os : Os) (started : os.Started) (H : Type) (enc : TypeId × Value → H) (F : Stop.Interp) :
    ReturnsInHanded {} Tryd.checked os 6 .any ((OpenSpec.ofChange Rows.gaugeEuclidSpec).preRow enc Tryd.prog Tryd.f6 Rows.gaugeEuclidRow.domain false Rows.gaugeEuclidRow.laid) (((OpenSpec.ofChange Rows.gaugeEuclidSpec).at F).post enc Tryd.prog Tryd.f6 false true false false) := by
  obtain ⟨places, hx⟩ := reads os enc
  refine returnsInHanded_of_row (C := Tryd.checked) (s := OpenSpec.ofChange Rows.gaugeEuclidSpec) own started (by kernel_rfl) Tryd.func6
    (witness_row_at (enc := enc) (C := Tryd.checked) false (laidWorld os) #[.agg #[.int .i64 0, .int .i64 0], .agg #[.int .i64 0, .int .i64 0]] rfl (by kernel_rfl) (by kernel_rfl) (by kernel_rfl)
      (OpenSpec.preRow_of_cond 8 hx (by kernel_rfl) (fun k hk => by cases hk) (by kernel_rfl) (laid_met os _))) ?_
  intro W base args ds gs before hval hW _ _ _ _ _ _
  exact contract H enc W base args ds gs before hval hW
theorem said : Rows.GaugeEuclidSaid :=
  OpenClaim.holds_of_cond 6 Tryd.f6 rfl rfl rfl rfl rfl rfl rfl ⟨rfl, rfl, rfl, rfl, rfl⟩ rfl rfl rfl rfl rfl (by kernel_rfl) Tryd.func6 (by kernel_rfl)
    (of_decide_eq_true (by kernel_rfl)) (by unfold Func.isWrapper; first | (rw [if_pos (by decide +kernel)]; kernel_rfl) | (rw [if_neg (by decide +kernel)]; exact ⟨rfl, rfl⟩))
    (fun os started H enc _ F => by rw [OpenClaim.pre_eq_preRow]; exact lifted os started H enc F)
theorem plain (f : FuncId) (fn : Func) (hf : Tryd.pinned.checked.prog.funcNamed "remould/remouldlaw04.GaugeEuclid" = some f) (hfn : Tryd.pinned.checked.prog.funcs[f]? = some fn) :
    true = Tryd.pinned.checked.prog.looks [] ∧ ∀ (j : Nat) t, fn.params[j]? = some t → Tryd.pinned.checked.prog.wantsStandIn t = false := by
  obtain rfl : f = 6 := Option.some.inj ((show Tryd.prog.funcNamed "remould/remouldlaw04.GaugeEuclid" = some 6 by kernel_rfl).symm.trans hf) |>.symm
  obtain rfl : fn = Tryd.f6 := (Option.some.inj (Tryd.func6.symm.trans hfn)).symm
  refine ⟨by kernel_rfl, fun j t ht => ?_⟩
  rw [Tryd.params6] at ht
  have hm : t ∈ [23, 23] := by simpa using Array.mem_of_getElem? ht
  have hall : ([23, 23].all fun u => !Tryd.prog.wantsStandIn u) = true := by kernel_rfl
  exact (show Tryd.prog.wantsStandIn t = false by simpa using List.all_eq_true.1 hall t (by simpa using hm))
theorem card : Rows.GaugeEuclidCardSaid :=
  Claim7.holds_tied_plain_at .later [] _ _ _ _ said (fun _ h => by cases h) (by kernel_rfl) (fun _ h => by cases h) gaugeEuclid_row_tie rfl ⟨rfl, rfl⟩ (by kernel_rfl) rfl plain (by kernel_rfl)
end gaugeEuclid
theorem GaugeEuclid_holds : Rows.GaugeEuclidCardSaid := gaugeEuclid.card
end Go.Proofs.YtgocloilagcfoaaDoor
