/- GaugeNorms: for every two numbers the law returns true. -/
import Derived.Test.YtgocloilagcfoabDoorL1
import Derived.Test.YtgocloilagcfoabDoorL2
import Derived.Test.YtgocloilagcfoabDoorC5
import Derived.Test.YtgocloilagcfoabDoorM4
import Derived.Test.YtgocloilagcfoabDoorF1
namespace Go.Proofs.YtgocloilagcfoabDoor
open Go.RowKit
attribute [local go_sem ↓] Go.wp_at_zero Go.wp_at_succ

theorem mul_bd2 (a b A : Int) (h1 : -A ≤ a) (h2 : a ≤ A) (h3 : -A ≤ b) (h4 : b ≤ A) : -(A * A) ≤ a * b ∧ a * b ≤ A * A := mul_bd h1 h2 h3 h4
set_option maxRecDepth 100000 in
set_option maxHeartbeats 8000000 in
theorem GaugeNorms_walk (a b c d : Int) (w : World) (ha : -9223372036854775808 ≤ a ∧ a ≤ 9223372036854775807) (hb : -9223372036854775808 ≤ b ∧ b ≤ 9223372036854775807) (hc : -9223372036854775808 ≤ c ∧ c ≤ 9223372036854775807) (hd : -9223372036854775808 ≤ d ∧ d ≤ 9223372036854775807) :
    Calls Tryd.prog 10 #[.agg #[.int .i64 a, .int .i64 b], .agg #[.int .i64 c, .int .i64 d]] w fun e w' => e = .returned (.bool true) ∧ Below w.heap.size w w' := by
  have hX := fun wx => tame_any a b 300 wx (by omega) (by omega) ha.1 ha.2 hb.1 hb.2
  have hY := fun wx => tame_any c d 300 wx (by omega) (by omega) hc.1 hc.2 hd.1 hd.2
  have bX1 := modZ_bd a (2 * 300 + 1) (by decide)
  have bX2 := modZ_bd b (2 * 300 + 1) (by decide)
  have bY1 := modZ_bd c (2 * 300 + 1) (by decide)
  have bY2 := modZ_bd d (2 * 300 + 1) (by decide)
  obtain ⟨X1, e1⟩ : ∃ x, modZ a (2 * 300 + 1) - 300 = x := ⟨_, rfl⟩
  obtain ⟨X2, e2⟩ : ∃ x, modZ b (2 * 300 + 1) - 300 = x := ⟨_, rfl⟩
  obtain ⟨Y1, e3⟩ : ∃ x, modZ c (2 * 300 + 1) - 300 = x := ⟨_, rfl⟩
  obtain ⟨Y2, e4⟩ : ∃ x, modZ d (2 * 300 + 1) - 300 = x := ⟨_, rfl⟩
  rw [e1, e2] at hX
  rw [e3, e4] at hY
  have x1 : -300 ≤ X1 ∧ X1 ≤ 300 := by omega
  have x2 : -300 ≤ X2 ∧ X2 ≤ 300 := by omega
  have y1 : -300 ≤ Y1 ∧ Y1 ≤ 300 := by omega
  have y2 : -300 ≤ Y2 ∧ Y2 ≤ 300 := by omega
  clear e1 e2 e3 e4 bX1 bX2 bY1 bY2 ha hb hc hd
  have num : ∀ p q : Int, -1000000 ≤ p → p ≤ 1000000 → -1000000 ≤ q → q ≤ 1000000 → isN p q = true := fun p q h1 h2 h3 h4 => (isN_iff p q).2 ⟨h1, h2, h3, h4⟩
  have sm : ∀ p q : Int, -1000000 ≤ p → p ≤ 1000000 → -1000000 ≤ q → q ≤ 1000000 → smallV p q = .tuple #[.agg #[.int .i64 p, .int .i64 q], .int .i64 0] := fun p q h1 h2 h3 h4 => if_pos (num p q h1 h2 h3 h4)
  -- the products
  obtain ⟨p11, q11⟩ := mul_bd2 X1 Y1 300 x1.1 x1.2 y1.1 y1.2
  obtain ⟨p22, q22⟩ := mul_bd2 X2 Y2 300 x2.1 x2.2 y2.1 y2.2
  obtain ⟨p12, q12⟩ := mul_bd2 X1 Y2 300 x1.1 x1.2 y2.1 y2.2
  obtain ⟨p21, q21⟩ := mul_bd2 X2 Y1 300 x2.1 x2.2 y1.1 y1.2
  obtain ⟨pa, qa⟩ := mul_bd2 X1 X1 300 x1.1 x1.2 x1.1 x1.2
  obtain ⟨pb, qb⟩ := mul_bd2 X1 X2 300 x1.1 x1.2 x2.1 x2.2
  obtain ⟨pc, qc⟩ := mul_bd2 X2 X2 300 x2.1 x2.2 x2.1 x2.2
  obtain ⟨pd, qd⟩ := mul_bd2 Y1 Y1 300 y1.1 y1.2 y1.1 y1.2
  obtain ⟨pe, qe⟩ := mul_bd2 Y1 Y2 300 y1.1 y1.2 y2.1 y2.2
  obtain ⟨pf, qf⟩ := mul_bd2 Y2 Y2 300 y2.1 y2.2 y2.1 y2.2
  simp only [Int.reduceMul, Int.reduceNeg] at p11 q11 p22 q22 p12 q12 p21 q21 pa qa pb qb pc qc pd qd pe qe pf qf
  have hZ := fun wx => Product_yes X1 X2 Y1 Y2 wx (num _ _ (by omega) (by omega) (by omega) (by omega)) (num _ _ (by omega) (by omega) (by omega) (by omega))
  rw [sm _ _ (by omega) (by omega) (by omega) (by omega)] at hZ
  have hN1 := fun wx => Norm_yes X1 X2 wx (num _ _ (by omega) (by omega) (by omega) (by omega))
  have hN2 := fun wx => Norm_yes Y1 Y2 wx (num _ _ (by omega) (by omega) (by omega) (by omega))
  have hN3 := fun wx => Norm_yes (X1 * Y1 + X2 * Y2) (X1 * Y2 + X2 * Y1 + X2 * Y2) wx (num _ _ (by omega) (by omega) (by omega) (by omega))
  have hM1 := fun wx => Mate_yes X1 X2 wx (num _ _ (by omega) (by omega) (by omega) (by omega))
  have hM2 := fun wx => Mate_yes Y1 Y2 wx (num _ _ (by omega) (by omega) (by omega) (by omega))
  have hM3 := fun wx => Mate_yes (X1 * Y1 + X2 * Y2) (X1 * Y2 + X2 * Y1 + X2 * Y2) wx (num _ _ (by omega) (by omega) (by omega) (by omega))
  have hM4 := fun wx => Mate_yes (X1 + X2) (-X2) wx (num _ _ (by omega) (by omega) (by omega) (by omega))
  have hO := fun wx => Product_yes X1 X2 (X1 + X2) (-X2) wx (num _ _ (by omega) (by omega) (by omega) (by omega)) (num _ _ (by omega) (by omega) (by omega) (by omega))
  have hT := fun wx => Product_yes (X1 + X2) (-X2) (Y1 + Y2) (-Y2) wx (num _ _ (by omega) (by omega) (by omega) (by omega)) (num _ _ (by omega) (by omega) (by omega) (by omega))
  have eO1 : X1 * (X1 + X2) + X2 * -X2 = X1 * X1 + X1 * X2 - X2 * X2 := by grind
  have eO2 : X1 * -X2 + X2 * (X1 + X2) + X2 * -X2 = 0 := by grind
  rw [eO1, eO2] at hO
  have eT1 : (X1 + X2) * (Y1 + Y2) + -X2 * -Y2 = (X1 * Y1 + X2 * Y2) + (X1 * Y2 + X2 * Y1 + X2 * Y2) := by grind
  have eT2 : (X1 + X2) * -Y2 + -X2 * (Y1 + Y2) + -X2 * -Y2 = -(X1 * Y2 + X2 * Y1 + X2 * Y2) := by grind
  rw [eT1, eT2] at hT
  have eC : (X1 * X1 + X1 * X2 - X2 * X2) * (Y1 * Y1 + Y1 * Y2 - Y2 * Y2) = (X1 * Y1 + X2 * Y2) * (X1 * Y1 + X2 * Y2) + (X1 * Y1 + X2 * Y2) * (X1 * Y2 + X2 * Y1 + X2 * Y2) - (X1 * Y2 + X2 * Y1 + X2 * Y2) * (X1 * Y2 + X2 * Y1 + X2 * Y2) := by grind
  rw [show X1 + X2 + -X2 = X1 by omega, Int.neg_neg] at hM4
  rw [sm _ _ (by omega) (by omega) (by omega) (by omega)] at hM1 hM2 hM3 hM4 hO hT
  clear eO1 eO2 eT1 eT2 sm num
  obtain ⟨Z1, f1⟩ : ∃ x, X1 * Y1 + X2 * Y2 = x := ⟨_, rfl⟩
  obtain ⟨Z2, f2⟩ : ∃ x, X1 * Y2 + X2 * Y1 + X2 * Y2 = x := ⟨_, rfl⟩
  obtain ⟨A, f3⟩ : ∃ x, X1 * X1 + X1 * X2 - X2 * X2 = x := ⟨_, rfl⟩
  obtain ⟨B, f4⟩ : ∃ x, Y1 * Y1 + Y1 * Y2 - Y2 * Y2 = x := ⟨_, rfl⟩
  rw [f1, f2] at hZ hN3 hM3 hT eC
  rw [f3] at hN1 hO eC
  rw [f4] at hN2 eC
  obtain ⟨C, f5⟩ : ∃ x, Z1 * Z1 + Z1 * Z2 - Z2 * Z2 = x := ⟨_, rfl⟩
  rw [f5] at hN3 eC
  have bA : -300000 ≤ A ∧ A ≤ 300000 := by omega
  have bB : -300000 ≤ B ∧ B ≤ 300000 := by omega
  have bC := mul_bd2 A B 300000 bA.1 bA.2 bB.1 bB.2
  rw [eC] at bC
  simp only [Int.reduceMul, Int.reduceNeg] at bC
  have bZ1 : -200000 ≤ Z1 ∧ Z1 ≤ 200000 := by omega
  have bZ2 : -300000 ≤ Z2 ∧ Z2 ≤ 300000 := by omega
  have gA : ¬ 1073741824 < max A (-A) := by omega
  have gB : ¬ 1073741824 < max B (-B) := by omega
  clear f1 f2 f3 f4 f5 p11 q11 p22 q22 p12 q12 p21 q21 pa qa pb qb pc qc pd qd pe qe pf qf
  have HX := Lib.hid hX
  have HY := Lib.hid hY
  have HZ := Lib.hid hZ
  have HN1 := Lib.hid hN1
  have HN2 := Lib.hid hN2
  have HN3 := Lib.hid hN3
  have HM1 := Lib.hid hM1
  have HM2 := Lib.hid hM2
  have HM3 := Lib.hid hM3
  have HM4 := Lib.hid hM4
  have HO := Lib.hid hO
  have HT := Lib.hid hT
  clear hX hY hZ hN1 hN2 hN3 hM1 hM2 hM3 hM4 hO hT
  go_enter Tryd.func10, Tryd.ntmps10
  go_upto_region 1 with fail
  obtain ⟨w1, hw1⟩ : ∃ wx : World, wx = ((w.alloc (.cells #[.int .i64 a, .int .i64 b] 23)).alloc (.cells #[.int .i64 c, .int .i64 d] 23)) := ⟨_, rfl⟩
  rw [← hw1]
  have q1_0 : w1.heap[w.heap.size]? = some (.cells #[.int .i64 a, .int .i64 b] 23 (0, 0)) := by rw [hw1]; exact blk_old (blk_new _ _)
  have z1_0 : w.heap.size < w1.heap.size := by rw [hw1]; simp <;> omega
  have c1_0_0 : w1.cell? ⟨w.heap.size, 0, none⟩ = some (.int .i64 a) := by rw [hw1]; first | (go_simp; done) | simp
  have c1_0_1 : w1.cell? ⟨w.heap.size, 1, none⟩ = some (.int .i64 b) := by rw [hw1]; first | (go_simp; done) | simp
  have f1_0 : ∀ o, w1.frozen? ⟨w.heap.size, o, none⟩ = false := by intro o; rw [hw1]; first | (go_simp; done) | simp
  have q1_1 : w1.heap[w.heap.size + 1]? = some (.cells #[.int .i64 c, .int .i64 d] 23 (0, 0)) := by rw [hw1]; rw [show w.heap.size + 1 = (w.alloc (.cells #[.int .i64 a, .int .i64 b] 23)).heap.size from by simp]; exact blk_new _ _
  have z1_1 : w.heap.size + 1 < w1.heap.size := by rw [hw1]; simp <;> omega
  have c1_1_0 : w1.cell? ⟨w.heap.size + 1, 0, none⟩ = some (.int .i64 c) := by rw [hw1]; first | (go_simp; done) | simp
  have c1_1_1 : w1.cell? ⟨w.heap.size + 1, 1, none⟩ = some (.int .i64 d) := by rw [hw1]; first | (go_simp; done) | simp
  have f1_1 : ∀ o, w1.frozen? ⟨w.heap.size + 1, o, none⟩ = false := by intro o; rw [hw1]; first | (go_simp; done) | simp
  have B1 : Below w.heap.size w w1 := by rw [hw1]; exact (by repeat (first | exact Below.refl _ _ | exact Nat.le_refl _ | refine Below.alloc ?_ ?_ _ | refine Below.setCell ?_ ?_ _ | refine Below.drew ?_ | refine bl_drewN ?_ _ | (assumption) | refine bl_call ?_ (by assumption) ?_ | omega | (simp <;> omega)))
  clear hw1
  have pblk2 := q1_0
  have pblk3 := q1_1
  have pblk2 : w1.heap[w.heap.size]? = some (.cells #[.int .i64 a, .int .i64 b] 23 (0, 0)) := by first | assumption | exact hblk2
  have pblk3 : w1.heap[w.heap.size + 1]? = some (.cells #[.int .i64 c, .int .i64 d] 23 (0, 0)) := by first | assumption | exact hblk3
  refine with_act fun a0 ha0 => ?_
  refine wp_region_inv (by kernel_rfl) (by kernel_rfl) (fun s a' w' => ∃ v25 v26 v27 v28 : Value, a' = putL a0 [(25, v25), (26, v26), (27, v27), (28, v28)] ∧ Hid ((s 0 = true → v25 = .agg #[.int .i64 a, .int .i64 b]) ∧ (s 1 = true → v26 = .agg #[.int .i64 X1, .int .i64 X2]) ∧ (s 2 = true → v27 = .agg #[.int .i64 c, .int .i64 d]) ∧ (s 3 = true → v28 = .agg #[.int .i64 Y1, .int .i64 Y2]) ∧ True) ∧ BelX [w.heap.size, w.heap.size + 1] w1 w' ∧ (∃ (c0 c1 : Value), w'.heap[w.heap.size]? = some (.cells #[c0, c1] 23 (0, 0)) ∧ (s 4 = true → c0 = .int .i64 X1 ∧ c1 = .int .i64 X2) ∧ (s 4 = false → c0 = .int .i64 a ∧ c1 = .int .i64 b)) ∧ (s 4 = true → s 0 = true ∧ s 1 = true ∧ s 3 = true ∧ True) ∧ (∃ (c0 c1 : Value), w'.heap[w.heap.size + 1]? = some (.cells #[c0, c1] 23 (0, 0)) ∧ (s 5 = true → c0 = .int .i64 Y1 ∧ c1 = .int .i64 Y2) ∧ (s 5 = false → c0 = .int .i64 c ∧ c1 = .int .i64 d)) ∧ (s 5 = true → s 0 = true ∧ s 1 = true ∧ s 2 = true ∧ s 3 = true ∧ s 4 = true ∧ True) ∧ True) ?x1hzero ⟨?x1hs0, ?x1hs1, ?x1hs2, ?x1hs3, ?x1hs4, ?x1hs5, trivial⟩ ?x1hdone
  case x1hzero =>
    refine ⟨a0.tmps.getD 25 undef, a0.tmps.getD 26 undef, a0.tmps.getD 27 undef, a0.tmps.getD 28 undef, ?_, ?_, ?_, ?_, ?_, ?_, ?_, trivial⟩
    · simp only [putL, put_self]
    · exact Lib.hid ⟨fun h => (by simp at h), fun h => (by simp at h), fun h => (by simp at h), fun h => (by simp at h), trivial⟩
    · exact BelX.start _ _
    · exact ⟨.int .i64 a, .int .i64 b, pblk2, fun h => (by simp at h), fun _ => ⟨rfl, rfl⟩⟩
    · exact fun h => (by simp at h)
    · exact ⟨.int .i64 c, .int .i64 d, pblk3, fun h => (by simp at h), fun _ => ⟨rfl, rfl⟩⟩
    · exact fun h => (by simp at h)
  case x1hs0 =>
    intro s a' w' hsk hdep hI K hK
    try dsimp only at hI hK
    obtain ⟨v25, v26, v27, v28, hact, hR, hX, hP2, hQ2, hP3, hQ3, _⟩ := hI
    subst hact
    have HK := Lib.hid hK
    clear hK
    obtain ⟨b2_0, b2_1, pb2, pt2, pf2⟩ := hP2
    have hs0 : s 4 = false := Bool.eq_false_iff.2 fun h => (by have := hQ2 h; simp [hsk] at this)
    obtain ⟨q2_0, q2_1⟩ := pf2 hs0
    subst q2_0
    subst q2_1
    clear hs0
    have kp2_0 := cell_of_row w' (w.heap.size) 0 _ _ _ pb2
    have kp2_1 := cell_of_row w' (w.heap.size) 1 _ _ _ pb2
    simp only [List.getElem?_toArray, List.getElem?_cons_zero, List.getElem?_cons_succ] at kp2_0 kp2_1
    have kq2 : ∀ o, w'.frozen? ⟨w.heap.size, o, none⟩ = false := fun o => frozen_of_row w' _ o _ _ pb2
    have hPB2 := Lib.hid pb2
    clear pb2
    have hPT2 := Lib.hid pt2
    clear pt2
    have hPF2 := Lib.hid pf2
    clear pf2
    obtain ⟨b3_0, b3_1, pb3, pt3, pf3⟩ := hP3
    have hs0 : s 5 = false := Bool.eq_false_iff.2 fun h => (by have := hQ3 h; simp [hsk] at this)
    obtain ⟨q3_0, q3_1⟩ := pf3 hs0
    subst q3_0
    subst q3_1
    clear hs0
    have kp3_0 := cell_of_row w' (w.heap.size + 1) 0 _ _ _ pb3
    have kp3_1 := cell_of_row w' (w.heap.size + 1) 1 _ _ _ pb3
    simp only [List.getElem?_toArray, List.getElem?_cons_zero, List.getElem?_cons_succ] at kp3_0 kp3_1
    have kq3 : ∀ o, w'.frozen? ⟨w.heap.size + 1, o, none⟩ = false := fun o => frozen_of_row w' _ o _ _ pb3
    have hPB3 := Lib.hid pb3
    clear pb3
    have hPT3 := Lib.hid pt3
    clear pt3
    have hPF3 := Lib.hid pf3
    clear pf3
    clear hdep
    refine StepG.mk rfl ?_; rw [ha0]; simp only [putL, Act.put, List.setIfInBounds_toArray, List.set_cons_zero, List.set_cons_succ]
    go_wp2_with fail
    refine HK.out _ _ ?_
    refine ⟨(.agg #[.int .i64 a, .int .i64 b]), v26, v27, v28, (by rw [ha0]; simp only [putL, Act.put, List.setIfInBounds_toArray, List.set_cons_zero, List.set_cons_succ]), ?_, ?_, ?_, ?_, ?_, ?_, trivial⟩
    · obtain ⟨h25, h26, h27, h28, _⟩ := hR.out
      exact Lib.hid ⟨fun _ => rfl, fun h => h26 (by simpa using h), fun h => h27 (by simpa using h), fun h => h28 (by simpa using h), trivial⟩
    · exact hX
    · exact ⟨_, _, hPB2.out, fun h => hPT2.out (by simpa using h), fun h => ⟨rfl, rfl⟩⟩
    · exact fun h => (by have h1 := hQ2 (by simpa using h); simp [h1])
    · exact ⟨_, _, hPB3.out, fun h => hPT3.out (by simpa using h), fun h => ⟨rfl, rfl⟩⟩
    · exact fun h => (by have h1 := hQ3 (by simpa using h); simp [h1])
  case x1hs1 =>
    intro s a' w' hsk hdep hI K hK
    try dsimp only at hI hK
    obtain ⟨v25, v26, v27, v28, hact, hR, hX, hP2, hQ2, hP3, hQ3, _⟩ := hI
    subst hact
    have HK := Lib.hid hK
    clear hK
    have e25 : v25 = .agg #[.int .i64 a, .int .i64 b] := by obtain ⟨h25, h26, h27, h28, _⟩ := hR.out; exact h25 (hdep ⟨0, .data⟩ (by simp) rfl)
    subst e25
    obtain ⟨b2_0, b2_1, pb2, pt2, pf2⟩ := hP2
    have hs0 : s 4 = false := Bool.eq_false_iff.2 fun h => (by have := hQ2 h; simp [hsk] at this)
    obtain ⟨q2_0, q2_1⟩ := pf2 hs0
    subst q2_0
    subst q2_1
    clear hs0
    have kp2_0 := cell_of_row w' (w.heap.size) 0 _ _ _ pb2
    have kp2_1 := cell_of_row w' (w.heap.size) 1 _ _ _ pb2
    simp only [List.getElem?_toArray, List.getElem?_cons_zero, List.getElem?_cons_succ] at kp2_0 kp2_1
    have kq2 : ∀ o, w'.frozen? ⟨w.heap.size, o, none⟩ = false := fun o => frozen_of_row w' _ o _ _ pb2
    have hPB2 := Lib.hid pb2
    clear pb2
    have hPT2 := Lib.hid pt2
    clear pt2
    have hPF2 := Lib.hid pf2
    clear pf2
    obtain ⟨b3_0, b3_1, pb3, pt3, pf3⟩ := hP3
    have hs0 : s 5 = false := Bool.eq_false_iff.2 fun h => (by have := hQ3 h; simp [hsk] at this)
    obtain ⟨q3_0, q3_1⟩ := pf3 hs0
    subst q3_0
    subst q3_1
    clear hs0
    have kp3_0 := cell_of_row w' (w.heap.size + 1) 0 _ _ _ pb3
    have kp3_1 := cell_of_row w' (w.heap.size + 1) 1 _ _ _ pb3
    simp only [List.getElem?_toArray, List.getElem?_cons_zero, List.getElem?_cons_succ] at kp3_0 kp3_1
    have kq3 : ∀ o, w'.frozen? ⟨w.heap.size + 1, o, none⟩ = false := fun o => frozen_of_row w' _ o _ _ pb3
    have hPB3 := Lib.hid pb3
    clear pb3
    have hPT3 := Lib.hid pt3
    clear pt3
    have hPF3 := Lib.hid pf3
    clear pf3
    clear hdep
    refine StepG.mk rfl ?_; rw [ha0]; simp only [putL, Act.put, List.setIfInBounds_toArray, List.set_cons_zero, List.set_cons_succ]
    go_wp2_with fail
    refine ((HX.out _)).mono ?_
    rintro e wn ⟨rfl, hb⟩
    go_wp2_with fail
    refine HK.out _ _ ?_
    refine ⟨(.agg #[.int .i64 a, .int .i64 b]), (.agg #[.int .i64 X1, .int .i64 X2]), v27, v28, (by rw [ha0]; simp only [putL, Act.put, List.setIfInBounds_toArray, List.set_cons_zero, List.set_cons_succ]), ?_, ?_, ?_, ?_, ?_, ?_, trivial⟩
    · obtain ⟨h25, h26, h27, h28, _⟩ := hR.out
      exact Lib.hid ⟨fun _ => rfl, fun _ => rfl, fun h => h27 (by simpa using h), fun h => h28 (by simpa using h), trivial⟩
    · exact hX.call hb
    · exact ⟨_, _, (hb.block _ (blk_lt hPB2.out)).trans hPB2.out, fun h => hPT2.out (by simpa using h), fun h => ⟨rfl, rfl⟩⟩
    · exact fun h => (by have h1 := hQ2 (by simpa using h); simp [h1])
    · exact ⟨_, _, (hb.block _ (blk_lt hPB3.out)).trans hPB3.out, fun h => hPT3.out (by simpa using h), fun h => ⟨rfl, rfl⟩⟩
    · exact fun h => (by have h1 := hQ3 (by simpa using h); simp [h1])
  case x1hs2 =>
    intro s a' w' hsk hdep hI K hK
    try dsimp only at hI hK
    obtain ⟨v25, v26, v27, v28, hact, hR, hX, hP2, hQ2, hP3, hQ3, _⟩ := hI
    subst hact
    have HK := Lib.hid hK
    clear hK
    obtain ⟨b2_0, b2_1, pb2, pt2, pf2⟩ := hP2
    have kp2_0 := cell_of_row w' (w.heap.size) 0 _ _ _ pb2
    have kp2_1 := cell_of_row w' (w.heap.size) 1 _ _ _ pb2
    simp only [List.getElem?_toArray, List.getElem?_cons_zero, List.getElem?_cons_succ] at kp2_0 kp2_1
    have kq2 : ∀ o, w'.frozen? ⟨w.heap.size, o, none⟩ = false := fun o => frozen_of_row w' _ o _ _ pb2
    have hPB2 := Lib.hid pb2
    clear pb2
    have hPT2 := Lib.hid pt2
    clear pt2
    have hPF2 := Lib.hid pf2
    clear pf2
    obtain ⟨b3_0, b3_1, pb3, pt3, pf3⟩ := hP3
    have hs0 : s 5 = false := Bool.eq_false_iff.2 fun h => (by have := hQ3 h; simp [hsk] at this)
    obtain ⟨q3_0, q3_1⟩ := pf3 hs0
    subst q3_0
    subst q3_1
    clear hs0
    have kp3_0 := cell_of_row w' (w.heap.size + 1) 0 _ _ _ pb3
    have kp3_1 := cell_of_row w' (w.heap.size + 1) 1 _ _ _ pb3
    simp only [List.getElem?_toArray, List.getElem?_cons_zero, List.getElem?_cons_succ] at kp3_0 kp3_1
    have kq3 : ∀ o, w'.frozen? ⟨w.heap.size + 1, o, none⟩ = false := fun o => frozen_of_row w' _ o _ _ pb3
    have hPB3 := Lib.hid pb3
    clear pb3
    have hPT3 := Lib.hid pt3
    clear pt3
    have hPF3 := Lib.hid pf3
    clear pf3
    clear hdep
    refine StepG.mk rfl ?_; rw [ha0]; simp only [putL, Act.put, List.setIfInBounds_toArray, List.set_cons_zero, List.set_cons_succ]
    go_wp2_with fail
    refine HK.out _ _ ?_
    refine ⟨v25, v26, (.agg #[.int .i64 c, .int .i64 d]), v28, (by rw [ha0]; simp only [putL, Act.put, List.setIfInBounds_toArray, List.set_cons_zero, List.set_cons_succ]), ?_, ?_, ?_, ?_, ?_, ?_, trivial⟩
    · obtain ⟨h25, h26, h27, h28, _⟩ := hR.out
      exact Lib.hid ⟨fun h => h25 (by simpa using h), fun h => h26 (by simpa using h), fun _ => rfl, fun h => h28 (by simpa using h), trivial⟩
    · exact hX
    · exact ⟨_, _, hPB2.out, fun h => hPT2.out (by simpa using h), fun h => (hPF2.out (by simpa using h))⟩
    · exact fun h => (by have h1 := hQ2 (by simpa using h); simp [h1])
    · exact ⟨_, _, hPB3.out, fun h => hPT3.out (by simpa using h), fun h => ⟨rfl, rfl⟩⟩
    · exact fun h => (by have h1 := hQ3 (by simpa using h); simp [h1])
  case x1hs3 =>
    intro s a' w' hsk hdep hI K hK
    try dsimp only at hI hK
    obtain ⟨v25, v26, v27, v28, hact, hR, hX, hP2, hQ2, hP3, hQ3, _⟩ := hI
    subst hact
    have HK := Lib.hid hK
    clear hK
    have e27 : v27 = .agg #[.int .i64 c, .int .i64 d] := by obtain ⟨h25, h26, h27, h28, _⟩ := hR.out; exact h27 (hdep ⟨2, .data⟩ (by simp) rfl)
    subst e27
    obtain ⟨b2_0, b2_1, pb2, pt2, pf2⟩ := hP2
    have hs0 : s 4 = false := Bool.eq_false_iff.2 fun h => (by have := hQ2 h; simp [hsk] at this)
    obtain ⟨q2_0, q2_1⟩ := pf2 hs0
    subst q2_0
    subst q2_1
    clear hs0
    have kp2_0 := cell_of_row w' (w.heap.size) 0 _ _ _ pb2
    have kp2_1 := cell_of_row w' (w.heap.size) 1 _ _ _ pb2
    simp only [List.getElem?_toArray, List.getElem?_cons_zero, List.getElem?_cons_succ] at kp2_0 kp2_1
    have kq2 : ∀ o, w'.frozen? ⟨w.heap.size, o, none⟩ = false := fun o => frozen_of_row w' _ o _ _ pb2
    have hPB2 := Lib.hid pb2
    clear pb2
    have hPT2 := Lib.hid pt2
    clear pt2
    have hPF2 := Lib.hid pf2
    clear pf2
    obtain ⟨b3_0, b3_1, pb3, pt3, pf3⟩ := hP3
    have hs0 : s 5 = false := Bool.eq_false_iff.2 fun h => (by have := hQ3 h; simp [hsk] at this)
    obtain ⟨q3_0, q3_1⟩ := pf3 hs0
    subst q3_0
    subst q3_1
    clear hs0
    have kp3_0 := cell_of_row w' (w.heap.size + 1) 0 _ _ _ pb3
    have kp3_1 := cell_of_row w' (w.heap.size + 1) 1 _ _ _ pb3
    simp only [List.getElem?_toArray, List.getElem?_cons_zero, List.getElem?_cons_succ] at kp3_0 kp3_1
    have kq3 : ∀ o, w'.frozen? ⟨w.heap.size + 1, o, none⟩ = false := fun o => frozen_of_row w' _ o _ _ pb3
    have hPB3 := Lib.hid pb3
    clear pb3
    have hPT3 := Lib.hid pt3
    clear pt3
    have hPF3 := Lib.hid pf3
    clear pf3
    clear hdep
    refine StepG.mk rfl ?_; rw [ha0]; simp only [putL, Act.put, List.setIfInBounds_toArray, List.set_cons_zero, List.set_cons_succ]
    go_wp2_with fail
    refine ((HY.out _)).mono ?_
    rintro e wn ⟨rfl, hb⟩
    go_wp2_with fail
    refine HK.out _ _ ?_
    refine ⟨v25, v26, (.agg #[.int .i64 c, .int .i64 d]), (.agg #[.int .i64 Y1, .int .i64 Y2]), (by rw [ha0]; simp only [putL, Act.put, List.setIfInBounds_toArray, List.set_cons_zero, List.set_cons_succ]), ?_, ?_, ?_, ?_, ?_, ?_, trivial⟩
    · obtain ⟨h25, h26, h27, h28, _⟩ := hR.out
      exact Lib.hid ⟨fun h => h25 (by simpa using h), fun h => h26 (by simpa using h), fun _ => rfl, fun _ => rfl, trivial⟩
    · exact hX.call hb
    · exact ⟨_, _, (hb.block _ (blk_lt hPB2.out)).trans hPB2.out, fun h => hPT2.out (by simpa using h), fun h => ⟨rfl, rfl⟩⟩
    · exact fun h => (by have h1 := hQ2 (by simpa using h); simp [h1])
    · exact ⟨_, _, (hb.block _ (blk_lt hPB3.out)).trans hPB3.out, fun h => hPT3.out (by simpa using h), fun h => ⟨rfl, rfl⟩⟩
    · exact fun h => (by have h1 := hQ3 (by simpa using h); simp [h1])
  case x1hs4 =>
    intro s a' w' hsk hdep hI K hK
    try dsimp only at hI hK
    obtain ⟨v25, v26, v27, v28, hact, hR, hX, hP2, hQ2, hP3, hQ3, _⟩ := hI
    subst hact
    have HK := Lib.hid hK
    clear hK
    have e26 : v26 = .agg #[.int .i64 X1, .int .i64 X2] := by obtain ⟨h25, h26, h27, h28, _⟩ := hR.out; exact h26 (hdep ⟨1, .data⟩ (by simp) rfl)
    subst e26
    obtain ⟨b2_0, b2_1, pb2, pt2, pf2⟩ := hP2
    have hs0 : s 4 = false := hsk
    obtain ⟨q2_0, q2_1⟩ := pf2 hs0
    subst q2_0
    subst q2_1
    clear hs0
    have kp2_0 := cell_of_row w' (w.heap.size) 0 _ _ _ pb2
    have kp2_1 := cell_of_row w' (w.heap.size) 1 _ _ _ pb2
    simp only [List.getElem?_toArray, List.getElem?_cons_zero, List.getElem?_cons_succ] at kp2_0 kp2_1
    have kq2 : ∀ o, w'.frozen? ⟨w.heap.size, o, none⟩ = false := fun o => frozen_of_row w' _ o _ _ pb2
    have hPB2 := Lib.hid pb2
    clear pb2
    have hPT2 := Lib.hid pt2
    clear pt2
    have hPF2 := Lib.hid pf2
    clear pf2
    obtain ⟨b3_0, b3_1, pb3, pt3, pf3⟩ := hP3
    have hs0 : s 5 = false := Bool.eq_false_iff.2 fun h => (by have := hQ3 h; simp [hsk] at this)
    obtain ⟨q3_0, q3_1⟩ := pf3 hs0
    subst q3_0
    subst q3_1
    clear hs0
    have kp3_0 := cell_of_row w' (w.heap.size + 1) 0 _ _ _ pb3
    have kp3_1 := cell_of_row w' (w.heap.size + 1) 1 _ _ _ pb3
    simp only [List.getElem?_toArray, List.getElem?_cons_zero, List.getElem?_cons_succ] at kp3_0 kp3_1
    have kq3 : ∀ o, w'.frozen? ⟨w.heap.size + 1, o, none⟩ = false := fun o => frozen_of_row w' _ o _ _ pb3
    have hPB3 := Lib.hid pb3
    clear pb3
    have hPT3 := Lib.hid pt3
    clear pt3
    have hPF3 := Lib.hid pf3
    clear pf3
    have hd0 : s 0 = true := hdep ⟨0, .phase⟩ (by simp) rfl
    have hd1 : s 1 = true := hdep ⟨1, .data⟩ (by simp) rfl
    have hd3 : s 3 = true := hdep ⟨3, .chain⟩ (by simp) rfl
    clear hdep
    refine StepG.mk rfl ?_; rw [ha0]; simp only [putL, Act.put, List.setIfInBounds_toArray, List.set_cons_zero, List.set_cons_succ]
    go_wp2_with fail
    refine HK.out _ _ ?_
    refine ⟨v25, (.agg #[.int .i64 X1, .int .i64 X2]), v27, v28, (by rw [ha0]; simp only [putL, Act.put, List.setIfInBounds_toArray, List.set_cons_zero, List.set_cons_succ]), ?_, ?_, ?_, ?_, ?_, ?_, trivial⟩
    · obtain ⟨h25, h26, h27, h28, _⟩ := hR.out
      exact Lib.hid ⟨fun h => h25 (by simpa using h), fun _ => rfl, fun h => h27 (by simpa using h), fun h => h28 (by simpa using h), trivial⟩
    · exact ((hX.setOld (p := ⟨w.heap.size, 0, none⟩) (by simp) _).setOld (p := ⟨w.heap.size, 1, none⟩) (by simp) _)
    · exact ⟨_, _, blk_set2 hPB2.out, fun _ => ⟨rfl, rfl⟩, fun h => (by simp at h)⟩
    · exact fun _ => (by simp [hd0, hd1, hd3])
    · exact ⟨_, _, blk_far2 (by simp <;> omega) hPB3.out, fun h => hPT3.out (by simpa using h), fun h => ⟨rfl, rfl⟩⟩
    · exact fun h => (by have h1 := hQ3 (by simpa using h); simp [h1])
  case x1hs5 =>
    intro s a' w' hsk hdep hI K hK
    try dsimp only at hI hK
    obtain ⟨v25, v26, v27, v28, hact, hR, hX, hP2, hQ2, hP3, hQ3, _⟩ := hI
    subst hact
    have HK := Lib.hid hK
    clear hK
    have e28 : v28 = .agg #[.int .i64 Y1, .int .i64 Y2] := by obtain ⟨h25, h26, h27, h28, _⟩ := hR.out; exact h28 (hdep ⟨3, .data⟩ (by simp) rfl)
    subst e28
    obtain ⟨b2_0, b2_1, pb2, pt2, pf2⟩ := hP2
    have kp2_0 := cell_of_row w' (w.heap.size) 0 _ _ _ pb2
    have kp2_1 := cell_of_row w' (w.heap.size) 1 _ _ _ pb2
    simp only [List.getElem?_toArray, List.getElem?_cons_zero, List.getElem?_cons_succ] at kp2_0 kp2_1
    have kq2 : ∀ o, w'.frozen? ⟨w.heap.size, o, none⟩ = false := fun o => frozen_of_row w' _ o _ _ pb2
    have hPB2 := Lib.hid pb2
    clear pb2
    have hPT2 := Lib.hid pt2
    clear pt2
    have hPF2 := Lib.hid pf2
    clear pf2
    obtain ⟨b3_0, b3_1, pb3, pt3, pf3⟩ := hP3
    have hs0 : s 5 = false := hsk
    obtain ⟨q3_0, q3_1⟩ := pf3 hs0
    subst q3_0
    subst q3_1
    clear hs0
    have kp3_0 := cell_of_row w' (w.heap.size + 1) 0 _ _ _ pb3
    have kp3_1 := cell_of_row w' (w.heap.size + 1) 1 _ _ _ pb3
    simp only [List.getElem?_toArray, List.getElem?_cons_zero, List.getElem?_cons_succ] at kp3_0 kp3_1
    have kq3 : ∀ o, w'.frozen? ⟨w.heap.size + 1, o, none⟩ = false := fun o => frozen_of_row w' _ o _ _ pb3
    have hPB3 := Lib.hid pb3
    clear pb3
    have hPT3 := Lib.hid pt3
    clear pt3
    have hPF3 := Lib.hid pf3
    clear pf3
    have hd0 : s 0 = true := hdep ⟨0, .phase⟩ (by simp) rfl
    have hd1 : s 1 = true := hdep ⟨1, .phase⟩ (by simp) rfl
    have hd2 : s 2 = true := hdep ⟨2, .phase⟩ (by simp) rfl
    have hd3 : s 3 = true := hdep ⟨3, .data⟩ (by simp) rfl
    have hd4 : s 4 = true := hdep ⟨4, .chain⟩ (by simp) rfl
    clear hdep
    refine StepG.mk rfl ?_; rw [ha0]; simp only [putL, Act.put, List.setIfInBounds_toArray, List.set_cons_zero, List.set_cons_succ]
    go_wp2_with fail
    refine HK.out _ _ ?_
    refine ⟨v25, v26, v27, (.agg #[.int .i64 Y1, .int .i64 Y2]), (by rw [ha0]; simp only [putL, Act.put, List.setIfInBounds_toArray, List.set_cons_zero, List.set_cons_succ]), ?_, ?_, ?_, ?_, ?_, ?_, trivial⟩
    · obtain ⟨h25, h26, h27, h28, _⟩ := hR.out
      exact Lib.hid ⟨fun h => h25 (by simpa using h), fun h => h26 (by simpa using h), fun h => h27 (by simpa using h), fun _ => rfl, trivial⟩
    · exact ((hX.setOld (p := ⟨w.heap.size + 1, 0, none⟩) (by simp) _).setOld (p := ⟨w.heap.size + 1, 1, none⟩) (by simp) _)
    · exact ⟨_, _, blk_far2 (by simp <;> omega) hPB2.out, fun h => hPT2.out (by simpa using h), fun h => (hPF2.out (by simpa using h))⟩
    · exact fun h => (by have h1 := hQ2 (by simpa using h); simp [h1])
    · exact ⟨_, _, blk_set2 hPB3.out, fun _ => ⟨rfl, rfl⟩, fun h => (by simp at h)⟩
    · exact fun _ => (by simp [hd0, hd1, hd2, hd3, hd4])
  intro s a' w2 hall hI
  try dsimp only at hI
  obtain ⟨v25, v26, v27, v28, hact, hR, hXR, hP2, hQ2, hP3, hQ3, _⟩ := hI
  subst hact
  obtain ⟨h25, h26, h27, h28, _⟩ := hR.out
  clear hR
  have e25 := h25 (hall 0 (by decide))
  subst e25
  clear h25
  have e26 := h26 (hall 1 (by decide))
  subst e26
  clear h26
  have e27 := h27 (hall 2 (by decide))
  subst e27
  clear h27
  have e28 := h28 (hall 3 (by decide))
  subst e28
  clear h28
  obtain ⟨c0, c1, pblkR2, hpt, _⟩ := hP2
  clear hQ2
  obtain ⟨es0, es1⟩ := hpt (hall 4 (by decide))
  subst es0
  subst es1
  clear hpt
  try clear pblk2
  have pblk2 := pblkR2
  clear pblkR2
  obtain ⟨c0, c1, pblkR3, hpt, _⟩ := hP3
  clear hQ3
  obtain ⟨es0, es1⟩ := hpt (hall 5 (by decide))
  subst es0
  subst es1
  clear hpt
  try clear pblk3
  have pblk3 := pblkR3
  clear pblkR3
  clear hall
  rw [ha0]; simp only [putL, Act.put, List.setIfInBounds_toArray, List.set_cons_zero, List.set_cons_succ]
  clear ha0
  have B2 : Below w.heap.size w w2 := hXR.below (by first | assumption | exact (by repeat (first | exact Below.refl _ _ | exact Nat.le_refl _ | refine Below.alloc ?_ ?_ _ | refine Below.setCell ?_ ?_ _ | refine Below.drew ?_ | refine bl_drewN ?_ _ | (assumption) | refine bl_call ?_ (by assumption) ?_ | omega | (simp <;> omega)))) (by first | omega | (simp <;> omega)) (by simp <;> omega)
  have ce1_0 := row2_0 pblk2
  have ce1_1 := row2_1 pblk2
  have ce2_0 := row2_0 pblk3
  have ce2_1 := row2_1 pblk3
  clear hXR
  have hsz_2 := B2.size
  have zz2 := blk_lt pblk3
  go_wp2_with fail
  refine (HZ.out _).mono ?_
  rintro e w3 ⟨rfl, hb3⟩
  have z3_0 : w.heap.size < w3.heap.size := by have := hb3.size; (try simp at this); omega
  have z3_1 : w.heap.size + 1 < w3.heap.size := by have := hb3.size; (try simp at this); omega
  have cew_heap_size3_0 : w3.cell? ⟨w.heap.size, 0, none⟩ = some (.int .i64 X1) := keep_cell hb3 (by first | assumption | (go_simp; done) | (simp; done) | simp [*])
  have zew_heap_size3 : w.heap.size < w3.heap.size := block_lt_of_cell cew_heap_size3_0
  have cew_heap_size3_1 : w3.cell? ⟨w.heap.size, 1, none⟩ = some (.int .i64 X2) := keep_cell hb3 (by first | assumption | (go_simp; done) | (simp; done) | simp [*])
  have cew_heap_size_13_0 : w3.cell? ⟨w.heap.size + 1, 0, none⟩ = some (.int .i64 Y1) := keep_cell hb3 (by first | assumption | (go_simp; done) | (simp; done) | simp [*])
  have zew_heap_size_13 : w.heap.size + 1 < w3.heap.size := block_lt_of_cell cew_heap_size_13_0
  have cew_heap_size_13_1 : w3.cell? ⟨w.heap.size + 1, 1, none⟩ = some (.int .i64 Y2) := keep_cell hb3 (by first | assumption | (go_simp; done) | (simp; done) | simp [*])
  have B3 : Below w.heap.size w w3 := bl_call (by repeat (first | exact Below.refl _ _ | exact Nat.le_refl _ | refine Below.alloc ?_ ?_ _ | refine Below.setCell ?_ ?_ _ | refine Below.drew ?_ | refine bl_drewN ?_ _ | (assumption) | refine bl_call ?_ (by assumption) ?_ | omega | (simp <;> omega))) hb3 (by first | assumption | (simp; done) | (simp; omega) | omega)
  clear hb3
  have hsz_3 := B3.size
  go_wp2_with fail
  refine (HN1.out _).mono ?_
  rintro e w4 ⟨rfl, hb4⟩
  have z4_0 : w.heap.size < w4.heap.size := by have := hb4.size; (try simp at this); omega
  have z4_1 : w.heap.size + 1 < w4.heap.size := by have := hb4.size; (try simp at this); omega
  have cew_heap_size4_0 : w4.cell? ⟨w.heap.size, 0, none⟩ = some (.int .i64 X1) := keep_cell hb4 (by first | assumption | (go_simp; done) | (simp; done) | simp [*])
  have zew_heap_size4 : w.heap.size < w4.heap.size := block_lt_of_cell cew_heap_size4_0
  have cew_heap_size4_1 : w4.cell? ⟨w.heap.size, 1, none⟩ = some (.int .i64 X2) := keep_cell hb4 (by first | assumption | (go_simp; done) | (simp; done) | simp [*])
  have cew_heap_size_14_0 : w4.cell? ⟨w.heap.size + 1, 0, none⟩ = some (.int .i64 Y1) := keep_cell hb4 (by first | assumption | (go_simp; done) | (simp; done) | simp [*])
  have zew_heap_size_14 : w.heap.size + 1 < w4.heap.size := block_lt_of_cell cew_heap_size_14_0
  have cew_heap_size_14_1 : w4.cell? ⟨w.heap.size + 1, 1, none⟩ = some (.int .i64 Y2) := keep_cell hb4 (by first | assumption | (go_simp; done) | (simp; done) | simp [*])
  have cew3_heap_size4_0 : w4.cell? ⟨w3.heap.size, 0, none⟩ = some (.int .i64 Z1) := keep_cell hb4 (by first | assumption | (go_simp; done) | (simp; done) | simp [*])
  have zew3_heap_size4 : w3.heap.size < w4.heap.size := block_lt_of_cell cew3_heap_size4_0
  have cew3_heap_size4_1 : w4.cell? ⟨w3.heap.size, 1, none⟩ = some (.int .i64 Z2) := keep_cell hb4 (by first | assumption | (go_simp; done) | (simp; done) | simp [*])
  have B4 : Below w.heap.size w w4 := bl_call (by repeat (first | exact Below.refl _ _ | exact Nat.le_refl _ | refine Below.alloc ?_ ?_ _ | refine Below.setCell ?_ ?_ _ | refine Below.drew ?_ | refine bl_drewN ?_ _ | (assumption) | refine bl_call ?_ (by assumption) ?_ | omega | (simp <;> omega))) hb4 (by first | assumption | (simp; done) | (simp; omega) | omega)
  clear hb4
  have hsz_4 := B4.size
  go_wp2_with fail
  refine (HN2.out _).mono ?_
  rintro e w5 ⟨rfl, hb5⟩
  have z5_0 : w.heap.size < w5.heap.size := by have := hb5.size; (try simp at this); omega
  have z5_1 : w.heap.size + 1 < w5.heap.size := by have := hb5.size; (try simp at this); omega
  have cew_heap_size5_0 : w5.cell? ⟨w.heap.size, 0, none⟩ = some (.int .i64 X1) := keep_cell hb5 (by first | assumption | (go_simp; done) | (simp; done) | simp [*])
  have zew_heap_size5 : w.heap.size < w5.heap.size := block_lt_of_cell cew_heap_size5_0
  have cew_heap_size5_1 : w5.cell? ⟨w.heap.size, 1, none⟩ = some (.int .i64 X2) := keep_cell hb5 (by first | assumption | (go_simp; done) | (simp; done) | simp [*])
  have cew_heap_size_15_0 : w5.cell? ⟨w.heap.size + 1, 0, none⟩ = some (.int .i64 Y1) := keep_cell hb5 (by first | assumption | (go_simp; done) | (simp; done) | simp [*])
  have zew_heap_size_15 : w.heap.size + 1 < w5.heap.size := block_lt_of_cell cew_heap_size_15_0
  have cew_heap_size_15_1 : w5.cell? ⟨w.heap.size + 1, 1, none⟩ = some (.int .i64 Y2) := keep_cell hb5 (by first | assumption | (go_simp; done) | (simp; done) | simp [*])
  have cew3_heap_size5_0 : w5.cell? ⟨w3.heap.size, 0, none⟩ = some (.int .i64 Z1) := keep_cell hb5 (by first | assumption | (go_simp; done) | (simp; done) | simp [*])
  have zew3_heap_size5 : w3.heap.size < w5.heap.size := block_lt_of_cell cew3_heap_size5_0
  have cew3_heap_size5_1 : w5.cell? ⟨w3.heap.size, 1, none⟩ = some (.int .i64 Z2) := keep_cell hb5 (by first | assumption | (go_simp; done) | (simp; done) | simp [*])
  have B5 : Below w.heap.size w w5 := bl_call (by repeat (first | exact Below.refl _ _ | exact Nat.le_refl _ | refine Below.alloc ?_ ?_ _ | refine Below.setCell ?_ ?_ _ | refine Below.drew ?_ | refine bl_drewN ?_ _ | (assumption) | refine bl_call ?_ (by assumption) ?_ | omega | (simp <;> omega))) hb5 (by first | assumption | (simp; done) | (simp; omega) | omega)
  clear hb5
  have hsz_5 := B5.size
  go_wp2_with fail
  refine (HN3.out _).mono ?_
  rintro e w6 ⟨rfl, hb6⟩
  have z6_0 : w.heap.size < w6.heap.size := by have := hb6.size; (try simp at this); omega
  have z6_1 : w.heap.size + 1 < w6.heap.size := by have := hb6.size; (try simp at this); omega
  have cew_heap_size6_0 : w6.cell? ⟨w.heap.size, 0, none⟩ = some (.int .i64 X1) := keep_cell hb6 (by first | assumption | (go_simp; done) | (simp; done) | simp [*])
  have zew_heap_size6 : w.heap.size < w6.heap.size := block_lt_of_cell cew_heap_size6_0
  have cew_heap_size6_1 : w6.cell? ⟨w.heap.size, 1, none⟩ = some (.int .i64 X2) := keep_cell hb6 (by first | assumption | (go_simp; done) | (simp; done) | simp [*])
  have cew_heap_size_16_0 : w6.cell? ⟨w.heap.size + 1, 0, none⟩ = some (.int .i64 Y1) := keep_cell hb6 (by first | assumption | (go_simp; done) | (simp; done) | simp [*])
  have zew_heap_size_16 : w.heap.size + 1 < w6.heap.size := block_lt_of_cell cew_heap_size_16_0
  have cew_heap_size_16_1 : w6.cell? ⟨w.heap.size + 1, 1, none⟩ = some (.int .i64 Y2) := keep_cell hb6 (by first | assumption | (go_simp; done) | (simp; done) | simp [*])
  have cew3_heap_size6_0 : w6.cell? ⟨w3.heap.size, 0, none⟩ = some (.int .i64 Z1) := keep_cell hb6 (by first | assumption | (go_simp; done) | (simp; done) | simp [*])
  have zew3_heap_size6 : w3.heap.size < w6.heap.size := block_lt_of_cell cew3_heap_size6_0
  have cew3_heap_size6_1 : w6.cell? ⟨w3.heap.size, 1, none⟩ = some (.int .i64 Z2) := keep_cell hb6 (by first | assumption | (go_simp; done) | (simp; done) | simp [*])
  have B6 : Below w.heap.size w w6 := bl_call (by repeat (first | exact Below.refl _ _ | exact Nat.le_refl _ | refine Below.alloc ?_ ?_ _ | refine Below.setCell ?_ ?_ _ | refine Below.drew ?_ | refine bl_drewN ?_ _ | (assumption) | refine bl_call ?_ (by assumption) ?_ | omega | (simp <;> omega))) hb6 (by first | assumption | (simp; done) | (simp; omega) | omega)
  clear hb6
  have hsz_6 := B6.size
  go_wp2_with fail
  refine (HM1.out _).mono ?_
  rintro e w7 ⟨rfl, hb7⟩
  have z7_0 : w.heap.size < w7.heap.size := by have := hb7.size; (try simp at this); omega
  have z7_1 : w.heap.size + 1 < w7.heap.size := by have := hb7.size; (try simp at this); omega
  have cew_heap_size7_0 : w7.cell? ⟨w.heap.size, 0, none⟩ = some (.int .i64 X1) := keep_cell hb7 (by first | assumption | (go_simp; done) | (simp; done) | simp [*])
  have zew_heap_size7 : w.heap.size < w7.heap.size := block_lt_of_cell cew_heap_size7_0
  have cew_heap_size7_1 : w7.cell? ⟨w.heap.size, 1, none⟩ = some (.int .i64 X2) := keep_cell hb7 (by first | assumption | (go_simp; done) | (simp; done) | simp [*])
  have cew_heap_size_17_0 : w7.cell? ⟨w.heap.size + 1, 0, none⟩ = some (.int .i64 Y1) := keep_cell hb7 (by first | assumption | (go_simp; done) | (simp; done) | simp [*])
  have zew_heap_size_17 : w.heap.size + 1 < w7.heap.size := block_lt_of_cell cew_heap_size_17_0
  have cew_heap_size_17_1 : w7.cell? ⟨w.heap.size + 1, 1, none⟩ = some (.int .i64 Y2) := keep_cell hb7 (by first | assumption | (go_simp; done) | (simp; done) | simp [*])
  have cew3_heap_size7_0 : w7.cell? ⟨w3.heap.size, 0, none⟩ = some (.int .i64 Z1) := keep_cell hb7 (by first | assumption | (go_simp; done) | (simp; done) | simp [*])
  have zew3_heap_size7 : w3.heap.size < w7.heap.size := block_lt_of_cell cew3_heap_size7_0
  have cew3_heap_size7_1 : w7.cell? ⟨w3.heap.size, 1, none⟩ = some (.int .i64 Z2) := keep_cell hb7 (by first | assumption | (go_simp; done) | (simp; done) | simp [*])
  have B7 : Below w.heap.size w w7 := bl_call (by repeat (first | exact Below.refl _ _ | exact Nat.le_refl _ | refine Below.alloc ?_ ?_ _ | refine Below.setCell ?_ ?_ _ | refine Below.drew ?_ | refine bl_drewN ?_ _ | (assumption) | refine bl_call ?_ (by assumption) ?_ | omega | (simp <;> omega))) hb7 (by first | assumption | (simp; done) | (simp; omega) | omega)
  clear hb7
  have hsz_7 := B7.size
  go_wp2_with fail
  refine (HM2.out _).mono ?_
  rintro e w8 ⟨rfl, hb8⟩
  have z8_0 : w.heap.size < w8.heap.size := by have := hb8.size; (try simp at this); omega
  have z8_1 : w.heap.size + 1 < w8.heap.size := by have := hb8.size; (try simp at this); omega
  have cew_heap_size8_0 : w8.cell? ⟨w.heap.size, 0, none⟩ = some (.int .i64 X1) := keep_cell hb8 (by first | assumption | (go_simp; done) | (simp; done) | simp [*])
  have zew_heap_size8 : w.heap.size < w8.heap.size := block_lt_of_cell cew_heap_size8_0
  have cew_heap_size8_1 : w8.cell? ⟨w.heap.size, 1, none⟩ = some (.int .i64 X2) := keep_cell hb8 (by first | assumption | (go_simp; done) | (simp; done) | simp [*])
  have cew_heap_size_18_0 : w8.cell? ⟨w.heap.size + 1, 0, none⟩ = some (.int .i64 Y1) := keep_cell hb8 (by first | assumption | (go_simp; done) | (simp; done) | simp [*])
  have zew_heap_size_18 : w.heap.size + 1 < w8.heap.size := block_lt_of_cell cew_heap_size_18_0
  have cew_heap_size_18_1 : w8.cell? ⟨w.heap.size + 1, 1, none⟩ = some (.int .i64 Y2) := keep_cell hb8 (by first | assumption | (go_simp; done) | (simp; done) | simp [*])
  have cew3_heap_size8_0 : w8.cell? ⟨w3.heap.size, 0, none⟩ = some (.int .i64 Z1) := keep_cell hb8 (by first | assumption | (go_simp; done) | (simp; done) | simp [*])
  have zew3_heap_size8 : w3.heap.size < w8.heap.size := block_lt_of_cell cew3_heap_size8_0
  have cew3_heap_size8_1 : w8.cell? ⟨w3.heap.size, 1, none⟩ = some (.int .i64 Z2) := keep_cell hb8 (by first | assumption | (go_simp; done) | (simp; done) | simp [*])
  have cew7_heap_size8_0 : w8.cell? ⟨w7.heap.size, 0, none⟩ = some (.int .i64 (X1 + X2)) := keep_cell hb8 (by first | assumption | (go_simp; done) | (simp; done) | simp [*])
  have zew7_heap_size8 : w7.heap.size < w8.heap.size := block_lt_of_cell cew7_heap_size8_0
  have cew7_heap_size8_1 : w8.cell? ⟨w7.heap.size, 1, none⟩ = some (.int .i64 (-X2)) := keep_cell hb8 (by first | assumption | (go_simp; done) | (simp; done) | simp [*])
  have B8 : Below w.heap.size w w8 := bl_call (by repeat (first | exact Below.refl _ _ | exact Nat.le_refl _ | refine Below.alloc ?_ ?_ _ | refine Below.setCell ?_ ?_ _ | refine Below.drew ?_ | refine bl_drewN ?_ _ | (assumption) | refine bl_call ?_ (by assumption) ?_ | omega | (simp <;> omega))) hb8 (by first | assumption | (simp; done) | (simp; omega) | omega)
  clear hb8
  have hsz_8 := B8.size
  go_wp2_with fail
  refine (HM4.out _).mono ?_
  rintro e w9 ⟨rfl, hb9⟩
  have z9_0 : w.heap.size < w9.heap.size := by have := hb9.size; (try simp at this); omega
  have z9_1 : w.heap.size + 1 < w9.heap.size := by have := hb9.size; (try simp at this); omega
  have cew_heap_size9_0 : w9.cell? ⟨w.heap.size, 0, none⟩ = some (.int .i64 X1) := keep_cell hb9 (by first | assumption | (go_simp; done) | (simp; done) | simp [*])
  have zew_heap_size9 : w.heap.size < w9.heap.size := block_lt_of_cell cew_heap_size9_0
  have cew_heap_size9_1 : w9.cell? ⟨w.heap.size, 1, none⟩ = some (.int .i64 X2) := keep_cell hb9 (by first | assumption | (go_simp; done) | (simp; done) | simp [*])
  have cew_heap_size_19_0 : w9.cell? ⟨w.heap.size + 1, 0, none⟩ = some (.int .i64 Y1) := keep_cell hb9 (by first | assumption | (go_simp; done) | (simp; done) | simp [*])
  have zew_heap_size_19 : w.heap.size + 1 < w9.heap.size := block_lt_of_cell cew_heap_size_19_0
  have cew_heap_size_19_1 : w9.cell? ⟨w.heap.size + 1, 1, none⟩ = some (.int .i64 Y2) := keep_cell hb9 (by first | assumption | (go_simp; done) | (simp; done) | simp [*])
  have cew3_heap_size9_0 : w9.cell? ⟨w3.heap.size, 0, none⟩ = some (.int .i64 Z1) := keep_cell hb9 (by first | assumption | (go_simp; done) | (simp; done) | simp [*])
  have zew3_heap_size9 : w3.heap.size < w9.heap.size := block_lt_of_cell cew3_heap_size9_0
  have cew3_heap_size9_1 : w9.cell? ⟨w3.heap.size, 1, none⟩ = some (.int .i64 Z2) := keep_cell hb9 (by first | assumption | (go_simp; done) | (simp; done) | simp [*])
  have cew7_heap_size9_0 : w9.cell? ⟨w7.heap.size, 0, none⟩ = some (.int .i64 (X1 + X2)) := keep_cell hb9 (by first | assumption | (go_simp; done) | (simp; done) | simp [*])
  have zew7_heap_size9 : w7.heap.size < w9.heap.size := block_lt_of_cell cew7_heap_size9_0
  have cew7_heap_size9_1 : w9.cell? ⟨w7.heap.size, 1, none⟩ = some (.int .i64 (-X2)) := keep_cell hb9 (by first | assumption | (go_simp; done) | (simp; done) | simp [*])
  have cew8_heap_size9_0 : w9.cell? ⟨w8.heap.size, 0, none⟩ = some (.int .i64 (Y1 + Y2)) := keep_cell hb9 (by first | assumption | (go_simp; done) | (simp; done) | simp [*])
  have zew8_heap_size9 : w8.heap.size < w9.heap.size := block_lt_of_cell cew8_heap_size9_0
  have cew8_heap_size9_1 : w9.cell? ⟨w8.heap.size, 1, none⟩ = some (.int .i64 (-Y2)) := keep_cell hb9 (by first | assumption | (go_simp; done) | (simp; done) | simp [*])
  have B9 : Below w.heap.size w w9 := bl_call (by repeat (first | exact Below.refl _ _ | exact Nat.le_refl _ | refine Below.alloc ?_ ?_ _ | refine Below.setCell ?_ ?_ _ | refine Below.drew ?_ | refine bl_drewN ?_ _ | (assumption) | refine bl_call ?_ (by assumption) ?_ | omega | (simp <;> omega))) hb9 (by first | assumption | (simp; done) | (simp; omega) | omega)
  clear hb9
  have hsz_9 := B9.size
  go_wp2_with fail
  refine (HO.out _).mono ?_
  rintro e w10 ⟨rfl, hb10⟩
  have z10_0 : w.heap.size < w10.heap.size := by have := hb10.size; (try simp at this); omega
  have z10_1 : w.heap.size + 1 < w10.heap.size := by have := hb10.size; (try simp at this); omega
  have cew_heap_size10_0 : w10.cell? ⟨w.heap.size, 0, none⟩ = some (.int .i64 X1) := keep_cell hb10 (by first | assumption | (go_simp; done) | (simp; done) | simp [*])
  have zew_heap_size10 : w.heap.size < w10.heap.size := block_lt_of_cell cew_heap_size10_0
  have cew_heap_size10_1 : w10.cell? ⟨w.heap.size, 1, none⟩ = some (.int .i64 X2) := keep_cell hb10 (by first | assumption | (go_simp; done) | (simp; done) | simp [*])
  have cew_heap_size_110_0 : w10.cell? ⟨w.heap.size + 1, 0, none⟩ = some (.int .i64 Y1) := keep_cell hb10 (by first | assumption | (go_simp; done) | (simp; done) | simp [*])
  have zew_heap_size_110 : w.heap.size + 1 < w10.heap.size := block_lt_of_cell cew_heap_size_110_0
  have cew_heap_size_110_1 : w10.cell? ⟨w.heap.size + 1, 1, none⟩ = some (.int .i64 Y2) := keep_cell hb10 (by first | assumption | (go_simp; done) | (simp; done) | simp [*])
  have cew3_heap_size10_0 : w10.cell? ⟨w3.heap.size, 0, none⟩ = some (.int .i64 Z1) := keep_cell hb10 (by first | assumption | (go_simp; done) | (simp; done) | simp [*])
  have zew3_heap_size10 : w3.heap.size < w10.heap.size := block_lt_of_cell cew3_heap_size10_0
  have cew3_heap_size10_1 : w10.cell? ⟨w3.heap.size, 1, none⟩ = some (.int .i64 Z2) := keep_cell hb10 (by first | assumption | (go_simp; done) | (simp; done) | simp [*])
  have cew7_heap_size10_0 : w10.cell? ⟨w7.heap.size, 0, none⟩ = some (.int .i64 (X1 + X2)) := keep_cell hb10 (by first | assumption | (go_simp; done) | (simp; done) | simp [*])
  have zew7_heap_size10 : w7.heap.size < w10.heap.size := block_lt_of_cell cew7_heap_size10_0
  have cew7_heap_size10_1 : w10.cell? ⟨w7.heap.size, 1, none⟩ = some (.int .i64 (-X2)) := keep_cell hb10 (by first | assumption | (go_simp; done) | (simp; done) | simp [*])
  have cew8_heap_size10_0 : w10.cell? ⟨w8.heap.size, 0, none⟩ = some (.int .i64 (Y1 + Y2)) := keep_cell hb10 (by first | assumption | (go_simp; done) | (simp; done) | simp [*])
  have zew8_heap_size10 : w8.heap.size < w10.heap.size := block_lt_of_cell cew8_heap_size10_0
  have cew8_heap_size10_1 : w10.cell? ⟨w8.heap.size, 1, none⟩ = some (.int .i64 (-Y2)) := keep_cell hb10 (by first | assumption | (go_simp; done) | (simp; done) | simp [*])
  have cew9_heap_size10_0 : w10.cell? ⟨w9.heap.size, 0, none⟩ = some (.int .i64 X1) := keep_cell hb10 (by first | assumption | (go_simp; done) | (simp; done) | simp [*])
  have zew9_heap_size10 : w9.heap.size < w10.heap.size := block_lt_of_cell cew9_heap_size10_0
  have cew9_heap_size10_1 : w10.cell? ⟨w9.heap.size, 1, none⟩ = some (.int .i64 X2) := keep_cell hb10 (by first | assumption | (go_simp; done) | (simp; done) | simp [*])
  have B10 : Below w.heap.size w w10 := bl_call (by repeat (first | exact Below.refl _ _ | exact Nat.le_refl _ | refine Below.alloc ?_ ?_ _ | refine Below.setCell ?_ ?_ _ | refine Below.drew ?_ | refine bl_drewN ?_ _ | (assumption) | refine bl_call ?_ (by assumption) ?_ | omega | (simp <;> omega))) hb10 (by first | assumption | (simp; done) | (simp; omega) | omega)
  clear hb10
  have hsz_10 := B10.size
  go_wp2_with fail
  refine (HT.out _).mono ?_
  rintro e w11 ⟨rfl, hb11⟩
  have z11_0 : w.heap.size < w11.heap.size := by have := hb11.size; (try simp at this); omega
  have z11_1 : w.heap.size + 1 < w11.heap.size := by have := hb11.size; (try simp at this); omega
  have cew_heap_size11_0 : w11.cell? ⟨w.heap.size, 0, none⟩ = some (.int .i64 X1) := keep_cell hb11 (by first | assumption | (go_simp; done) | (simp; done) | simp [*])
  have zew_heap_size11 : w.heap.size < w11.heap.size := block_lt_of_cell cew_heap_size11_0
  have cew_heap_size11_1 : w11.cell? ⟨w.heap.size, 1, none⟩ = some (.int .i64 X2) := keep_cell hb11 (by first | assumption | (go_simp; done) | (simp; done) | simp [*])
  have cew_heap_size_111_0 : w11.cell? ⟨w.heap.size + 1, 0, none⟩ = some (.int .i64 Y1) := keep_cell hb11 (by first | assumption | (go_simp; done) | (simp; done) | simp [*])
  have zew_heap_size_111 : w.heap.size + 1 < w11.heap.size := block_lt_of_cell cew_heap_size_111_0
  have cew_heap_size_111_1 : w11.cell? ⟨w.heap.size + 1, 1, none⟩ = some (.int .i64 Y2) := keep_cell hb11 (by first | assumption | (go_simp; done) | (simp; done) | simp [*])
  have cew3_heap_size11_0 : w11.cell? ⟨w3.heap.size, 0, none⟩ = some (.int .i64 Z1) := keep_cell hb11 (by first | assumption | (go_simp; done) | (simp; done) | simp [*])
  have zew3_heap_size11 : w3.heap.size < w11.heap.size := block_lt_of_cell cew3_heap_size11_0
  have cew3_heap_size11_1 : w11.cell? ⟨w3.heap.size, 1, none⟩ = some (.int .i64 Z2) := keep_cell hb11 (by first | assumption | (go_simp; done) | (simp; done) | simp [*])
  have cew7_heap_size11_0 : w11.cell? ⟨w7.heap.size, 0, none⟩ = some (.int .i64 (X1 + X2)) := keep_cell hb11 (by first | assumption | (go_simp; done) | (simp; done) | simp [*])
  have zew7_heap_size11 : w7.heap.size < w11.heap.size := block_lt_of_cell cew7_heap_size11_0
  have cew7_heap_size11_1 : w11.cell? ⟨w7.heap.size, 1, none⟩ = some (.int .i64 (-X2)) := keep_cell hb11 (by first | assumption | (go_simp; done) | (simp; done) | simp [*])
  have cew8_heap_size11_0 : w11.cell? ⟨w8.heap.size, 0, none⟩ = some (.int .i64 (Y1 + Y2)) := keep_cell hb11 (by first | assumption | (go_simp; done) | (simp; done) | simp [*])
  have zew8_heap_size11 : w8.heap.size < w11.heap.size := block_lt_of_cell cew8_heap_size11_0
  have cew8_heap_size11_1 : w11.cell? ⟨w8.heap.size, 1, none⟩ = some (.int .i64 (-Y2)) := keep_cell hb11 (by first | assumption | (go_simp; done) | (simp; done) | simp [*])
  have cew9_heap_size11_0 : w11.cell? ⟨w9.heap.size, 0, none⟩ = some (.int .i64 X1) := keep_cell hb11 (by first | assumption | (go_simp; done) | (simp; done) | simp [*])
  have zew9_heap_size11 : w9.heap.size < w11.heap.size := block_lt_of_cell cew9_heap_size11_0
  have cew9_heap_size11_1 : w11.cell? ⟨w9.heap.size, 1, none⟩ = some (.int .i64 X2) := keep_cell hb11 (by first | assumption | (go_simp; done) | (simp; done) | simp [*])
  have cew10_heap_size11_0 : w11.cell? ⟨w10.heap.size, 0, none⟩ = some (.int .i64 A) := keep_cell hb11 (by first | assumption | (go_simp; done) | (simp; done) | simp [*])
  have zew10_heap_size11 : w10.heap.size < w11.heap.size := block_lt_of_cell cew10_heap_size11_0
  have cew10_heap_size11_1 : w11.cell? ⟨w10.heap.size, 1, none⟩ = some (.int .i64 0) := keep_cell hb11 (by first | assumption | (go_simp; done) | (simp; done) | simp [*])
  have B11 : Below w.heap.size w w11 := bl_call (by repeat (first | exact Below.refl _ _ | exact Nat.le_refl _ | refine Below.alloc ?_ ?_ _ | refine Below.setCell ?_ ?_ _ | refine Below.drew ?_ | refine bl_drewN ?_ _ | (assumption) | refine bl_call ?_ (by assumption) ?_ | omega | (simp <;> omega))) hb11 (by first | assumption | (simp; done) | (simp; omega) | omega)
  clear hb11
  have hsz_11 := B11.size
  go_wp2_with fail
  refine (HM3.out _).mono ?_
  rintro e w12 ⟨rfl, hb12⟩
  have z12_0 : w.heap.size < w12.heap.size := by have := hb12.size; (try simp at this); omega
  have z12_1 : w.heap.size + 1 < w12.heap.size := by have := hb12.size; (try simp at this); omega
  have cew_heap_size12_0 : w12.cell? ⟨w.heap.size, 0, none⟩ = some (.int .i64 X1) := keep_cell hb12 (by first | assumption | (go_simp; done) | (simp; done) | simp [*])
  have zew_heap_size12 : w.heap.size < w12.heap.size := block_lt_of_cell cew_heap_size12_0
  have cew_heap_size12_1 : w12.cell? ⟨w.heap.size, 1, none⟩ = some (.int .i64 X2) := keep_cell hb12 (by first | assumption | (go_simp; done) | (simp; done) | simp [*])
  have cew_heap_size_112_0 : w12.cell? ⟨w.heap.size + 1, 0, none⟩ = some (.int .i64 Y1) := keep_cell hb12 (by first | assumption | (go_simp; done) | (simp; done) | simp [*])
  have zew_heap_size_112 : w.heap.size + 1 < w12.heap.size := block_lt_of_cell cew_heap_size_112_0
  have cew_heap_size_112_1 : w12.cell? ⟨w.heap.size + 1, 1, none⟩ = some (.int .i64 Y2) := keep_cell hb12 (by first | assumption | (go_simp; done) | (simp; done) | simp [*])
  have cew3_heap_size12_0 : w12.cell? ⟨w3.heap.size, 0, none⟩ = some (.int .i64 Z1) := keep_cell hb12 (by first | assumption | (go_simp; done) | (simp; done) | simp [*])
  have zew3_heap_size12 : w3.heap.size < w12.heap.size := block_lt_of_cell cew3_heap_size12_0
  have cew3_heap_size12_1 : w12.cell? ⟨w3.heap.size, 1, none⟩ = some (.int .i64 Z2) := keep_cell hb12 (by first | assumption | (go_simp; done) | (simp; done) | simp [*])
  have cew7_heap_size12_0 : w12.cell? ⟨w7.heap.size, 0, none⟩ = some (.int .i64 (X1 + X2)) := keep_cell hb12 (by first | assumption | (go_simp; done) | (simp; done) | simp [*])
  have zew7_heap_size12 : w7.heap.size < w12.heap.size := block_lt_of_cell cew7_heap_size12_0
  have cew7_heap_size12_1 : w12.cell? ⟨w7.heap.size, 1, none⟩ = some (.int .i64 (-X2)) := keep_cell hb12 (by first | assumption | (go_simp; done) | (simp; done) | simp [*])
  have cew8_heap_size12_0 : w12.cell? ⟨w8.heap.size, 0, none⟩ = some (.int .i64 (Y1 + Y2)) := keep_cell hb12 (by first | assumption | (go_simp; done) | (simp; done) | simp [*])
  have zew8_heap_size12 : w8.heap.size < w12.heap.size := block_lt_of_cell cew8_heap_size12_0
  have cew8_heap_size12_1 : w12.cell? ⟨w8.heap.size, 1, none⟩ = some (.int .i64 (-Y2)) := keep_cell hb12 (by first | assumption | (go_simp; done) | (simp; done) | simp [*])
  have cew9_heap_size12_0 : w12.cell? ⟨w9.heap.size, 0, none⟩ = some (.int .i64 X1) := keep_cell hb12 (by first | assumption | (go_simp; done) | (simp; done) | simp [*])
  have zew9_heap_size12 : w9.heap.size < w12.heap.size := block_lt_of_cell cew9_heap_size12_0
  have cew9_heap_size12_1 : w12.cell? ⟨w9.heap.size, 1, none⟩ = some (.int .i64 X2) := keep_cell hb12 (by first | assumption | (go_simp; done) | (simp; done) | simp [*])
  have cew10_heap_size12_0 : w12.cell? ⟨w10.heap.size, 0, none⟩ = some (.int .i64 A) := keep_cell hb12 (by first | assumption | (go_simp; done) | (simp; done) | simp [*])
  have zew10_heap_size12 : w10.heap.size < w12.heap.size := block_lt_of_cell cew10_heap_size12_0
  have cew10_heap_size12_1 : w12.cell? ⟨w10.heap.size, 1, none⟩ = some (.int .i64 0) := keep_cell hb12 (by first | assumption | (go_simp; done) | (simp; done) | simp [*])
  have cew11_heap_size12_0 : w12.cell? ⟨w11.heap.size, 0, none⟩ = some (.int .i64 (Z1 + Z2)) := keep_cell hb12 (by first | assumption | (go_simp; done) | (simp; done) | simp [*])
  have zew11_heap_size12 : w11.heap.size < w12.heap.size := block_lt_of_cell cew11_heap_size12_0
  have cew11_heap_size12_1 : w12.cell? ⟨w11.heap.size, 1, none⟩ = some (.int .i64 (-Z2)) := keep_cell hb12 (by first | assumption | (go_simp; done) | (simp; done) | simp [*])
  have B12 : Below w.heap.size w w12 := bl_call (by repeat (first | exact Below.refl _ _ | exact Nat.le_refl _ | refine Below.alloc ?_ ?_ _ | refine Below.setCell ?_ ?_ _ | refine Below.drew ?_ | refine bl_drewN ?_ _ | (assumption) | refine bl_call ?_ (by assumption) ?_ | omega | (simp <;> omega))) hb12 (by first | assumption | (simp; done) | (simp; omega) | omega)
  clear hb12
  have hsz_12 := B12.size
  go_wp2_with fail
  refine (awake_any _).mono ?_
  rintro e w13 ⟨rfl, hb13⟩
  have z13_0 : w.heap.size < w13.heap.size := by have := hb13.size; (try simp at this); omega
  have z13_1 : w.heap.size + 1 < w13.heap.size := by have := hb13.size; (try simp at this); omega
  have cew_heap_size13_0 : w13.cell? ⟨w.heap.size, 0, none⟩ = some (.int .i64 X1) := keep_cell hb13 (by first | assumption | (go_simp; done) | (simp; done) | simp [*])
  have zew_heap_size13 : w.heap.size < w13.heap.size := block_lt_of_cell cew_heap_size13_0
  have cew_heap_size13_1 : w13.cell? ⟨w.heap.size, 1, none⟩ = some (.int .i64 X2) := keep_cell hb13 (by first | assumption | (go_simp; done) | (simp; done) | simp [*])
  have cew_heap_size_113_0 : w13.cell? ⟨w.heap.size + 1, 0, none⟩ = some (.int .i64 Y1) := keep_cell hb13 (by first | assumption | (go_simp; done) | (simp; done) | simp [*])
  have zew_heap_size_113 : w.heap.size + 1 < w13.heap.size := block_lt_of_cell cew_heap_size_113_0
  have cew_heap_size_113_1 : w13.cell? ⟨w.heap.size + 1, 1, none⟩ = some (.int .i64 Y2) := keep_cell hb13 (by first | assumption | (go_simp; done) | (simp; done) | simp [*])
  have cew3_heap_size13_0 : w13.cell? ⟨w3.heap.size, 0, none⟩ = some (.int .i64 Z1) := keep_cell hb13 (by first | assumption | (go_simp; done) | (simp; done) | simp [*])
  have zew3_heap_size13 : w3.heap.size < w13.heap.size := block_lt_of_cell cew3_heap_size13_0
  have cew3_heap_size13_1 : w13.cell? ⟨w3.heap.size, 1, none⟩ = some (.int .i64 Z2) := keep_cell hb13 (by first | assumption | (go_simp; done) | (simp; done) | simp [*])
  have cew7_heap_size13_0 : w13.cell? ⟨w7.heap.size, 0, none⟩ = some (.int .i64 (X1 + X2)) := keep_cell hb13 (by first | assumption | (go_simp; done) | (simp; done) | simp [*])
  have zew7_heap_size13 : w7.heap.size < w13.heap.size := block_lt_of_cell cew7_heap_size13_0
  have cew7_heap_size13_1 : w13.cell? ⟨w7.heap.size, 1, none⟩ = some (.int .i64 (-X2)) := keep_cell hb13 (by first | assumption | (go_simp; done) | (simp; done) | simp [*])
  have cew8_heap_size13_0 : w13.cell? ⟨w8.heap.size, 0, none⟩ = some (.int .i64 (Y1 + Y2)) := keep_cell hb13 (by first | assumption | (go_simp; done) | (simp; done) | simp [*])
  have zew8_heap_size13 : w8.heap.size < w13.heap.size := block_lt_of_cell cew8_heap_size13_0
  have cew8_heap_size13_1 : w13.cell? ⟨w8.heap.size, 1, none⟩ = some (.int .i64 (-Y2)) := keep_cell hb13 (by first | assumption | (go_simp; done) | (simp; done) | simp [*])
  have cew9_heap_size13_0 : w13.cell? ⟨w9.heap.size, 0, none⟩ = some (.int .i64 X1) := keep_cell hb13 (by first | assumption | (go_simp; done) | (simp; done) | simp [*])
  have zew9_heap_size13 : w9.heap.size < w13.heap.size := block_lt_of_cell cew9_heap_size13_0
  have cew9_heap_size13_1 : w13.cell? ⟨w9.heap.size, 1, none⟩ = some (.int .i64 X2) := keep_cell hb13 (by first | assumption | (go_simp; done) | (simp; done) | simp [*])
  have cew10_heap_size13_0 : w13.cell? ⟨w10.heap.size, 0, none⟩ = some (.int .i64 A) := keep_cell hb13 (by first | assumption | (go_simp; done) | (simp; done) | simp [*])
  have zew10_heap_size13 : w10.heap.size < w13.heap.size := block_lt_of_cell cew10_heap_size13_0
  have cew10_heap_size13_1 : w13.cell? ⟨w10.heap.size, 1, none⟩ = some (.int .i64 0) := keep_cell hb13 (by first | assumption | (go_simp; done) | (simp; done) | simp [*])
  have cew11_heap_size13_0 : w13.cell? ⟨w11.heap.size, 0, none⟩ = some (.int .i64 (Z1 + Z2)) := keep_cell hb13 (by first | assumption | (go_simp; done) | (simp; done) | simp [*])
  have zew11_heap_size13 : w11.heap.size < w13.heap.size := block_lt_of_cell cew11_heap_size13_0
  have cew11_heap_size13_1 : w13.cell? ⟨w11.heap.size, 1, none⟩ = some (.int .i64 (-Z2)) := keep_cell hb13 (by first | assumption | (go_simp; done) | (simp; done) | simp [*])
  have cew12_heap_size13_0 : w13.cell? ⟨w12.heap.size, 0, none⟩ = some (.int .i64 (Z1 + Z2)) := keep_cell hb13 (by first | assumption | (go_simp; done) | (simp; done) | simp [*])
  have zew12_heap_size13 : w12.heap.size < w13.heap.size := block_lt_of_cell cew12_heap_size13_0
  have cew12_heap_size13_1 : w13.cell? ⟨w12.heap.size, 1, none⟩ = some (.int .i64 (-Z2)) := keep_cell hb13 (by first | assumption | (go_simp; done) | (simp; done) | simp [*])
  have B13 : Below w.heap.size w w13 := bl_call (by repeat (first | exact Below.refl _ _ | exact Nat.le_refl _ | refine Below.alloc ?_ ?_ _ | refine Below.setCell ?_ ?_ _ | refine Below.drew ?_ | refine bl_drewN ?_ _ | (assumption) | refine bl_call ?_ (by assumption) ?_ | omega | (simp <;> omega))) hb13 (by first | assumption | (simp; done) | (simp; omega) | omega)
  clear hb13
  have hsz_13 := B13.size
  go_wp2_with fail
  go_ret
  exact ⟨rfl, (by repeat (first | exact Below.refl _ _ | exact Nat.le_refl _ | refine Below.alloc ?_ ?_ _ | refine Below.setCell ?_ ?_ _ | refine Below.drew ?_ | refine bl_drewN ?_ _ | (assumption) | refine bl_call ?_ (by assumption) ?_ | omega | (simp <;> omega)))⟩
namespace gaugeNorms
open Go.ChangeShapes Go.WideShapes Go.ChangeAt Go.RowKit
open Go.Lib Go.Joins
set_option maxRecDepth 100000 in
theorem contract (H : Type) (enc : TypeId × Value → H) (W : World) (base : Nat) (args : Array Value) (ds gs : List (DataW H)) (before : List MemPlace)
    (hval : ∀ (j : Nat) t v, Tryd.f10.params[j]? = some t → args[j]? = some v → Value.okWide Tryd.prog W .any base t v)
    (hW : DataW.Whole enc Tryd.prog Tryd.f10.params.toList Rows.gaugeNormsSpec.vars false W args.toList ds gs before) :
    Calls Tryd.prog 10 args W fun e W' => ∃ v, e = .returned v ∧ Rows.gaugeNormsSpec.post enc Tryd.prog Tryd.f10 false true false false W args v W' := by
  have hW' := hW
  obtain ⟨p, q, hA0, hV, rfl, hfz, hnd⟩ := hW
  have hA : DataW.TrodAll enc Tryd.prog W 0 (fun _ => true) true Tryd.f10.params.toList args.toList ds p := hA0
  rw [Tryd.params10] at hA hval
  obtain ⟨v0, vs0, d0, ds0, p0, q0, hargs, rfl, rfl, h0, r0⟩ := trodAll_cons hA
  obtain ⟨v1, vs1, d1, ds1, p1, q1, rfl, rfl, rfl, h1, r1⟩ := trodAll_cons r0
  obtain ⟨rfl, rfl, rfl⟩ := trodAll_nil r1
  obtain rfl : args = #[v0, v1] := by cases args; simp_all
  obtain ⟨rfl, rfl⟩ := trodVars_none hV
  obtain ⟨u0, t0, y0, z0, n0, rfl, rfl, rfl, tu0, tt0⟩ := open_agg2 Tryd.underlying23 (by kernel_rfl) (by kernel_rfl) (hval 0 23 v0 rfl rfl) h0
  obtain ⟨a0, ea0, rfl, wa0⟩ := DataW.trod_int Tryd.underlying3 tu0
  obtain ⟨b0, eb0, rfl, wb0⟩ := DataW.trod_int Tryd.underlying3 tt0
  obtain rfl : u0 = .int .i64 a0 := by simpa using ea0
  obtain rfl : t0 = .int .i64 b0 := by simpa using eb0
  obtain ⟨u1, t1, y1, z1, n1, rfl, rfl, rfl, tu1, tt1⟩ := open_agg2 Tryd.underlying23 (by kernel_rfl) (by kernel_rfl) (hval 1 23 v1 rfl rfl) h1
  obtain ⟨a1, ea1, rfl, wa1⟩ := DataW.trod_int Tryd.underlying3 tu1
  obtain ⟨b1, eb1, rfl, wb1⟩ := DataW.trod_int Tryd.underlying3 tt1
  obtain rfl : u1 = .int .i64 a1 := by simpa using ea1
  obtain rfl : t1 = .int .i64 b1 := by simpa using eb1
  clear hA0
  simp only [List.append_nil] at hW'
  refine (show Calls Tryd.prog 10 _ W _ from (GaugeNorms_walk a0 b0 a1 b1 W (inI wa0) (inI wb0) (inI wa1) (inI wb1))).mono fun e W' ⟨he, hb⟩ => ?_
  subst he
  exact ⟨_, rfl, _, _, _, [], [], [], hW', trodAll_mk1 (shut_bool Tryd.underlying4 _), trodAll_cons_mk (shut_agg2 (y0 := (.lit (.int .i64 a0), [])) (y1 := (.lit (.int .i64 b0), [])) Tryd.underlying23 (by kernel_rfl) (by kernel_rfl) ⟨1, by simp [DataW.trod, Tryd.underlying3, wa0]⟩ ⟨1, by simp [DataW.trod, Tryd.underlying3, wb0]⟩) (trodAll_cons_mk (shut_agg2 (y0 := (.lit (.int .i64 a1), [])) (y1 := (.lit (.int .i64 b1), [])) Tryd.underlying23 (by kernel_rfl) (by kernel_rfl) ⟨1, by simp [DataW.trod, Tryd.underlying3, wa1]⟩ ⟨1, by simp [DataW.trod, Tryd.underlying3, wb1]⟩) (trodAll_mk0)), rfl, hb.frame _, fun h => by cases h⟩
theorem reads (os : Os) {H : Type} (enc : TypeId × Value → H) : ∃ places, DataW.whole enc Tryd.prog ((laidWorld os).forCall (fun _ _ => 0) ⟨#[], #[.agg #[.int .i64 0, .int .i64 0], .agg #[.int .i64 0, .int .i64 0]], []⟩).memory Tryd.f10.params.toList Rows.gaugeNormsSpec.vars false (#[.agg #[.int .i64 0, .int .i64 0], .agg #[.int .i64 0, .int .i64 0]] : Array Value).toList 8 = some ([.agg [.lit (.int .i64 0), .lit (.int .i64 0)], .agg [.lit (.int .i64 0), .lit (.int .i64 0)]], [], places) :=
  ⟨[], by kernel_rfl⟩
set_option maxRecDepth 100000 in
theorem lifted (os : Os) (started : os.Started) (H : Type) (enc : TypeId × Value → H) (F : Stop.Interp) :
    ReturnsInHanded {} Tryd.checked os 10 .any ((OpenSpec.ofChange Rows.gaugeNormsSpec).preRow enc Tryd.prog Tryd.f10 Rows.gaugeNormsRow.domain false Rows.gaugeNormsRow.laid) (((OpenSpec.ofChange Rows.gaugeNormsSpec).at F).post enc Tryd.prog Tryd.f10 false true false false) := by
  obtain ⟨places, hx⟩ := reads os enc
  refine returnsInHanded_of_row (C := Tryd.checked) (s := OpenSpec.ofChange Rows.gaugeNormsSpec) own started (by kernel_rfl) Tryd.func10
    (witness_row_at (enc := enc) (C := Tryd.checked) false (laidWorld os) #[.agg #[.int .i64 0, .int .i64 0], .agg #[.int .i64 0, .int .i64 0]] rfl (by kernel_rfl) (by kernel_rfl) (by kernel_rfl)
      (OpenSpec.preRow_of_cond 8 hx (by kernel_rfl) (fun k hk => by cases hk) (by kernel_rfl) (laid_met os _))) ?_
  intro W base args ds gs before hval hW _ _ _ _ _ _
  exact contract H enc W base args ds gs before hval hW
theorem said : Rows.GaugeNormsSaid :=
  OpenClaim.holds_of_cond 10 Tryd.f10 rfl rfl rfl rfl rfl rfl rfl ⟨rfl, rfl, rfl, rfl, rfl⟩ rfl rfl rfl rfl rfl (by kernel_rfl) Tryd.func10 (by kernel_rfl)
    (of_decide_eq_true (by kernel_rfl)) (by unfold Func.isWrapper; first | (rw [if_pos (by decide +kernel)]; kernel_rfl) | (rw [if_neg (by decide +kernel)]; exact ⟨rfl, rfl⟩))
    (fun os started H enc _ F => by rw [OpenClaim.pre_eq_preRow]; exact lifted os started H enc F)
theorem plain (f : FuncId) (fn : Func) (hf : Tryd.pinned.checked.prog.funcNamed "remould/remouldlaw04.GaugeNorms" = some f) (hfn : Tryd.pinned.checked.prog.funcs[f]? = some fn) :
    true = Tryd.pinned.checked.prog.looks [] ∧ ∀ (j : Nat) t, fn.params[j]? = some t → Tryd.pinned.checked.prog.wantsStandIn t = false := by
  obtain rfl : f = 10 := Option.some.inj ((show Tryd.prog.funcNamed "remould/remouldlaw04.GaugeNorms" = some 10 by kernel_rfl).symm.trans hf) |>.symm
  obtain rfl : fn = Tryd.f10 := (Option.some.inj (Tryd.func10.symm.trans hfn)).symm
  refine ⟨by kernel_rfl, fun j t ht => ?_⟩
  rw [Tryd.params10] at ht
  have hm : t ∈ [23, 23] := by simpa using Array.mem_of_getElem? ht
  have hall : ([23, 23].all fun u => !Tryd.prog.wantsStandIn u) = true := by kernel_rfl
  exact (show Tryd.prog.wantsStandIn t = false by simpa using List.all_eq_true.1 hall t (by simpa using hm))
theorem card : Rows.GaugeNormsCardSaid :=
  Claim7.holds_tied_plain_at .later [] _ _ _ _ said (fun _ h => by cases h) (by kernel_rfl) (fun _ h => by cases h) gaugeNorms_row_tie rfl ⟨rfl, rfl⟩ (by kernel_rfl) rfl plain (by kernel_rfl)
end gaugeNorms
theorem GaugeNorms_holds : Rows.GaugeNormsCardSaid := gaugeNorms.card
end Go.Proofs.YtgocloilagcfoabDoor
