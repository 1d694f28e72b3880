/- GaugeOrdered: for every three numbers the law returns true. -/
import Derived.Test.YtgocloilagcfoaaDoorL1
import Derived.Test.YtgocloilagcfoaaDoorL2
import Derived.Test.YtgocloilagcfoaaDoorF1
namespace Go.Proofs.YtgocloilagcfoaaDoor
open Go.RowKit
attribute [local go_sem ↓] Go.wp_at_zero Go.wp_at_succ

theorem sgn_opp (a b : Int) : GM.sgn (-a) (-b) = -GM.sgn a b := by
  have h := GM.sg_neg (a, b)
  unfold GM.sg at h
  exact h
theorem ord_cases (S P T X1 X2 Y1 Y2 : Int) 
  (h1 : (0 ≤ S → 0 ≤ P → 0 ≤ T) ∧ (0 < S → 0 ≤ P → 0 < T) ∧ (0 ≤ S → 0 < P → 0 < T))
  (h2 : (0 ≤ -S → 0 ≤ -P → 0 ≤ -T) ∧ (0 < -S → 0 ≤ -P → 0 < -T) ∧ (0 ≤ -S → 0 < -P → 0 < -T))
  (tS : S = 1 ∨ S = 0 ∨ S = -1) (tP : P = 1 ∨ P = 0 ∨ P = -1) (tQ : T = 1 ∨ T = 0 ∨ T = -1) (z : S = 0 ↔ X1 - Y1 = 0 ∧ X2 - Y2 = 0) :
  (S = -1 ∧ (¬ X1 = Y1 ∨ (X1 = Y1 ∧ ¬ X2 = Y2)) ∧ (0 < P ∨ (¬ 0 < P ∧ T ≤ 0))) ∨ (S = 1 ∧ (¬ X1 = Y1 ∨ (X1 = Y1 ∧ ¬ X2 = Y2)) ∧ (P < 0 ∨ (¬ P < 0 ∧ 0 ≤ T))) ∨ (S = 0 ∧ X1 = Y1 ∧ X2 = Y2 ∧ (P = -1 ∨ P = 0 ∨ P = 1) ∧ T = P) := by
  obtain ⟨a1, a2, a3⟩ := h1
  obtain ⟨b1, b2, b3⟩ := h2
  rcases tS with rfl | rfl | rfl
  · have hz : ¬ (X1 - Y1 = 0 ∧ X2 - Y2 = 0) := fun h => by have := z.2 h; omega
    refine .inr (.inl ⟨rfl, by omega, ?_⟩)
    rcases tP with rfl | rfl | rfl
    · exact .inr ⟨by decide, a1 (by decide) (by decide)⟩
    · exact .inr ⟨by decide, a1 (by decide) (by decide)⟩
    · exact .inl (by decide)
  · have hz := z.1 rfl
    refine .inr (.inr ⟨rfl, by omega, by omega, by omega, ?_⟩)
    rcases tP with rfl | rfl | rfl <;> rcases tQ with rfl | rfl | rfl <;> first | rfl | (exfalso; revert a1 a2 a3 b1 b2 b3; decide)
  · have hz : ¬ (X1 - Y1 = 0 ∧ X2 - Y2 = 0) := fun h => by have := z.2 h; omega
    refine .inl ⟨rfl, by omega, ?_⟩
    rcases tP with rfl | rfl | rfl
    · exact .inl (by decide)
    · exact .inr ⟨by decide, by have := b1 (by decide) (by decide); omega⟩
    · exact .inr ⟨by decide, by have := b1 (by decide) (by decide); omega⟩
set_option maxRecDepth 100000 in
set_option maxHeartbeats 8000000 in
theorem GaugeOrdered_walk (a b c d e f : Int) (w : World) (ha : -9223372036854775808 ≤ a ∧ a ≤ 9223372036854775807) (hb : -9223372036854775808 ≤ b ∧ b ≤ 9223372036854775807) (hc : -9223372036854775808 ≤ c ∧ c ≤ 9223372036854775807) (hd : -9223372036854775808 ≤ d ∧ d ≤ 9223372036854775807) (he : -9223372036854775808 ≤ e ∧ e ≤ 9223372036854775807) (hf : -9223372036854775808 ≤ f ∧ f ≤ 9223372036854775807) :
    Calls Tryd.prog 13 #[.agg #[.int .i64 a, .int .i64 b], .agg #[.int .i64 c, .int .i64 d], .agg #[.int .i64 e, .int .i64 f]] w fun e w' => e = .returned (.bool true) ∧ Below w.heap.size w w' := by
  have hX := fun wx => tame_any a b 500000 wx (by omega) (by omega) ha.1 ha.2 hb.1 hb.2
  have hY := fun wx => tame_any c d 500000 wx (by omega) (by omega) hc.1 hc.2 hd.1 hd.2
  have hZ := fun wx => tame_any e f 500000 wx (by omega) (by omega) he.1 he.2 hf.1 hf.2
  have bX1 := modZ_bd a (2 * 500000 + 1) (by decide)
  have bX2 := modZ_bd b (2 * 500000 + 1) (by decide)
  have bY1 := modZ_bd c (2 * 500000 + 1) (by decide)
  have bY2 := modZ_bd d (2 * 500000 + 1) (by decide)
  have bZ1 := modZ_bd e (2 * 500000 + 1) (by decide)
  have bZ2 := modZ_bd f (2 * 500000 + 1) (by decide)
  obtain ⟨X1, e1⟩ : ∃ x, modZ a (2 * 500000 + 1) - 500000 = x := ⟨_, rfl⟩
  obtain ⟨X2, e2⟩ : ∃ x, modZ b (2 * 500000 + 1) - 500000 = x := ⟨_, rfl⟩
  obtain ⟨Y1, e3⟩ : ∃ x, modZ c (2 * 500000 + 1) - 500000 = x := ⟨_, rfl⟩
  obtain ⟨Y2, e4⟩ : ∃ x, modZ d (2 * 500000 + 1) - 500000 = x := ⟨_, rfl⟩
  obtain ⟨Z1, e5⟩ : ∃ x, modZ e (2 * 500000 + 1) - 500000 = x := ⟨_, rfl⟩
  obtain ⟨Z2, e6⟩ : ∃ x, modZ f (2 * 500000 + 1) - 500000 = x := ⟨_, rfl⟩
  rw [e1, e2] at hX
  rw [e3, e4] at hY
  rw [e5, e6] at hZ
  have x1 : -500000 ≤ X1 ∧ X1 ≤ 500000 := by omega
  have x2 : -500000 ≤ X2 ∧ X2 ≤ 500000 := by omega
  have y1 : -500000 ≤ Y1 ∧ Y1 ≤ 500000 := by omega
  have y2 : -500000 ≤ Y2 ∧ Y2 ≤ 500000 := by omega
  have z1 : -500000 ≤ Z1 ∧ Z1 ≤ 500000 := by omega
  have z2 : -500000 ≤ Z2 ∧ Z2 ≤ 500000 := by omega
  clear e1 e2 e3 e4 e5 e6 bX1 bX2 bY1 bY2 bZ1 bZ2 ha hb hc hd he hf
  have num : ∀ p q : Int, -1000000 ≤ p → p ≤ 1000000 → -1000000 ≤ q → q ≤ 1000000 → isN p q = true := fun p q h1 h2 h3 h4 => (isN_iff p q).2 ⟨h1, h2, h3, h4⟩
  have nX := num X1 X2 (by omega) (by omega) (by omega) (by omega)
  have nY := num Y1 Y2 (by omega) (by omega) (by omega) (by omega)
  have nZ := num Z1 Z2 (by omega) (by omega) (by omega) (by omega)
  have hA := fun wx => Compare_yes X1 X2 Y1 Y2 wx nX nY
  have hB := fun wx => Compare_yes Y1 Y2 X1 X2 wx nY nX
  have hC := fun wx => Compare_yes (X1 + Z1) (X2 + Z2) (Y1 + Z1) (Y2 + Z2) wx (num _ _ (by omega) (by omega) (by omega) (by omega)) (num _ _ (by omega) (by omega) (by omega) (by omega))
  have hD := fun wx => Compare_yes (-X1) (-X2) (-Y1) (-Y2) wx (num _ _ (by omega) (by omega) (by omega) (by omega)) (num _ _ (by omega) (by omega) (by omega) (by omega))
  have hP := fun wx => Compare_yes Y1 Y2 Z1 Z2 wx nY nZ
  have hQ := fun wx => Compare_yes X1 X2 Z1 Z2 wx nX nZ
  rw [show Y1 - X1 = -(X1 - Y1) by omega, show Y2 - X2 = -(X2 - Y2) by omega, sgn_opp] at hB
  rw [show X1 + Z1 - (Y1 + Z1) = X1 - Y1 by omega, show X2 + Z2 - (Y2 + Z2) = X2 - Y2 by omega] at hC
  rw [show -X1 - -Y1 = -(X1 - Y1) by omega, show -X2 - -Y2 = -(X2 - Y2) by omega, sgn_opp] at hD
  have hE := fun wx => refMinus 0 0 X1 X2 wx (by omega) (by omega) (by omega) (by omega)
  have hF := fun wx => refMinus 0 0 Y1 Y2 wx (by omega) (by omega) (by omega) (by omega)
  rw [Int.zero_sub, Int.zero_sub] at hE hF
  have HE := Lib.hid hE
  have HF := Lib.hid hF
  clear hE hF
  have hord := GM.sg_add (X1 - Y1, X2 - Y2) (Y1 - Z1, Y2 - Z2)
  have hord' := GM.sg_add (-(X1 - Y1), -(X2 - Y2)) (-(Y1 - Z1), -(Y2 - Z2))
  unfold GM.sg GM.add at hord hord'
  dsimp only at hord hord'
  rw [show X1 - Y1 + (Y1 - Z1) = X1 - Z1 by omega, show X2 - Y2 + (Y2 - Z2) = X2 - Z2 by omega] at hord
  rw [show -(X1 - Y1) + -(Y1 - Z1) = -(X1 - Z1) by omega, show -(X2 - Y2) + -(Y2 - Z2) = -(X2 - Z2) by omega, sgn_opp, sgn_opp, sgn_opp] at hord'
  have tS := GM.sgn_tri (X1 - Y1) (X2 - Y2)
  have tP := GM.sgn_tri (Y1 - Z1) (Y2 - Z2)
  have tQ := GM.sgn_tri (X1 - Z1) (X2 - Z2)
  have zS := GM.sgn_zero_iff (X1 - Y1) (X2 - Y2)
  obtain ⟨S, eS⟩ : ∃ x, GM.sgn (X1 - Y1) (X2 - Y2) = x := ⟨_, rfl⟩
  obtain ⟨P, eP⟩ : ∃ x, GM.sgn (Y1 - Z1) (Y2 - Z2) = x := ⟨_, rfl⟩
  obtain ⟨T, eT⟩ : ∃ x, GM.sgn (X1 - Z1) (X2 - Z2) = x := ⟨_, rfl⟩
  rw [eS] at hA hB hC hD hord hord' tS zS
  rw [eP] at hP hord hord' tP
  rw [eT] at hQ hord hord' tQ
  clear eS eP eT num nX nY nZ
  have hcases := ord_cases S P T X1 X2 Y1 Y2 hord hord' tS tP tQ zS
  clear hord hord' tS tP tQ zS
  have HX := Lib.hid hX
  have HY := Lib.hid hY
  have HZ := Lib.hid hZ
  have HA := Lib.hid hA
  have HB := Lib.hid hB
  have HC := Lib.hid hC
  have HD := Lib.hid hD
  have HP := Lib.hid hP
  have HQ := Lib.hid hQ
  have HCS := Lib.hid hcases
  clear hX hY hZ hA hB hC hD hP hQ hcases
  go_enter Tryd.func13, Tryd.ntmps13
  go_upto_region 1 with fail
  obtain ⟨w1, hw1⟩ : ∃ wx : World, wx = (((w.alloc (.cells #[.int .i64 a, .int .i64 b] 23)).alloc (.cells #[.int .i64 c, .int .i64 d] 23)).alloc (.cells #[.int .i64 e, .int .i64 f] 23)) := ⟨_, rfl⟩
  rw [← hw1]
  have q1_0 : w1.heap[w.heap.size]? = some (.cells #[.int .i64 a, .int .i64 b] 23 (0, 0)) := by rw [hw1]; exact blk_old (blk_old (blk_new _ _))
  have z1_0 : w.heap.size < w1.heap.size := by rw [hw1]; simp <;> omega
  have c1_0_0 : w1.cell? ⟨w.heap.size, 0, none⟩ = some (.int .i64 a) := by rw [hw1]; first | (go_simp; done) | simp
  have c1_0_1 : w1.cell? ⟨w.heap.size, 1, none⟩ = some (.int .i64 b) := by rw [hw1]; first | (go_simp; done) | simp
  have f1_0 : ∀ o, w1.frozen? ⟨w.heap.size, o, none⟩ = false := by intro o; rw [hw1]; first | (go_simp; done) | simp
  have q1_1 : w1.heap[w.heap.size + 1]? = some (.cells #[.int .i64 c, .int .i64 d] 23 (0, 0)) := by rw [hw1]; rw [show w.heap.size + 1 = (w.alloc (.cells #[.int .i64 a, .int .i64 b] 23)).heap.size from by simp]; exact blk_old (blk_new _ _)
  have z1_1 : w.heap.size + 1 < w1.heap.size := by rw [hw1]; simp <;> omega
  have c1_1_0 : w1.cell? ⟨w.heap.size + 1, 0, none⟩ = some (.int .i64 c) := by rw [hw1]; first | (go_simp; done) | simp
  have c1_1_1 : w1.cell? ⟨w.heap.size + 1, 1, none⟩ = some (.int .i64 d) := by rw [hw1]; first | (go_simp; done) | simp
  have f1_1 : ∀ o, w1.frozen? ⟨w.heap.size + 1, o, none⟩ = false := by intro o; rw [hw1]; first | (go_simp; done) | simp
  have q1_2 : w1.heap[w.heap.size + 2]? = some (.cells #[.int .i64 e, .int .i64 f] 23 (0, 0)) := by rw [hw1]; rw [show w.heap.size + 2 = ((w.alloc (.cells #[.int .i64 a, .int .i64 b] 23)).alloc (.cells #[.int .i64 c, .int .i64 d] 23)).heap.size from by simp]; exact blk_new _ _
  have z1_2 : w.heap.size + 2 < w1.heap.size := by rw [hw1]; simp <;> omega
  have c1_2_0 : w1.cell? ⟨w.heap.size + 2, 0, none⟩ = some (.int .i64 e) := by rw [hw1]; first | (go_simp; done) | simp
  have c1_2_1 : w1.cell? ⟨w.heap.size + 2, 1, none⟩ = some (.int .i64 f) := by rw [hw1]; first | (go_simp; done) | simp
  have f1_2 : ∀ o, w1.frozen? ⟨w.heap.size + 2, o, none⟩ = false := by intro o; rw [hw1]; first | (go_simp; done) | simp
  have B1 : Below w.heap.size w w1 := by rw [hw1]; exact (by repeat (first | exact Below.refl _ _ | exact Nat.le_refl _ | refine Below.alloc ?_ ?_ _ | refine Below.setCell ?_ ?_ _ | refine Below.drew ?_ | refine bl_drewN ?_ _ | (assumption) | refine bl_call ?_ (by assumption) ?_ | omega | (simp <;> omega)))
  clear hw1
  have pblk3 := q1_0
  have pblk4 := q1_1
  have pblk5 := q1_2
  have pblk3 : w1.heap[w.heap.size]? = some (.cells #[.int .i64 a, .int .i64 b] 23 (0, 0)) := by first | assumption | exact hblk3
  have pblk4 : w1.heap[w.heap.size + 1]? = some (.cells #[.int .i64 c, .int .i64 d] 23 (0, 0)) := by first | assumption | exact hblk4
  have pblk5 : w1.heap[w.heap.size + 2]? = some (.cells #[.int .i64 e, .int .i64 f] 23 (0, 0)) := by first | assumption | exact hblk5
  refine with_act fun a0 ha0 => ?_
  refine wp_region_inv (by kernel_rfl) (by kernel_rfl) (fun s a' w' => ∃ v19 v20 v21 v22 v23 v24 : Value, a' = putL a0 [(19, v19), (20, v20), (21, v21), (22, v22), (23, v23), (24, v24)] ∧ Hid ((s 0 = true → v19 = .agg #[.int .i64 a, .int .i64 b]) ∧ (s 1 = true → v20 = .agg #[.int .i64 X1, .int .i64 X2]) ∧ (s 2 = true → v21 = .agg #[.int .i64 c, .int .i64 d]) ∧ (s 3 = true → v22 = .agg #[.int .i64 Y1, .int .i64 Y2]) ∧ (s 4 = true → v23 = .agg #[.int .i64 e, .int .i64 f]) ∧ (s 5 = true → v24 = .agg #[.int .i64 Z1, .int .i64 Z2]) ∧ True) ∧ BelX [w.heap.size, w.heap.size + 1, w.heap.size + 2] w1 w' ∧ (∃ (c0 c1 : Value), w'.heap[w.heap.size]? = some (.cells #[c0, c1] 23 (0, 0)) ∧ (s 6 = true → c0 = .int .i64 X1 ∧ c1 = .int .i64 X2) ∧ (s 6 = false → c0 = .int .i64 a ∧ c1 = .int .i64 b)) ∧ (s 6 = true → s 0 = true ∧ s 1 = true ∧ s 5 = true ∧ True) ∧ (∃ (c0 c1 : Value), w'.heap[w.heap.size + 1]? = some (.cells #[c0, c1] 23 (0, 0)) ∧ (s 7 = true → c0 = .int .i64 Y1 ∧ c1 = .int .i64 Y2) ∧ (s 7 = false → c0 = .int .i64 c ∧ c1 = .int .i64 d)) ∧ (s 7 = true → s 0 = true ∧ s 1 = true ∧ s 2 = true ∧ s 3 = true ∧ s 6 = true ∧ True) ∧ (∃ (c0 c1 : Value), w'.heap[w.heap.size + 2]? = some (.cells #[c0, c1] 23 (0, 0)) ∧ (s 8 = true → c0 = .int .i64 Z1 ∧ c1 = .int .i64 Z2) ∧ (s 8 = false → c0 = .int .i64 e ∧ c1 = .int .i64 f)) ∧ (s 8 = true → s 0 = true ∧ s 1 = true ∧ s 2 = true ∧ s 3 = true ∧ s 4 = true ∧ s 5 = true ∧ s 6 = true ∧ s 7 = true ∧ True) ∧ True) ?x1hzero ⟨?x1hs0, ?x1hs1, ?x1hs2, ?x1hs3, ?x1hs4, ?x1hs5, ?x1hs6, ?x1hs7, ?x1hs8, trivial⟩ ?x1hdone
  case x1hzero =>
    refine ⟨a0.tmps.getD 19 undef, a0.tmps.getD 20 undef, a0.tmps.getD 21 undef, a0.tmps.getD 22 undef, a0.tmps.getD 23 undef, a0.tmps.getD 24 undef, ?_, ?_, ?_, ?_, ?_, ?_, ?_, ?_, ?_, trivial⟩
    · simp only [putL, put_self]
    · exact Lib.hid ⟨fun h => (by simp at h), fun h => (by simp at h), fun h => (by simp at h), fun h => (by simp at h), fun h => (by simp at h), fun h => (by simp at h), trivial⟩
    · exact BelX.start _ _
    · exact ⟨.int .i64 a, .int .i64 b, pblk3, fun h => (by simp at h), fun _ => ⟨rfl, rfl⟩⟩
    · exact fun h => (by simp at h)
    · exact ⟨.int .i64 c, .int .i64 d, pblk4, fun h => (by simp at h), fun _ => ⟨rfl, rfl⟩⟩
    · exact fun h => (by simp at h)
    · exact ⟨.int .i64 e, .int .i64 f, pblk5, fun h => (by simp at h), fun _ => ⟨rfl, rfl⟩⟩
    · exact fun h => (by simp at h)
  case x1hs0 =>
    intro s a' w' hsk hdep hI K hK
    try dsimp only at hI hK
    obtain ⟨v19, v20, v21, v22, v23, v24, hact, hR, hX, hP3, hQ3, hP4, hQ4, hP5, hQ5, _⟩ := hI
    subst hact
    have HK := Lib.hid hK
    clear hK
    obtain ⟨b3_0, b3_1, pb3, pt3, pf3⟩ := hP3
    have hs0 : s 6 = false := Bool.eq_false_iff.2 fun h => (by have := hQ3 h; simp [hsk] at this)
    obtain ⟨q3_0, q3_1⟩ := pf3 hs0
    subst q3_0
    subst q3_1
    clear hs0
    have kp3_0 := cell_of_row w' (w.heap.size) 0 _ _ _ pb3
    have kp3_1 := cell_of_row w' (w.heap.size) 1 _ _ _ pb3
    simp only [List.getElem?_toArray, List.getElem?_cons_zero, List.getElem?_cons_succ] at kp3_0 kp3_1
    have kq3 : ∀ o, w'.frozen? ⟨w.heap.size, o, none⟩ = false := fun o => frozen_of_row w' _ o _ _ pb3
    have hPB3 := Lib.hid pb3
    clear pb3
    have hPT3 := Lib.hid pt3
    clear pt3
    have hPF3 := Lib.hid pf3
    clear pf3
    obtain ⟨b4_0, b4_1, pb4, pt4, pf4⟩ := hP4
    have hs0 : s 7 = false := Bool.eq_false_iff.2 fun h => (by have := hQ4 h; simp [hsk] at this)
    obtain ⟨q4_0, q4_1⟩ := pf4 hs0
    subst q4_0
    subst q4_1
    clear hs0
    have kp4_0 := cell_of_row w' (w.heap.size + 1) 0 _ _ _ pb4
    have kp4_1 := cell_of_row w' (w.heap.size + 1) 1 _ _ _ pb4
    simp only [List.getElem?_toArray, List.getElem?_cons_zero, List.getElem?_cons_succ] at kp4_0 kp4_1
    have kq4 : ∀ o, w'.frozen? ⟨w.heap.size + 1, o, none⟩ = false := fun o => frozen_of_row w' _ o _ _ pb4
    have hPB4 := Lib.hid pb4
    clear pb4
    have hPT4 := Lib.hid pt4
    clear pt4
    have hPF4 := Lib.hid pf4
    clear pf4
    obtain ⟨b5_0, b5_1, pb5, pt5, pf5⟩ := hP5
    have hs0 : s 8 = false := Bool.eq_false_iff.2 fun h => (by have := hQ5 h; simp [hsk] at this)
    obtain ⟨q5_0, q5_1⟩ := pf5 hs0
    subst q5_0
    subst q5_1
    clear hs0
    have kp5_0 := cell_of_row w' (w.heap.size + 2) 0 _ _ _ pb5
    have kp5_1 := cell_of_row w' (w.heap.size + 2) 1 _ _ _ pb5
    simp only [List.getElem?_toArray, List.getElem?_cons_zero, List.getElem?_cons_succ] at kp5_0 kp5_1
    have kq5 : ∀ o, w'.frozen? ⟨w.heap.size + 2, o, none⟩ = false := fun o => frozen_of_row w' _ o _ _ pb5
    have hPB5 := Lib.hid pb5
    clear pb5
    have hPT5 := Lib.hid pt5
    clear pt5
    have hPF5 := Lib.hid pf5
    clear pf5
    clear hdep
    refine StepG.mk rfl ?_; rw [ha0]; simp only [putL, Act.put, List.setIfInBounds_toArray, List.set_cons_zero, List.set_cons_succ]
    go_wp2_with fail
    refine HK.out _ _ ?_
    refine ⟨(.agg #[.int .i64 a, .int .i64 b]), v20, v21, v22, v23, v24, (by rw [ha0]; simp only [putL, Act.put, List.setIfInBounds_toArray, List.set_cons_zero, List.set_cons_succ]), ?_, ?_, ?_, ?_, ?_, ?_, ?_, ?_, trivial⟩
    · obtain ⟨h19, h20, h21, h22, h23, h24, _⟩ := hR.out
      exact Lib.hid ⟨fun _ => rfl, fun h => h20 (by simpa using h), fun h => h21 (by simpa using h), fun h => h22 (by simpa using h), fun h => h23 (by simpa using h), fun h => h24 (by simpa using h), trivial⟩
    · exact hX
    · exact ⟨_, _, hPB3.out, fun h => hPT3.out (by simpa using h), fun h => ⟨rfl, rfl⟩⟩
    · exact fun h => (by have h1 := hQ3 (by simpa using h); simp [h1])
    · exact ⟨_, _, hPB4.out, fun h => hPT4.out (by simpa using h), fun h => ⟨rfl, rfl⟩⟩
    · exact fun h => (by have h1 := hQ4 (by simpa using h); simp [h1])
    · exact ⟨_, _, hPB5.out, fun h => hPT5.out (by simpa using h), fun h => ⟨rfl, rfl⟩⟩
    · exact fun h => (by have h1 := hQ5 (by simpa using h); simp [h1])
  case x1hs1 =>
    intro s a' w' hsk hdep hI K hK
    try dsimp only at hI hK
    obtain ⟨v19, v20, v21, v22, v23, v24, hact, hR, hX, hP3, hQ3, hP4, hQ4, hP5, hQ5, _⟩ := hI
    subst hact
    have HK := Lib.hid hK
    clear hK
    have e19 : v19 = .agg #[.int .i64 a, .int .i64 b] := by obtain ⟨h19, h20, h21, h22, h23, h24, _⟩ := hR.out; exact h19 (hdep ⟨0, .data⟩ (by simp) rfl)
    subst e19
    obtain ⟨b3_0, b3_1, pb3, pt3, pf3⟩ := hP3
    have hs0 : s 6 = false := Bool.eq_false_iff.2 fun h => (by have := hQ3 h; simp [hsk] at this)
    obtain ⟨q3_0, q3_1⟩ := pf3 hs0
    subst q3_0
    subst q3_1
    clear hs0
    have kp3_0 := cell_of_row w' (w.heap.size) 0 _ _ _ pb3
    have kp3_1 := cell_of_row w' (w.heap.size) 1 _ _ _ pb3
    simp only [List.getElem?_toArray, List.getElem?_cons_zero, List.getElem?_cons_succ] at kp3_0 kp3_1
    have kq3 : ∀ o, w'.frozen? ⟨w.heap.size, o, none⟩ = false := fun o => frozen_of_row w' _ o _ _ pb3
    have hPB3 := Lib.hid pb3
    clear pb3
    have hPT3 := Lib.hid pt3
    clear pt3
    have hPF3 := Lib.hid pf3
    clear pf3
    obtain ⟨b4_0, b4_1, pb4, pt4, pf4⟩ := hP4
    have hs0 : s 7 = false := Bool.eq_false_iff.2 fun h => (by have := hQ4 h; simp [hsk] at this)
    obtain ⟨q4_0, q4_1⟩ := pf4 hs0
    subst q4_0
    subst q4_1
    clear hs0
    have kp4_0 := cell_of_row w' (w.heap.size + 1) 0 _ _ _ pb4
    have kp4_1 := cell_of_row w' (w.heap.size + 1) 1 _ _ _ pb4
    simp only [List.getElem?_toArray, List.getElem?_cons_zero, List.getElem?_cons_succ] at kp4_0 kp4_1
    have kq4 : ∀ o, w'.frozen? ⟨w.heap.size + 1, o, none⟩ = false := fun o => frozen_of_row w' _ o _ _ pb4
    have hPB4 := Lib.hid pb4
    clear pb4
    have hPT4 := Lib.hid pt4
    clear pt4
    have hPF4 := Lib.hid pf4
    clear pf4
    obtain ⟨b5_0, b5_1, pb5, pt5, pf5⟩ := hP5
    have hs0 : s 8 = false := Bool.eq_false_iff.2 fun h => (by have := hQ5 h; simp [hsk] at this)
    obtain ⟨q5_0, q5_1⟩ := pf5 hs0
    subst q5_0
    subst q5_1
    clear hs0
    have kp5_0 := cell_of_row w' (w.heap.size + 2) 0 _ _ _ pb5
    have kp5_1 := cell_of_row w' (w.heap.size + 2) 1 _ _ _ pb5
    simp only [List.getElem?_toArray, List.getElem?_cons_zero, List.getElem?_cons_succ] at kp5_0 kp5_1
    have kq5 : ∀ o, w'.frozen? ⟨w.heap.size + 2, o, none⟩ = false := fun o => frozen_of_row w' _ o _ _ pb5
    have hPB5 := Lib.hid pb5
    clear pb5
    have hPT5 := Lib.hid pt5
    clear pt5
    have hPF5 := Lib.hid pf5
    clear pf5
    clear hdep
    refine StepG.mk rfl ?_; rw [ha0]; simp only [putL, Act.put, List.setIfInBounds_toArray, List.set_cons_zero, List.set_cons_succ]
    go_wp2_with fail
    refine ((HX.out _)).mono ?_
    rintro e wn ⟨rfl, hb⟩
    go_wp2_with fail
    refine HK.out _ _ ?_
    refine ⟨(.agg #[.int .i64 a, .int .i64 b]), (.agg #[.int .i64 X1, .int .i64 X2]), v21, v22, v23, v24, (by rw [ha0]; simp only [putL, Act.put, List.setIfInBounds_toArray, List.set_cons_zero, List.set_cons_succ]), ?_, ?_, ?_, ?_, ?_, ?_, ?_, ?_, trivial⟩
    · obtain ⟨h19, h20, h21, h22, h23, h24, _⟩ := hR.out
      exact Lib.hid ⟨fun _ => rfl, fun _ => rfl, fun h => h21 (by simpa using h), fun h => h22 (by simpa using h), fun h => h23 (by simpa using h), fun h => h24 (by simpa using h), trivial⟩
    · exact hX.call hb
    · exact ⟨_, _, (hb.block _ (blk_lt hPB3.out)).trans hPB3.out, fun h => hPT3.out (by simpa using h), fun h => ⟨rfl, rfl⟩⟩
    · exact fun h => (by have h1 := hQ3 (by simpa using h); simp [h1])
    · exact ⟨_, _, (hb.block _ (blk_lt hPB4.out)).trans hPB4.out, fun h => hPT4.out (by simpa using h), fun h => ⟨rfl, rfl⟩⟩
    · exact fun h => (by have h1 := hQ4 (by simpa using h); simp [h1])
    · exact ⟨_, _, (hb.block _ (blk_lt hPB5.out)).trans hPB5.out, fun h => hPT5.out (by simpa using h), fun h => ⟨rfl, rfl⟩⟩
    · exact fun h => (by have h1 := hQ5 (by simpa using h); simp [h1])
  case x1hs2 =>
    intro s a' w' hsk hdep hI K hK
    try dsimp only at hI hK
    obtain ⟨v19, v20, v21, v22, v23, v24, hact, hR, hX, hP3, hQ3, hP4, hQ4, hP5, hQ5, _⟩ := hI
    subst hact
    have HK := Lib.hid hK
    clear hK
    obtain ⟨b3_0, b3_1, pb3, pt3, pf3⟩ := hP3
    have kp3_0 := cell_of_row w' (w.heap.size) 0 _ _ _ pb3
    have kp3_1 := cell_of_row w' (w.heap.size) 1 _ _ _ pb3
    simp only [List.getElem?_toArray, List.getElem?_cons_zero, List.getElem?_cons_succ] at kp3_0 kp3_1
    have kq3 : ∀ o, w'.frozen? ⟨w.heap.size, o, none⟩ = false := fun o => frozen_of_row w' _ o _ _ pb3
    have hPB3 := Lib.hid pb3
    clear pb3
    have hPT3 := Lib.hid pt3
    clear pt3
    have hPF3 := Lib.hid pf3
    clear pf3
    obtain ⟨b4_0, b4_1, pb4, pt4, pf4⟩ := hP4
    have hs0 : s 7 = false := Bool.eq_false_iff.2 fun h => (by have := hQ4 h; simp [hsk] at this)
    obtain ⟨q4_0, q4_1⟩ := pf4 hs0
    subst q4_0
    subst q4_1
    clear hs0
    have kp4_0 := cell_of_row w' (w.heap.size + 1) 0 _ _ _ pb4
    have kp4_1 := cell_of_row w' (w.heap.size + 1) 1 _ _ _ pb4
    simp only [List.getElem?_toArray, List.getElem?_cons_zero, List.getElem?_cons_succ] at kp4_0 kp4_1
    have kq4 : ∀ o, w'.frozen? ⟨w.heap.size + 1, o, none⟩ = false := fun o => frozen_of_row w' _ o _ _ pb4
    have hPB4 := Lib.hid pb4
    clear pb4
    have hPT4 := Lib.hid pt4
    clear pt4
    have hPF4 := Lib.hid pf4
    clear pf4
    obtain ⟨b5_0, b5_1, pb5, pt5, pf5⟩ := hP5
    have hs0 : s 8 = false := Bool.eq_false_iff.2 fun h => (by have := hQ5 h; simp [hsk] at this)
    obtain ⟨q5_0, q5_1⟩ := pf5 hs0
    subst q5_0
    subst q5_1
    clear hs0
    have kp5_0 := cell_of_row w' (w.heap.size + 2) 0 _ _ _ pb5
    have kp5_1 := cell_of_row w' (w.heap.size + 2) 1 _ _ _ pb5
    simp only [List.getElem?_toArray, List.getElem?_cons_zero, List.getElem?_cons_succ] at kp5_0 kp5_1
    have kq5 : ∀ o, w'.frozen? ⟨w.heap.size + 2, o, none⟩ = false := fun o => frozen_of_row w' _ o _ _ pb5
    have hPB5 := Lib.hid pb5
    clear pb5
    have hPT5 := Lib.hid pt5
    clear pt5
    have hPF5 := Lib.hid pf5
    clear pf5
    clear hdep
    refine StepG.mk rfl ?_; rw [ha0]; simp only [putL, Act.put, List.setIfInBounds_toArray, List.set_cons_zero, List.set_cons_succ]
    go_wp2_with fail
    refine HK.out _ _ ?_
    refine ⟨v19, v20, (.agg #[.int .i64 c, .int .i64 d]), v22, v23, v24, (by rw [ha0]; simp only [putL, Act.put, List.setIfInBounds_toArray, List.set_cons_zero, List.set_cons_succ]), ?_, ?_, ?_, ?_, ?_, ?_, ?_, ?_, trivial⟩
    · obtain ⟨h19, h20, h21, h22, h23, h24, _⟩ := hR.out
      exact Lib.hid ⟨fun h => h19 (by simpa using h), fun h => h20 (by simpa using h), fun _ => rfl, fun h => h22 (by simpa using h), fun h => h23 (by simpa using h), fun h => h24 (by simpa using h), trivial⟩
    · exact hX
    · exact ⟨_, _, hPB3.out, fun h => hPT3.out (by simpa using h), fun h => (hPF3.out (by simpa using h))⟩
    · exact fun h => (by have h1 := hQ3 (by simpa using h); simp [h1])
    · exact ⟨_, _, hPB4.out, fun h => hPT4.out (by simpa using h), fun h => ⟨rfl, rfl⟩⟩
    · exact fun h => (by have h1 := hQ4 (by simpa using h); simp [h1])
    · exact ⟨_, _, hPB5.out, fun h => hPT5.out (by simpa using h), fun h => ⟨rfl, rfl⟩⟩
    · exact fun h => (by have h1 := hQ5 (by simpa using h); simp [h1])
  case x1hs3 =>
    intro s a' w' hsk hdep hI K hK
    try dsimp only at hI hK
    obtain ⟨v19, v20, v21, v22, v23, v24, hact, hR, hX, hP3, hQ3, hP4, hQ4, hP5, hQ5, _⟩ := hI
    subst hact
    have HK := Lib.hid hK
    clear hK
    have e21 : v21 = .agg #[.int .i64 c, .int .i64 d] := by obtain ⟨h19, h20, h21, h22, h23, h24, _⟩ := hR.out; exact h21 (hdep ⟨2, .data⟩ (by simp) rfl)
    subst e21
    obtain ⟨b3_0, b3_1, pb3, pt3, pf3⟩ := hP3
    have kp3_0 := cell_of_row w' (w.heap.size) 0 _ _ _ pb3
    have kp3_1 := cell_of_row w' (w.heap.size) 1 _ _ _ pb3
    simp only [List.getElem?_toArray, List.getElem?_cons_zero, List.getElem?_cons_succ] at kp3_0 kp3_1
    have kq3 : ∀ o, w'.frozen? ⟨w.heap.size, o, none⟩ = false := fun o => frozen_of_row w' _ o _ _ pb3
    have hPB3 := Lib.hid pb3
    clear pb3
    have hPT3 := Lib.hid pt3
    clear pt3
    have hPF3 := Lib.hid pf3
    clear pf3
    obtain ⟨b4_0, b4_1, pb4, pt4, pf4⟩ := hP4
    have hs0 : s 7 = false := Bool.eq_false_iff.2 fun h => (by have := hQ4 h; simp [hsk] at this)
    obtain ⟨q4_0, q4_1⟩ := pf4 hs0
    subst q4_0
    subst q4_1
    clear hs0
    have kp4_0 := cell_of_row w' (w.heap.size + 1) 0 _ _ _ pb4
    have kp4_1 := cell_of_row w' (w.heap.size + 1) 1 _ _ _ pb4
    simp only [List.getElem?_toArray, List.getElem?_cons_zero, List.getElem?_cons_succ] at kp4_0 kp4_1
    have kq4 : ∀ o, w'.frozen? ⟨w.heap.size + 1, o, none⟩ = false := fun o => frozen_of_row w' _ o _ _ pb4
    have hPB4 := Lib.hid pb4
    clear pb4
    have hPT4 := Lib.hid pt4
    clear pt4
    have hPF4 := Lib.hid pf4
    clear pf4
    obtain ⟨b5_0, b5_1, pb5, pt5, pf5⟩ := hP5
    have hs0 : s 8 = false := Bool.eq_false_iff.2 fun h => (by have := hQ5 h; simp [hsk] at this)
    obtain ⟨q5_0, q5_1⟩ := pf5 hs0
    subst q5_0
    subst q5_1
    clear hs0
    have kp5_0 := cell_of_row w' (w.heap.size + 2) 0 _ _ _ pb5
    have kp5_1 := cell_of_row w' (w.heap.size + 2) 1 _ _ _ pb5
    simp only [List.getElem?_toArray, List.getElem?_cons_zero, List.getElem?_cons_succ] at kp5_0 kp5_1
    have kq5 : ∀ o, w'.frozen? ⟨w.heap.size + 2, o, none⟩ = false := fun o => frozen_of_row w' _ o _ _ pb5
    have hPB5 := Lib.hid pb5
    clear pb5
    have hPT5 := Lib.hid pt5
    clear pt5
    have hPF5 := Lib.hid pf5
    clear pf5
    clear hdep
    refine StepG.mk rfl ?_; rw [ha0]; simp only [putL, Act.put, List.setIfInBounds_toArray, List.set_cons_zero, List.set_cons_succ]
    go_wp2_with fail
    refine ((HY.out _)).mono ?_
    rintro e wn ⟨rfl, hb⟩
    go_wp2_with fail
    refine HK.out _ _ ?_
    refine ⟨v19, v20, (.agg #[.int .i64 c, .int .i64 d]), (.agg #[.int .i64 Y1, .int .i64 Y2]), v23, v24, (by rw [ha0]; simp only [putL, Act.put, List.setIfInBounds_toArray, List.set_cons_zero, List.set_cons_succ]), ?_, ?_, ?_, ?_, ?_, ?_, ?_, ?_, trivial⟩
    · obtain ⟨h19, h20, h21, h22, h23, h24, _⟩ := hR.out
      exact Lib.hid ⟨fun h => h19 (by simpa using h), fun h => h20 (by simpa using h), fun _ => rfl, fun _ => rfl, fun h => h23 (by simpa using h), fun h => h24 (by simpa using h), trivial⟩
    · exact hX.call hb
    · exact ⟨_, _, (hb.block _ (blk_lt hPB3.out)).trans hPB3.out, fun h => hPT3.out (by simpa using h), fun h => (hPF3.out (by simpa using h))⟩
    · exact fun h => (by have h1 := hQ3 (by simpa using h); simp [h1])
    · exact ⟨_, _, (hb.block _ (blk_lt hPB4.out)).trans hPB4.out, fun h => hPT4.out (by simpa using h), fun h => ⟨rfl, rfl⟩⟩
    · exact fun h => (by have h1 := hQ4 (by simpa using h); simp [h1])
    · exact ⟨_, _, (hb.block _ (blk_lt hPB5.out)).trans hPB5.out, fun h => hPT5.out (by simpa using h), fun h => ⟨rfl, rfl⟩⟩
    · exact fun h => (by have h1 := hQ5 (by simpa using h); simp [h1])
  case x1hs4 =>
    intro s a' w' hsk hdep hI K hK
    try dsimp only at hI hK
    obtain ⟨v19, v20, v21, v22, v23, v24, hact, hR, hX, hP3, hQ3, hP4, hQ4, hP5, hQ5, _⟩ := hI
    subst hact
    have HK := Lib.hid hK
    clear hK
    obtain ⟨b3_0, b3_1, pb3, pt3, pf3⟩ := hP3
    have kp3_0 := cell_of_row w' (w.heap.size) 0 _ _ _ pb3
    have kp3_1 := cell_of_row w' (w.heap.size) 1 _ _ _ pb3
    simp only [List.getElem?_toArray, List.getElem?_cons_zero, List.getElem?_cons_succ] at kp3_0 kp3_1
    have kq3 : ∀ o, w'.frozen? ⟨w.heap.size, o, none⟩ = false := fun o => frozen_of_row w' _ o _ _ pb3
    have hPB3 := Lib.hid pb3
    clear pb3
    have hPT3 := Lib.hid pt3
    clear pt3
    have hPF3 := Lib.hid pf3
    clear pf3
    obtain ⟨b4_0, b4_1, pb4, pt4, pf4⟩ := hP4
    have kp4_0 := cell_of_row w' (w.heap.size + 1) 0 _ _ _ pb4
    have kp4_1 := cell_of_row w' (w.heap.size + 1) 1 _ _ _ pb4
    simp only [List.getElem?_toArray, List.getElem?_cons_zero, List.getElem?_cons_succ] at kp4_0 kp4_1
    have kq4 : ∀ o, w'.frozen? ⟨w.heap.size + 1, o, none⟩ = false := fun o => frozen_of_row w' _ o _ _ pb4
    have hPB4 := Lib.hid pb4
    clear pb4
    have hPT4 := Lib.hid pt4
    clear pt4
    have hPF4 := Lib.hid pf4
    clear pf4
    obtain ⟨b5_0, b5_1, pb5, pt5, pf5⟩ := hP5
    have hs0 : s 8 = false := Bool.eq_false_iff.2 fun h => (by have := hQ5 h; simp [hsk] at this)
    obtain ⟨q5_0, q5_1⟩ := pf5 hs0
    subst q5_0
    subst q5_1
    clear hs0
    have kp5_0 := cell_of_row w' (w.heap.size + 2) 0 _ _ _ pb5
    have kp5_1 := cell_of_row w' (w.heap.size + 2) 1 _ _ _ pb5
    simp only [List.getElem?_toArray, List.getElem?_cons_zero, List.getElem?_cons_succ] at kp5_0 kp5_1
    have kq5 : ∀ o, w'.frozen? ⟨w.heap.size + 2, o, none⟩ = false := fun o => frozen_of_row w' _ o _ _ pb5
    have hPB5 := Lib.hid pb5
    clear pb5
    have hPT5 := Lib.hid pt5
    clear pt5
    have hPF5 := Lib.hid pf5
    clear pf5
    clear hdep
    refine StepG.mk rfl ?_; rw [ha0]; simp only [putL, Act.put, List.setIfInBounds_toArray, List.set_cons_zero, List.set_cons_succ]
    go_wp2_with fail
    refine HK.out _ _ ?_
    refine ⟨v19, v20, v21, v22, (.agg #[.int .i64 e, .int .i64 f]), v24, (by rw [ha0]; simp only [putL, Act.put, List.setIfInBounds_toArray, List.set_cons_zero, List.set_cons_succ]), ?_, ?_, ?_, ?_, ?_, ?_, ?_, ?_, trivial⟩
    · obtain ⟨h19, h20, h21, h22, h23, h24, _⟩ := hR.out
      exact Lib.hid ⟨fun h => h19 (by simpa using h), fun h => h20 (by simpa using h), fun h => h21 (by simpa using h), fun h => h22 (by simpa using h), fun _ => rfl, fun h => h24 (by simpa using h), trivial⟩
    · exact hX
    · exact ⟨_, _, hPB3.out, fun h => hPT3.out (by simpa using h), fun h => (hPF3.out (by simpa using h))⟩
    · exact fun h => (by have h1 := hQ3 (by simpa using h); simp [h1])
    · exact ⟨_, _, hPB4.out, fun h => hPT4.out (by simpa using h), fun h => (hPF4.out (by simpa using h))⟩
    · exact fun h => (by have h1 := hQ4 (by simpa using h); simp [h1])
    · exact ⟨_, _, hPB5.out, fun h => hPT5.out (by simpa using h), fun h => ⟨rfl, rfl⟩⟩
    · exact fun h => (by have h1 := hQ5 (by simpa using h); simp [h1])
  case x1hs5 =>
    intro s a' w' hsk hdep hI K hK
    try dsimp only at hI hK
    obtain ⟨v19, v20, v21, v22, v23, v24, hact, hR, hX, hP3, hQ3, hP4, hQ4, hP5, hQ5, _⟩ := hI
    subst hact
    have HK := Lib.hid hK
    clear hK
    have e23 : v23 = .agg #[.int .i64 e, .int .i64 f] := by obtain ⟨h19, h20, h21, h22, h23, h24, _⟩ := hR.out; exact h23 (hdep ⟨4, .data⟩ (by simp) rfl)
    subst e23
    obtain ⟨b3_0, b3_1, pb3, pt3, pf3⟩ := hP3
    have hs0 : s 6 = false := Bool.eq_false_iff.2 fun h => (by have := hQ3 h; simp [hsk] at this)
    obtain ⟨q3_0, q3_1⟩ := pf3 hs0
    subst q3_0
    subst q3_1
    clear hs0
    have kp3_0 := cell_of_row w' (w.heap.size) 0 _ _ _ pb3
    have kp3_1 := cell_of_row w' (w.heap.size) 1 _ _ _ pb3
    simp only [List.getElem?_toArray, List.getElem?_cons_zero, List.getElem?_cons_succ] at kp3_0 kp3_1
    have kq3 : ∀ o, w'.frozen? ⟨w.heap.size, o, none⟩ = false := fun o => frozen_of_row w' _ o _ _ pb3
    have hPB3 := Lib.hid pb3
    clear pb3
    have hPT3 := Lib.hid pt3
    clear pt3
    have hPF3 := Lib.hid pf3
    clear pf3
    obtain ⟨b4_0, b4_1, pb4, pt4, pf4⟩ := hP4
    have kp4_0 := cell_of_row w' (w.heap.size + 1) 0 _ _ _ pb4
    have kp4_1 := cell_of_row w' (w.heap.size + 1) 1 _ _ _ pb4
    simp only [List.getElem?_toArray, List.getElem?_cons_zero, List.getElem?_cons_succ] at kp4_0 kp4_1
    have kq4 : ∀ o, w'.frozen? ⟨w.heap.size + 1, o, none⟩ = false := fun o => frozen_of_row w' _ o _ _ pb4
    have hPB4 := Lib.hid pb4
    clear pb4
    have hPT4 := Lib.hid pt4
    clear pt4
    have hPF4 := Lib.hid pf4
    clear pf4
    obtain ⟨b5_0, b5_1, pb5, pt5, pf5⟩ := hP5
    have hs0 : s 8 = false := Bool.eq_false_iff.2 fun h => (by have := hQ5 h; simp [hsk] at this)
    obtain ⟨q5_0, q5_1⟩ := pf5 hs0
    subst q5_0
    subst q5_1
    clear hs0
    have kp5_0 := cell_of_row w' (w.heap.size + 2) 0 _ _ _ pb5
    have kp5_1 := cell_of_row w' (w.heap.size + 2) 1 _ _ _ pb5
    simp only [List.getElem?_toArray, List.getElem?_cons_zero, List.getElem?_cons_succ] at kp5_0 kp5_1
    have kq5 : ∀ o, w'.frozen? ⟨w.heap.size + 2, o, none⟩ = false := fun o => frozen_of_row w' _ o _ _ pb5
    have hPB5 := Lib.hid pb5
    clear pb5
    have hPT5 := Lib.hid pt5
    clear pt5
    have hPF5 := Lib.hid pf5
    clear pf5
    clear hdep
    refine StepG.mk rfl ?_; rw [ha0]; simp only [putL, Act.put, List.setIfInBounds_toArray, List.set_cons_zero, List.set_cons_succ]
    go_wp2_with fail
    refine ((HZ.out _)).mono ?_
    rintro e wn ⟨rfl, hb⟩
    go_wp2_with fail
    refine HK.out _ _ ?_
    refine ⟨v19, v20, v21, v22, (.agg #[.int .i64 e, .int .i64 f]), (.agg #[.int .i64 Z1, .int .i64 Z2]), (by rw [ha0]; simp only [putL, Act.put, List.setIfInBounds_toArray, List.set_cons_zero, List.set_cons_succ]), ?_, ?_, ?_, ?_, ?_, ?_, ?_, ?_, trivial⟩
    · obtain ⟨h19, h20, h21, h22, h23, h24, _⟩ := hR.out
      exact Lib.hid ⟨fun h => h19 (by simpa using h), fun h => h20 (by simpa using h), fun h => h21 (by simpa using h), fun h => h22 (by simpa using h), fun _ => rfl, fun _ => rfl, trivial⟩
    · exact hX.call hb
    · exact ⟨_, _, (hb.block _ (blk_lt hPB3.out)).trans hPB3.out, fun h => hPT3.out (by simpa using h), fun h => ⟨rfl, rfl⟩⟩
    · exact fun h => (by have h1 := hQ3 (by simpa using h); simp [h1])
    · exact ⟨_, _, (hb.block _ (blk_lt hPB4.out)).trans hPB4.out, fun h => hPT4.out (by simpa using h), fun h => (hPF4.out (by simpa using h))⟩
    · exact fun h => (by have h1 := hQ4 (by simpa using h); simp [h1])
    · exact ⟨_, _, (hb.block _ (blk_lt hPB5.out)).trans hPB5.out, fun h => hPT5.out (by simpa using h), fun h => ⟨rfl, rfl⟩⟩
    · exact fun h => (by have h1 := hQ5 (by simpa using h); simp [h1])
  case x1hs6 =>
    intro s a' w' hsk hdep hI K hK
    try dsimp only at hI hK
    obtain ⟨v19, v20, v21, v22, v23, v24, hact, hR, hX, hP3, hQ3, hP4, hQ4, hP5, hQ5, _⟩ := hI
    subst hact
    have HK := Lib.hid hK
    clear hK
    have e20 : v20 = .agg #[.int .i64 X1, .int .i64 X2] := by obtain ⟨h19, h20, h21, h22, h23, h24, _⟩ := hR.out; exact h20 (hdep ⟨1, .data⟩ (by simp) rfl)
    subst e20
    obtain ⟨b3_0, b3_1, pb3, pt3, pf3⟩ := hP3
    have hs0 : s 6 = false := hsk
    obtain ⟨q3_0, q3_1⟩ := pf3 hs0
    subst q3_0
    subst q3_1
    clear hs0
    have kp3_0 := cell_of_row w' (w.heap.size) 0 _ _ _ pb3
    have kp3_1 := cell_of_row w' (w.heap.size) 1 _ _ _ pb3
    simp only [List.getElem?_toArray, List.getElem?_cons_zero, List.getElem?_cons_succ] at kp3_0 kp3_1
    have kq3 : ∀ o, w'.frozen? ⟨w.heap.size, o, none⟩ = false := fun o => frozen_of_row w' _ o _ _ pb3
    have hPB3 := Lib.hid pb3
    clear pb3
    have hPT3 := Lib.hid pt3
    clear pt3
    have hPF3 := Lib.hid pf3
    clear pf3
    obtain ⟨b4_0, b4_1, pb4, pt4, pf4⟩ := hP4
    have hs0 : s 7 = false := Bool.eq_false_iff.2 fun h => (by have := hQ4 h; simp [hsk] at this)
    obtain ⟨q4_0, q4_1⟩ := pf4 hs0
    subst q4_0
    subst q4_1
    clear hs0
    have kp4_0 := cell_of_row w' (w.heap.size + 1) 0 _ _ _ pb4
    have kp4_1 := cell_of_row w' (w.heap.size + 1) 1 _ _ _ pb4
    simp only [List.getElem?_toArray, List.getElem?_cons_zero, List.getElem?_cons_succ] at kp4_0 kp4_1
    have kq4 : ∀ o, w'.frozen? ⟨w.heap.size + 1, o, none⟩ = false := fun o => frozen_of_row w' _ o _ _ pb4
    have hPB4 := Lib.hid pb4
    clear pb4
    have hPT4 := Lib.hid pt4
    clear pt4
    have hPF4 := Lib.hid pf4
    clear pf4
    obtain ⟨b5_0, b5_1, pb5, pt5, pf5⟩ := hP5
    have hs0 : s 8 = false := Bool.eq_false_iff.2 fun h => (by have := hQ5 h; simp [hsk] at this)
    obtain ⟨q5_0, q5_1⟩ := pf5 hs0
    subst q5_0
    subst q5_1
    clear hs0
    have kp5_0 := cell_of_row w' (w.heap.size + 2) 0 _ _ _ pb5
    have kp5_1 := cell_of_row w' (w.heap.size + 2) 1 _ _ _ pb5
    simp only [List.getElem?_toArray, List.getElem?_cons_zero, List.getElem?_cons_succ] at kp5_0 kp5_1
    have kq5 : ∀ o, w'.frozen? ⟨w.heap.size + 2, o, none⟩ = false := fun o => frozen_of_row w' _ o _ _ pb5
    have hPB5 := Lib.hid pb5
    clear pb5
    have hPT5 := Lib.hid pt5
    clear pt5
    have hPF5 := Lib.hid pf5
    clear pf5
    have hd0 : s 0 = true := hdep ⟨0, .phase⟩ (by simp) rfl
    have hd1 : s 1 = true := hdep ⟨1, .data⟩ (by simp) rfl
    have hd5 : s 5 = true := hdep ⟨5, .chain⟩ (by simp) rfl
    clear hdep
    refine StepG.mk rfl ?_; rw [ha0]; simp only [putL, Act.put, List.setIfInBounds_toArray, List.set_cons_zero, List.set_cons_succ]
    go_wp2_with fail
    refine HK.out _ _ ?_
    refine ⟨v19, (.agg #[.int .i64 X1, .int .i64 X2]), v21, v22, v23, v24, (by rw [ha0]; simp only [putL, Act.put, List.setIfInBounds_toArray, List.set_cons_zero, List.set_cons_succ]), ?_, ?_, ?_, ?_, ?_, ?_, ?_, ?_, trivial⟩
    · obtain ⟨h19, h20, h21, h22, h23, h24, _⟩ := hR.out
      exact Lib.hid ⟨fun h => h19 (by simpa using h), fun _ => rfl, fun h => h21 (by simpa using h), fun h => h22 (by simpa using h), fun h => h23 (by simpa using h), fun h => h24 (by simpa using h), trivial⟩
    · exact ((hX.setOld (p := ⟨w.heap.size, 0, none⟩) (by simp) _).setOld (p := ⟨w.heap.size, 1, none⟩) (by simp) _)
    · exact ⟨_, _, blk_set2 hPB3.out, fun _ => ⟨rfl, rfl⟩, fun h => (by simp at h)⟩
    · exact fun _ => (by simp [hd0, hd1, hd5])
    · exact ⟨_, _, blk_far2 (by simp <;> omega) hPB4.out, fun h => hPT4.out (by simpa using h), fun h => ⟨rfl, rfl⟩⟩
    · exact fun h => (by have h1 := hQ4 (by simpa using h); simp [h1])
    · exact ⟨_, _, blk_far2 (by simp <;> omega) hPB5.out, fun h => hPT5.out (by simpa using h), fun h => ⟨rfl, rfl⟩⟩
    · exact fun h => (by have h1 := hQ5 (by simpa using h); simp [h1])
  case x1hs7 =>
    intro s a' w' hsk hdep hI K hK
    try dsimp only at hI hK
    obtain ⟨v19, v20, v21, v22, v23, v24, hact, hR, hX, hP3, hQ3, hP4, hQ4, hP5, hQ5, _⟩ := hI
    subst hact
    have HK := Lib.hid hK
    clear hK
    have e22 : v22 = .agg #[.int .i64 Y1, .int .i64 Y2] := by obtain ⟨h19, h20, h21, h22, h23, h24, _⟩ := hR.out; exact h22 (hdep ⟨3, .data⟩ (by simp) rfl)
    subst e22
    obtain ⟨b3_0, b3_1, pb3, pt3, pf3⟩ := hP3
    have kp3_0 := cell_of_row w' (w.heap.size) 0 _ _ _ pb3
    have kp3_1 := cell_of_row w' (w.heap.size) 1 _ _ _ pb3
    simp only [List.getElem?_toArray, List.getElem?_cons_zero, List.getElem?_cons_succ] at kp3_0 kp3_1
    have kq3 : ∀ o, w'.frozen? ⟨w.heap.size, o, none⟩ = false := fun o => frozen_of_row w' _ o _ _ pb3
    have hPB3 := Lib.hid pb3
    clear pb3
    have hPT3 := Lib.hid pt3
    clear pt3
    have hPF3 := Lib.hid pf3
    clear pf3
    obtain ⟨b4_0, b4_1, pb4, pt4, pf4⟩ := hP4
    have hs0 : s 7 = false := hsk
    obtain ⟨q4_0, q4_1⟩ := pf4 hs0
    subst q4_0
    subst q4_1
    clear hs0
    have kp4_0 := cell_of_row w' (w.heap.size + 1) 0 _ _ _ pb4
    have kp4_1 := cell_of_row w' (w.heap.size + 1) 1 _ _ _ pb4
    simp only [List.getElem?_toArray, List.getElem?_cons_zero, List.getElem?_cons_succ] at kp4_0 kp4_1
    have kq4 : ∀ o, w'.frozen? ⟨w.heap.size + 1, o, none⟩ = false := fun o => frozen_of_row w' _ o _ _ pb4
    have hPB4 := Lib.hid pb4
    clear pb4
    have hPT4 := Lib.hid pt4
    clear pt4
    have hPF4 := Lib.hid pf4
    clear pf4
    obtain ⟨b5_0, b5_1, pb5, pt5, pf5⟩ := hP5
    have hs0 : s 8 = false := Bool.eq_false_iff.2 fun h => (by have := hQ5 h; simp [hsk] at this)
    obtain ⟨q5_0, q5_1⟩ := pf5 hs0
    subst q5_0
    subst q5_1
    clear hs0
    have kp5_0 := cell_of_row w' (w.heap.size + 2) 0 _ _ _ pb5
    have kp5_1 := cell_of_row w' (w.heap.size + 2) 1 _ _ _ pb5
    simp only [List.getElem?_toArray, List.getElem?_cons_zero, List.getElem?_cons_succ] at kp5_0 kp5_1
    have kq5 : ∀ o, w'.frozen? ⟨w.heap.size + 2, o, none⟩ = false := fun o => frozen_of_row w' _ o _ _ pb5
    have hPB5 := Lib.hid pb5
    clear pb5
    have hPT5 := Lib.hid pt5
    clear pt5
    have hPF5 := Lib.hid pf5
    clear pf5
    have hd0 : s 0 = true := hdep ⟨0, .phase⟩ (by simp) rfl
    have hd1 : s 1 = true := hdep ⟨1, .phase⟩ (by simp) rfl
    have hd2 : s 2 = true := hdep ⟨2, .phase⟩ (by simp) rfl
    have hd3 : s 3 = true := hdep ⟨3, .data⟩ (by simp) rfl
    have hd6 : s 6 = true := hdep ⟨6, .chain⟩ (by simp) rfl
    clear hdep
    refine StepG.mk rfl ?_; rw [ha0]; simp only [putL, Act.put, List.setIfInBounds_toArray, List.set_cons_zero, List.set_cons_succ]
    go_wp2_with fail
    refine HK.out _ _ ?_
    refine ⟨v19, v20, v21, (.agg #[.int .i64 Y1, .int .i64 Y2]), v23, v24, (by rw [ha0]; simp only [putL, Act.put, List.setIfInBounds_toArray, List.set_cons_zero, List.set_cons_succ]), ?_, ?_, ?_, ?_, ?_, ?_, ?_, ?_, trivial⟩
    · obtain ⟨h19, h20, h21, h22, h23, h24, _⟩ := hR.out
      exact Lib.hid ⟨fun h => h19 (by simpa using h), fun h => h20 (by simpa using h), fun h => h21 (by simpa using h), fun _ => rfl, fun h => h23 (by simpa using h), fun h => h24 (by simpa using h), trivial⟩
    · exact ((hX.setOld (p := ⟨w.heap.size + 1, 0, none⟩) (by simp) _).setOld (p := ⟨w.heap.size + 1, 1, none⟩) (by simp) _)
    · exact ⟨_, _, blk_far2 (by simp <;> omega) hPB3.out, fun h => hPT3.out (by simpa using h), fun h => (hPF3.out (by simpa using h))⟩
    · exact fun h => (by have h1 := hQ3 (by simpa using h); simp [h1])
    · exact ⟨_, _, blk_set2 hPB4.out, fun _ => ⟨rfl, rfl⟩, fun h => (by simp at h)⟩
    · exact fun _ => (by simp [hd0, hd1, hd2, hd3, hd6])
    · exact ⟨_, _, blk_far2 (by simp <;> omega) hPB5.out, fun h => hPT5.out (by simpa using h), fun h => ⟨rfl, rfl⟩⟩
    · exact fun h => (by have h1 := hQ5 (by simpa using h); simp [h1])
  case x1hs8 =>
    intro s a' w' hsk hdep hI K hK
    try dsimp only at hI hK
    obtain ⟨v19, v20, v21, v22, v23, v24, hact, hR, hX, hP3, hQ3, hP4, hQ4, hP5, hQ5, _⟩ := hI
    subst hact
    have HK := Lib.hid hK
    clear hK
    have e24 : v24 = .agg #[.int .i64 Z1, .int .i64 Z2] := by obtain ⟨h19, h20, h21, h22, h23, h24, _⟩ := hR.out; exact h24 (hdep ⟨5, .data⟩ (by simp) rfl)
    subst e24
    obtain ⟨b3_0, b3_1, pb3, pt3, pf3⟩ := hP3
    have kp3_0 := cell_of_row w' (w.heap.size) 0 _ _ _ pb3
    have kp3_1 := cell_of_row w' (w.heap.size) 1 _ _ _ pb3
    simp only [List.getElem?_toArray, List.getElem?_cons_zero, List.getElem?_cons_succ] at kp3_0 kp3_1
    have kq3 : ∀ o, w'.frozen? ⟨w.heap.size, o, none⟩ = false := fun o => frozen_of_row w' _ o _ _ pb3
    have hPB3 := Lib.hid pb3
    clear pb3
    have hPT3 := Lib.hid pt3
    clear pt3
    have hPF3 := Lib.hid pf3
    clear pf3
    obtain ⟨b4_0, b4_1, pb4, pt4, pf4⟩ := hP4
    have kp4_0 := cell_of_row w' (w.heap.size + 1) 0 _ _ _ pb4
    have kp4_1 := cell_of_row w' (w.heap.size + 1) 1 _ _ _ pb4
    simp only [List.getElem?_toArray, List.getElem?_cons_zero, List.getElem?_cons_succ] at kp4_0 kp4_1
    have kq4 : ∀ o, w'.frozen? ⟨w.heap.size + 1, o, none⟩ = false := fun o => frozen_of_row w' _ o _ _ pb4
    have hPB4 := Lib.hid pb4
    clear pb4
    have hPT4 := Lib.hid pt4
    clear pt4
    have hPF4 := Lib.hid pf4
    clear pf4
    obtain ⟨b5_0, b5_1, pb5, pt5, pf5⟩ := hP5
    have hs0 : s 8 = false := hsk
    obtain ⟨q5_0, q5_1⟩ := pf5 hs0
    subst q5_0
    subst q5_1
    clear hs0
    have kp5_0 := cell_of_row w' (w.heap.size + 2) 0 _ _ _ pb5
    have kp5_1 := cell_of_row w' (w.heap.size + 2) 1 _ _ _ pb5
    simp only [List.getElem?_toArray, List.getElem?_cons_zero, List.getElem?_cons_succ] at kp5_0 kp5_1
    have kq5 : ∀ o, w'.frozen? ⟨w.heap.size + 2, o, none⟩ = false := fun o => frozen_of_row w' _ o _ _ pb5
    have hPB5 := Lib.hid pb5
    clear pb5
    have hPT5 := Lib.hid pt5
    clear pt5
    have hPF5 := Lib.hid pf5
    clear pf5
    have hd0 : s 0 = true := hdep ⟨0, .phase⟩ (by simp) rfl
    have hd1 : s 1 = true := hdep ⟨1, .phase⟩ (by simp) rfl
    have hd2 : s 2 = true := hdep ⟨2, .phase⟩ (by simp) rfl
    have hd3 : s 3 = true := hdep ⟨3, .phase⟩ (by simp) rfl
    have hd4 : s 4 = true := hdep ⟨4, .phase⟩ (by simp) rfl
    have hd5 : s 5 = true := hdep ⟨5, .data⟩ (by simp) rfl
    have hd6 : s 6 = true := hdep ⟨6, .phase⟩ (by simp) rfl
    have hd7 : s 7 = true := hdep ⟨7, .chain⟩ (by simp) rfl
    clear hdep
    refine StepG.mk rfl ?_; rw [ha0]; simp only [putL, Act.put, List.setIfInBounds_toArray, List.set_cons_zero, List.set_cons_succ]
    go_wp2_with fail
    refine HK.out _ _ ?_
    refine ⟨v19, v20, v21, v22, v23, (.agg #[.int .i64 Z1, .int .i64 Z2]), (by rw [ha0]; simp only [putL, Act.put, List.setIfInBounds_toArray, List.set_cons_zero, List.set_cons_succ]), ?_, ?_, ?_, ?_, ?_, ?_, ?_, ?_, trivial⟩
    · obtain ⟨h19, h20, h21, h22, h23, h24, _⟩ := hR.out
      exact Lib.hid ⟨fun h => h19 (by simpa using h), fun h => h20 (by simpa using h), fun h => h21 (by simpa using h), fun h => h22 (by simpa using h), fun h => h23 (by simpa using h), fun _ => rfl, trivial⟩
    · exact ((hX.setOld (p := ⟨w.heap.size + 2, 0, none⟩) (by simp) _).setOld (p := ⟨w.heap.size + 2, 1, none⟩) (by simp) _)
    · exact ⟨_, _, blk_far2 (by simp <;> omega) hPB3.out, fun h => hPT3.out (by simpa using h), fun h => (hPF3.out (by simpa using h))⟩
    · exact fun h => (by have h1 := hQ3 (by simpa using h); simp [h1])
    · exact ⟨_, _, blk_far2 (by simp <;> omega) hPB4.out, fun h => hPT4.out (by simpa using h), fun h => (hPF4.out (by simpa using h))⟩
    · exact fun h => (by have h1 := hQ4 (by simpa using h); simp [h1])
    · exact ⟨_, _, blk_set2 hPB5.out, fun _ => ⟨rfl, rfl⟩, fun h => (by simp at h)⟩
    · exact fun _ => (by simp [hd0, hd1, hd2, hd3, hd4, hd5, hd6, hd7])
  intro s a' w2 hall hI
  try dsimp only at hI
  obtain ⟨v19, v20, v21, v22, v23, v24, hact, hR, hXR, hP3, hQ3, hP4, hQ4, hP5, hQ5, _⟩ := hI
  subst hact
  obtain ⟨h19, h20, h21, h22, h23, h24, _⟩ := hR.out
  clear hR
  have e19 := h19 (hall 0 (by decide))
  subst e19
  clear h19
  have e20 := h20 (hall 1 (by decide))
  subst e20
  clear h20
  have e21 := h21 (hall 2 (by decide))
  subst e21
  clear h21
  have e22 := h22 (hall 3 (by decide))
  subst e22
  clear h22
  have e23 := h23 (hall 4 (by decide))
  subst e23
  clear h23
  have e24 := h24 (hall 5 (by decide))
  subst e24
  clear h24
  obtain ⟨c0, c1, pblkR3, hpt, _⟩ := hP3
  clear hQ3
  obtain ⟨es0, es1⟩ := hpt (hall 6 (by decide))
  subst es0
  subst es1
  clear hpt
  try clear pblk3
  have pblk3 := pblkR3
  clear pblkR3
  obtain ⟨c0, c1, pblkR4, hpt, _⟩ := hP4
  clear hQ4
  obtain ⟨es0, es1⟩ := hpt (hall 7 (by decide))
  subst es0
  subst es1
  clear hpt
  try clear pblk4
  have pblk4 := pblkR4
  clear pblkR4
  obtain ⟨c0, c1, pblkR5, hpt, _⟩ := hP5
  clear hQ5
  obtain ⟨es0, es1⟩ := hpt (hall 8 (by decide))
  subst es0
  subst es1
  clear hpt
  try clear pblk5
  have pblk5 := pblkR5
  clear pblkR5
  clear hall
  rw [ha0]; simp only [putL, Act.put, List.setIfInBounds_toArray, List.set_cons_zero, List.set_cons_succ]
  clear ha0
  have B2 : Below w.heap.size w w2 := hXR.below (by first | assumption | exact (by repeat (first | exact Below.refl _ _ | exact Nat.le_refl _ | refine Below.alloc ?_ ?_ _ | refine Below.setCell ?_ ?_ _ | refine Below.drew ?_ | refine bl_drewN ?_ _ | (assumption) | refine bl_call ?_ (by assumption) ?_ | omega | (simp <;> omega)))) (by first | omega | (simp <;> omega)) (by simp <;> omega)
  have ce1_0 := row2_0 pblk3
  have ce1_1 := row2_1 pblk3
  have ce2_0 := row2_0 pblk4
  have ce2_1 := row2_1 pblk4
  have ce3_0 := row2_0 pblk5
  have ce3_1 := row2_1 pblk5
  clear hXR
  have hsz_2 := B2.size
  have zz2 := blk_lt pblk5
  go_wp2_with fail
  refine (HA.out _).mono ?_
  rintro e w3 ⟨rfl, hb3⟩
  have z3_0 : w.heap.size < w3.heap.size := by have := hb3.size; (try simp at this); omega
  have z3_1 : w.heap.size + 1 < w3.heap.size := by have := hb3.size; (try simp at this); omega
  have cew_heap_size3_0 : w3.cell? ⟨w.heap.size, 0, none⟩ = some (.int .i64 X1) := keep_cell hb3 (by first | assumption | (go_simp; done) | (simp; done) | simp [*])
  have zew_heap_size3 : w.heap.size < w3.heap.size := block_lt_of_cell cew_heap_size3_0
  have cew_heap_size3_1 : w3.cell? ⟨w.heap.size, 1, none⟩ = some (.int .i64 X2) := keep_cell hb3 (by first | assumption | (go_simp; done) | (simp; done) | simp [*])
  have cew_heap_size_13_0 : w3.cell? ⟨w.heap.size + 1, 0, none⟩ = some (.int .i64 Y1) := keep_cell hb3 (by first | assumption | (go_simp; done) | (simp; done) | simp [*])
  have zew_heap_size_13 : w.heap.size + 1 < w3.heap.size := block_lt_of_cell cew_heap_size_13_0
  have cew_heap_size_13_1 : w3.cell? ⟨w.heap.size + 1, 1, none⟩ = some (.int .i64 Y2) := keep_cell hb3 (by first | assumption | (go_simp; done) | (simp; done) | simp [*])
  have cew_heap_size_23_0 : w3.cell? ⟨w.heap.size + 2, 0, none⟩ = some (.int .i64 Z1) := keep_cell hb3 (by first | assumption | (go_simp; done) | (simp; done) | simp [*])
  have zew_heap_size_23 : w.heap.size + 2 < w3.heap.size := block_lt_of_cell cew_heap_size_23_0
  have cew_heap_size_23_1 : w3.cell? ⟨w.heap.size + 2, 1, none⟩ = some (.int .i64 Z2) := keep_cell hb3 (by first | assumption | (go_simp; done) | (simp; done) | simp [*])
  have B3 : Below w.heap.size w w3 := bl_call (by repeat (first | exact Below.refl _ _ | exact Nat.le_refl _ | refine Below.alloc ?_ ?_ _ | refine Below.setCell ?_ ?_ _ | refine Below.drew ?_ | refine bl_drewN ?_ _ | (assumption) | refine bl_call ?_ (by assumption) ?_ | omega | (simp <;> omega))) hb3 (by first | assumption | (simp; done) | (simp; omega) | omega)
  clear hb3
  have hsz_3 := B3.size
  go_wp2_with fail
  refine (HB.out _).mono ?_
  rintro e w4 ⟨rfl, hb4⟩
  have z4_0 : w.heap.size < w4.heap.size := by have := hb4.size; (try simp at this); omega
  have z4_1 : w.heap.size + 1 < w4.heap.size := by have := hb4.size; (try simp at this); omega
  have cew_heap_size4_0 : w4.cell? ⟨w.heap.size, 0, none⟩ = some (.int .i64 X1) := keep_cell hb4 (by first | assumption | (go_simp; done) | (simp; done) | simp [*])
  have zew_heap_size4 : w.heap.size < w4.heap.size := block_lt_of_cell cew_heap_size4_0
  have cew_heap_size4_1 : w4.cell? ⟨w.heap.size, 1, none⟩ = some (.int .i64 X2) := keep_cell hb4 (by first | assumption | (go_simp; done) | (simp; done) | simp [*])
  have cew_heap_size_14_0 : w4.cell? ⟨w.heap.size + 1, 0, none⟩ = some (.int .i64 Y1) := keep_cell hb4 (by first | assumption | (go_simp; done) | (simp; done) | simp [*])
  have zew_heap_size_14 : w.heap.size + 1 < w4.heap.size := block_lt_of_cell cew_heap_size_14_0
  have cew_heap_size_14_1 : w4.cell? ⟨w.heap.size + 1, 1, none⟩ = some (.int .i64 Y2) := keep_cell hb4 (by first | assumption | (go_simp; done) | (simp; done) | simp [*])
  have cew_heap_size_24_0 : w4.cell? ⟨w.heap.size + 2, 0, none⟩ = some (.int .i64 Z1) := keep_cell hb4 (by first | assumption | (go_simp; done) | (simp; done) | simp [*])
  have zew_heap_size_24 : w.heap.size + 2 < w4.heap.size := block_lt_of_cell cew_heap_size_24_0
  have cew_heap_size_24_1 : w4.cell? ⟨w.heap.size + 2, 1, none⟩ = some (.int .i64 Z2) := keep_cell hb4 (by first | assumption | (go_simp; done) | (simp; done) | simp [*])
  have B4 : Below w.heap.size w w4 := bl_call (by repeat (first | exact Below.refl _ _ | exact Nat.le_refl _ | refine Below.alloc ?_ ?_ _ | refine Below.setCell ?_ ?_ _ | refine Below.drew ?_ | refine bl_drewN ?_ _ | (assumption) | refine bl_call ?_ (by assumption) ?_ | omega | (simp <;> omega))) hb4 (by first | assumption | (simp; done) | (simp; omega) | omega)
  clear hb4
  have hsz_4 := B4.size
  go_upto_region 4 with fail
  refine with_act fun a0 ha0 => ?_
  refine wp_region_inv (by kernel_rfl) (by kernel_rfl) (fun s a' w' => ∃ v38 v39 v40 v41 v42 v43 v44 v37 v45 v46 v11 v12 : Value, a' = putL a0 [(38, v38), (39, v39), (40, v40), (41, v41), (42, v42), (43, v43), (44, v44), (37, v37), (45, v45), (46, v46), (11, v11), (12, v12)] ∧ Hid ((s 0 = true → v38 = .agg #[.int .i64 X1, .int .i64 X2]) ∧ (s 1 = true → v39 = .agg #[.int .i64 Z1, .int .i64 Z2]) ∧ (s 2 = true → v40 = .agg #[.int .i64 (X1 + Z1), .int .i64 (X2 + Z2)]) ∧ (s 3 = true → v41 = .agg #[.int .i64 Y1, .int .i64 Y2]) ∧ (s 4 = true → v42 = .agg #[.int .i64 Z1, .int .i64 Z2]) ∧ (s 5 = true → v43 = .agg #[.int .i64 (Y1 + Z1), .int .i64 (Y2 + Z2)]) ∧ (s 6 = true → v44 = .tuple #[.int .i64 S, .int .i64 0]) ∧ (s 7 = true → v37 = .tuple #[.int .i64 S, .int .i64 0]) ∧ (s 8 = true → v45 = .int .i64 S) ∧ (s 9 = true → v46 = .int .i64 0) ∧ (s 10 = true → v11 = .int .i64 S) ∧ (s 11 = true → v12 = .int .i64 0) ∧ True) ∧ BelX [] w4 w' ∧ True) ?x2hzero ⟨?x2hs0, ?x2hs1, ?x2hs2, ?x2hs3, ?x2hs4, ?x2hs5, ?x2hs6, ?x2hs7, ?x2hs8, ?x2hs9, ?x2hs10, ?x2hs11, trivial⟩ ?x2hdone
  case x2hzero =>
    refine ⟨a0.tmps.getD 38 undef, a0.tmps.getD 39 undef, a0.tmps.getD 40 undef, a0.tmps.getD 41 undef, a0.tmps.getD 42 undef, a0.tmps.getD 43 undef, a0.tmps.getD 44 undef, a0.tmps.getD 37 undef, a0.tmps.getD 45 undef, a0.tmps.getD 46 undef, a0.tmps.getD 11 undef, a0.tmps.getD 12 undef, ?_, ?_, ?_, trivial⟩
    · simp only [putL, put_self]
    · exact Lib.hid ⟨fun h => (by simp at h), fun h => (by simp at h), fun h => (by simp at h), fun h => (by simp at h), fun h => (by simp at h), fun h => (by simp at h), fun h => (by simp at h), fun h => (by simp at h), fun h => (by simp at h), fun h => (by simp at h), fun h => (by simp at h), fun h => (by simp at h), trivial⟩
    · exact BelX.start _ _
  case x2hs0 =>
    intro s a' w' hsk hdep hI K hK
    try dsimp only at hI hK
    obtain ⟨v38, v39, v40, v41, v42, v43, v44, v37, v45, v46, v11, v12, hact, hR, hX, _⟩ := hI
    subst hact
    have HK := Lib.hid hK
    clear hK
    have kc0 : w'.cell? ⟨w.heap.size, 0, none⟩ = some (.int .i64 X1) := hX.cell (by first | (simp; done) | (simp; omega)) (by first | assumption | (go_simp; done) | (simp; done))
    have kc1 : w'.cell? ⟨w.heap.size, 1, none⟩ = some (.int .i64 X2) := hX.cell (by first | (simp; done) | (simp; omega)) (by first | assumption | (go_simp; done) | (simp; done))
    have kc2 : w'.cell? ⟨w.heap.size + 1, 0, none⟩ = some (.int .i64 Y1) := hX.cell (by first | (simp; done) | (simp; omega)) (by first | assumption | (go_simp; done) | (simp; done))
    have kc3 : w'.cell? ⟨w.heap.size + 1, 1, none⟩ = some (.int .i64 Y2) := hX.cell (by first | (simp; done) | (simp; omega)) (by first | assumption | (go_simp; done) | (simp; done))
    have kc4 : w'.cell? ⟨w.heap.size + 2, 0, none⟩ = some (.int .i64 Z1) := hX.cell (by first | (simp; done) | (simp; omega)) (by first | assumption | (go_simp; done) | (simp; done))
    have kc5 : w'.cell? ⟨w.heap.size + 2, 1, none⟩ = some (.int .i64 Z2) := hX.cell (by first | (simp; done) | (simp; omega)) (by first | assumption | (go_simp; done) | (simp; done))
    clear hdep
    refine StepG.mk rfl ?_; rw [ha0]; simp only [putL, Act.put, List.setIfInBounds_toArray, List.set_cons_zero, List.set_cons_succ]
    go_wp2_with fail
    refine HK.out _ _ ?_
    refine ⟨(.agg #[.int .i64 X1, .int .i64 X2]), v39, v40, v41, v42, v43, v44, v37, v45, v46, v11, v12, (by rw [ha0]; simp only [putL, Act.put, List.setIfInBounds_toArray, List.set_cons_zero, List.set_cons_succ]), ?_, ?_, trivial⟩
    · obtain ⟨h38, h39, h40, h41, h42, h43, h44, h37, h45, h46, h11, h12, _⟩ := hR.out
      exact Lib.hid ⟨fun _ => rfl, fun h => h39 (by simpa using h), fun h => h40 (by simpa using h), fun h => h41 (by simpa using h), fun h => h42 (by simpa using h), fun h => h43 (by simpa using h), fun h => h44 (by simpa using h), fun h => h37 (by simpa using h), fun h => h45 (by simpa using h), fun h => h46 (by simpa using h), fun h => h11 (by simpa using h), fun h => h12 (by simpa using h), trivial⟩
    · exact hX
  case x2hs1 =>
    intro s a' w' hsk hdep hI K hK
    try dsimp only at hI hK
    obtain ⟨v38, v39, v40, v41, v42, v43, v44, v37, v45, v46, v11, v12, hact, hR, hX, _⟩ := hI
    subst hact
    have HK := Lib.hid hK
    clear hK
    have kc0 : w'.cell? ⟨w.heap.size, 0, none⟩ = some (.int .i64 X1) := hX.cell (by first | (simp; done) | (simp; omega)) (by first | assumption | (go_simp; done) | (simp; done))
    have kc1 : w'.cell? ⟨w.heap.size, 1, none⟩ = some (.int .i64 X2) := hX.cell (by first | (simp; done) | (simp; omega)) (by first | assumption | (go_simp; done) | (simp; done))
    have kc2 : w'.cell? ⟨w.heap.size + 1, 0, none⟩ = some (.int .i64 Y1) := hX.cell (by first | (simp; done) | (simp; omega)) (by first | assumption | (go_simp; done) | (simp; done))
    have kc3 : w'.cell? ⟨w.heap.size + 1, 1, none⟩ = some (.int .i64 Y2) := hX.cell (by first | (simp; done) | (simp; omega)) (by first | assumption | (go_simp; done) | (simp; done))
    have kc4 : w'.cell? ⟨w.heap.size + 2, 0, none⟩ = some (.int .i64 Z1) := hX.cell (by first | (simp; done) | (simp; omega)) (by first | assumption | (go_simp; done) | (simp; done))
    have kc5 : w'.cell? ⟨w.heap.size + 2, 1, none⟩ = some (.int .i64 Z2) := hX.cell (by first | (simp; done) | (simp; omega)) (by first | assumption | (go_simp; done) | (simp; done))
    clear hdep
    refine StepG.mk rfl ?_; rw [ha0]; simp only [putL, Act.put, List.setIfInBounds_toArray, List.set_cons_zero, List.set_cons_succ]
    go_wp2_with fail
    refine HK.out _ _ ?_
    refine ⟨v38, (.agg #[.int .i64 Z1, .int .i64 Z2]), v40, v41, v42, v43, v44, v37, v45, v46, v11, v12, (by rw [ha0]; simp only [putL, Act.put, List.setIfInBounds_toArray, List.set_cons_zero, List.set_cons_succ]), ?_, ?_, trivial⟩
    · obtain ⟨h38, h39, h40, h41, h42, h43, h44, h37, h45, h46, h11, h12, _⟩ := hR.out
      exact Lib.hid ⟨fun h => h38 (by simpa using h), fun _ => rfl, fun h => h40 (by simpa using h), fun h => h41 (by simpa using h), fun h => h42 (by simpa using h), fun h => h43 (by simpa using h), fun h => h44 (by simpa using h), fun h => h37 (by simpa using h), fun h => h45 (by simpa using h), fun h => h46 (by simpa using h), fun h => h11 (by simpa using h), fun h => h12 (by simpa using h), trivial⟩
    · exact hX
  case x2hs2 =>
    intro s a' w' hsk hdep hI K hK
    try dsimp only at hI hK
    obtain ⟨v38, v39, v40, v41, v42, v43, v44, v37, v45, v46, v11, v12, hact, hR, hX, _⟩ := hI
    subst hact
    have HK := Lib.hid hK
    clear hK
    have e38 : v38 = .agg #[.int .i64 X1, .int .i64 X2] := by obtain ⟨h38, h39, h40, h41, h42, h43, h44, h37, h45, h46, h11, h12, _⟩ := hR.out; exact h38 (hdep ⟨0, .data⟩ (by simp) rfl)
    subst e38
    have e39 : v39 = .agg #[.int .i64 Z1, .int .i64 Z2] := by obtain ⟨h38, h39, h40, h41, h42, h43, h44, h37, h45, h46, h11, h12, _⟩ := hR.out; exact h39 (hdep ⟨1, .data⟩ (by simp) rfl)
    subst e39
    have kc0 : w'.cell? ⟨w.heap.size, 0, none⟩ = some (.int .i64 X1) := hX.cell (by first | (simp; done) | (simp; omega)) (by first | assumption | (go_simp; done) | (simp; done))
    have kc1 : w'.cell? ⟨w.heap.size, 1, none⟩ = some (.int .i64 X2) := hX.cell (by first | (simp; done) | (simp; omega)) (by first | assumption | (go_simp; done) | (simp; done))
    have kc2 : w'.cell? ⟨w.heap.size + 1, 0, none⟩ = some (.int .i64 Y1) := hX.cell (by first | (simp; done) | (simp; omega)) (by first | assumption | (go_simp; done) | (simp; done))
    have kc3 : w'.cell? ⟨w.heap.size + 1, 1, none⟩ = some (.int .i64 Y2) := hX.cell (by first | (simp; done) | (simp; omega)) (by first | assumption | (go_simp; done) | (simp; done))
    have kc4 : w'.cell? ⟨w.heap.size + 2, 0, none⟩ = some (.int .i64 Z1) := hX.cell (by first | (simp; done) | (simp; omega)) (by first | assumption | (go_simp; done) | (simp; done))
    have kc5 : w'.cell? ⟨w.heap.size + 2, 1, none⟩ = some (.int .i64 Z2) := hX.cell (by first | (simp; done) | (simp; omega)) (by first | assumption | (go_simp; done) | (simp; done))
    clear hdep
    refine StepG.mk rfl ?_; rw [ha0]; simp only [putL, Act.put, List.setIfInBounds_toArray, List.set_cons_zero, List.set_cons_succ]
    go_wp2_with fail
    refine ((refPlus _ _ _ _ _ (by omega) (by omega) (by omega) (by omega))).mono ?_
    rintro e wn ⟨rfl, hb⟩
    go_wp2_with fail
    refine HK.out _ _ ?_
    refine ⟨(.agg #[.int .i64 X1, .int .i64 X2]), (.agg #[.int .i64 Z1, .int .i64 Z2]), (.agg #[.int .i64 (X1 + Z1), .int .i64 (X2 + Z2)]), v41, v42, v43, v44, v37, v45, v46, v11, v12, (by rw [ha0]; simp only [putL, Act.put, List.setIfInBounds_toArray, List.set_cons_zero, List.set_cons_succ]), ?_, ?_, trivial⟩
    · obtain ⟨h38, h39, h40, h41, h42, h43, h44, h37, h45, h46, h11, h12, _⟩ := hR.out
      exact Lib.hid ⟨fun _ => rfl, fun _ => rfl, fun _ => rfl, fun h => h41 (by simpa using h), fun h => h42 (by simpa using h), fun h => h43 (by simpa using h), fun h => h44 (by simpa using h), fun h => h37 (by simpa using h), fun h => h45 (by simpa using h), fun h => h46 (by simpa using h), fun h => h11 (by simpa using h), fun h => h12 (by simpa using h), trivial⟩
    · exact hX.call hb
  case x2hs3 =>
    intro s a' w' hsk hdep hI K hK
    try dsimp only at hI hK
    obtain ⟨v38, v39, v40, v41, v42, v43, v44, v37, v45, v46, v11, v12, hact, hR, hX, _⟩ := hI
    subst hact
    have HK := Lib.hid hK
    clear hK
    have kc0 : w'.cell? ⟨w.heap.size, 0, none⟩ = some (.int .i64 X1) := hX.cell (by first | (simp; done) | (simp; omega)) (by first | assumption | (go_simp; done) | (simp; done))
    have kc1 : w'.cell? ⟨w.heap.size, 1, none⟩ = some (.int .i64 X2) := hX.cell (by first | (simp; done) | (simp; omega)) (by first | assumption | (go_simp; done) | (simp; done))
    have kc2 : w'.cell? ⟨w.heap.size + 1, 0, none⟩ = some (.int .i64 Y1) := hX.cell (by first | (simp; done) | (simp; omega)) (by first | assumption | (go_simp; done) | (simp; done))
    have kc3 : w'.cell? ⟨w.heap.size + 1, 1, none⟩ = some (.int .i64 Y2) := hX.cell (by first | (simp; done) | (simp; omega)) (by first | assumption | (go_simp; done) | (simp; done))
    have kc4 : w'.cell? ⟨w.heap.size + 2, 0, none⟩ = some (.int .i64 Z1) := hX.cell (by first | (simp; done) | (simp; omega)) (by first | assumption | (go_simp; done) | (simp; done))
    have kc5 : w'.cell? ⟨w.heap.size + 2, 1, none⟩ = some (.int .i64 Z2) := hX.cell (by first | (simp; done) | (simp; omega)) (by first | assumption | (go_simp; done) | (simp; done))
    clear hdep
    refine StepG.mk rfl ?_; rw [ha0]; simp only [putL, Act.put, List.setIfInBounds_toArray, List.set_cons_zero, List.set_cons_succ]
    go_wp2_with fail
    refine HK.out _ _ ?_
    refine ⟨v38, v39, v40, (.agg #[.int .i64 Y1, .int .i64 Y2]), v42, v43, v44, v37, v45, v46, v11, v12, (by rw [ha0]; simp only [putL, Act.put, List.setIfInBounds_toArray, List.set_cons_zero, List.set_cons_succ]), ?_, ?_, trivial⟩
    · obtain ⟨h38, h39, h40, h41, h42, h43, h44, h37, h45, h46, h11, h12, _⟩ := hR.out
      exact Lib.hid ⟨fun h => h38 (by simpa using h), fun h => h39 (by simpa using h), fun h => h40 (by simpa using h), fun _ => rfl, fun h => h42 (by simpa using h), fun h => h43 (by simpa using h), fun h => h44 (by simpa using h), fun h => h37 (by simpa using h), fun h => h45 (by simpa using h), fun h => h46 (by simpa using h), fun h => h11 (by simpa using h), fun h => h12 (by simpa using h), trivial⟩
    · exact hX
  case x2hs4 =>
    intro s a' w' hsk hdep hI K hK
    try dsimp only at hI hK
    obtain ⟨v38, v39, v40, v41, v42, v43, v44, v37, v45, v46, v11, v12, hact, hR, hX, _⟩ := hI
    subst hact
    have HK := Lib.hid hK
    clear hK
    have kc0 : w'.cell? ⟨w.heap.size, 0, none⟩ = some (.int .i64 X1) := hX.cell (by first | (simp; done) | (simp; omega)) (by first | assumption | (go_simp; done) | (simp; done))
    have kc1 : w'.cell? ⟨w.heap.size, 1, none⟩ = some (.int .i64 X2) := hX.cell (by first | (simp; done) | (simp; omega)) (by first | assumption | (go_simp; done) | (simp; done))
    have kc2 : w'.cell? ⟨w.heap.size + 1, 0, none⟩ = some (.int .i64 Y1) := hX.cell (by first | (simp; done) | (simp; omega)) (by first | assumption | (go_simp; done) | (simp; done))
    have kc3 : w'.cell? ⟨w.heap.size + 1, 1, none⟩ = some (.int .i64 Y2) := hX.cell (by first | (simp; done) | (simp; omega)) (by first | assumption | (go_simp; done) | (simp; done))
    have kc4 : w'.cell? ⟨w.heap.size + 2, 0, none⟩ = some (.int .i64 Z1) := hX.cell (by first | (simp; done) | (simp; omega)) (by first | assumption | (go_simp; done) | (simp; done))
    have kc5 : w'.cell? ⟨w.heap.size + 2, 1, none⟩ = some (.int .i64 Z2) := hX.cell (by first | (simp; done) | (simp; omega)) (by first | assumption | (go_simp; done) | (simp; done))
    clear hdep
    refine StepG.mk rfl ?_; rw [ha0]; simp only [putL, Act.put, List.setIfInBounds_toArray, List.set_cons_zero, List.set_cons_succ]
    go_wp2_with fail
    refine HK.out _ _ ?_
    refine ⟨v38, v39, v40, v41, (.agg #[.int .i64 Z1, .int .i64 Z2]), v43, v44, v37, v45, v46, v11, v12, (by rw [ha0]; simp only [putL, Act.put, List.setIfInBounds_toArray, List.set_cons_zero, List.set_cons_succ]), ?_, ?_, trivial⟩
    · obtain ⟨h38, h39, h40, h41, h42, h43, h44, h37, h45, h46, h11, h12, _⟩ := hR.out
      exact Lib.hid ⟨fun h => h38 (by simpa using h), fun h => h39 (by simpa using h), fun h => h40 (by simpa using h), fun h => h41 (by simpa using h), fun _ => rfl, fun h => h43 (by simpa using h), fun h => h44 (by simpa using h), fun h => h37 (by simpa using h), fun h => h45 (by simpa using h), fun h => h46 (by simpa using h), fun h => h11 (by simpa using h), fun h => h12 (by simpa using h), trivial⟩
    · exact hX
  case x2hs5 =>
    intro s a' w' hsk hdep hI K hK
    try dsimp only at hI hK
    obtain ⟨v38, v39, v40, v41, v42, v43, v44, v37, v45, v46, v11, v12, hact, hR, hX, _⟩ := hI
    subst hact
    have HK := Lib.hid hK
    clear hK
    have e41 : v41 = .agg #[.int .i64 Y1, .int .i64 Y2] := by obtain ⟨h38, h39, h40, h41, h42, h43, h44, h37, h45, h46, h11, h12, _⟩ := hR.out; exact h41 (hdep ⟨3, .data⟩ (by simp) rfl)
    subst e41
    have e42 : v42 = .agg #[.int .i64 Z1, .int .i64 Z2] := by obtain ⟨h38, h39, h40, h41, h42, h43, h44, h37, h45, h46, h11, h12, _⟩ := hR.out; exact h42 (hdep ⟨4, .data⟩ (by simp) rfl)
    subst e42
    have kc0 : w'.cell? ⟨w.heap.size, 0, none⟩ = some (.int .i64 X1) := hX.cell (by first | (simp; done) | (simp; omega)) (by first | assumption | (go_simp; done) | (simp; done))
    have kc1 : w'.cell? ⟨w.heap.size, 1, none⟩ = some (.int .i64 X2) := hX.cell (by first | (simp; done) | (simp; omega)) (by first | assumption | (go_simp; done) | (simp; done))
    have kc2 : w'.cell? ⟨w.heap.size + 1, 0, none⟩ = some (.int .i64 Y1) := hX.cell (by first | (simp; done) | (simp; omega)) (by first | assumption | (go_simp; done) | (simp; done))
    have kc3 : w'.cell? ⟨w.heap.size + 1, 1, none⟩ = some (.int .i64 Y2) := hX.cell (by first | (simp; done) | (simp; omega)) (by first | assumption | (go_simp; done) | (simp; done))
    have kc4 : w'.cell? ⟨w.heap.size + 2, 0, none⟩ = some (.int .i64 Z1) := hX.cell (by first | (simp; done) | (simp; omega)) (by first | assumption | (go_simp; done) | (simp; done))
    have kc5 : w'.cell? ⟨w.heap.size + 2, 1, none⟩ = some (.int .i64 Z2) := hX.cell (by first | (simp; done) | (simp; omega)) (by first | assumption | (go_simp; done) | (simp; done))
    clear hdep
    refine StepG.mk rfl ?_; rw [ha0]; simp only [putL, Act.put, List.setIfInBounds_toArray, List.set_cons_zero, List.set_cons_succ]
    go_wp2_with fail
    refine ((refPlus _ _ _ _ _ (by omega) (by omega) (by omega) (by omega))).mono ?_
    rintro e wn ⟨rfl, hb⟩
    go_wp2_with fail
    refine HK.out _ _ ?_
    refine ⟨v38, v39, v40, (.agg #[.int .i64 Y1, .int .i64 Y2]), (.agg #[.int .i64 Z1, .int .i64 Z2]), (.agg #[.int .i64 (Y1 + Z1), .int .i64 (Y2 + Z2)]), v44, v37, v45, v46, v11, v12, (by rw [ha0]; simp only [putL, Act.put, List.setIfInBounds_toArray, List.set_cons_zero, List.set_cons_succ]), ?_, ?_, trivial⟩
    · obtain ⟨h38, h39, h40, h41, h42, h43, h44, h37, h45, h46, h11, h12, _⟩ := hR.out
      exact Lib.hid ⟨fun h => h38 (by simpa using h), fun h => h39 (by simpa using h), fun h => h40 (by simpa using h), fun _ => rfl, fun _ => rfl, fun _ => rfl, fun h => h44 (by simpa using h), fun h => h37 (by simpa using h), fun h => h45 (by simpa using h), fun h => h46 (by simpa using h), fun h => h11 (by simpa using h), fun h => h12 (by simpa using h), trivial⟩
    · exact hX.call hb
  case x2hs6 =>
    intro s a' w' hsk hdep hI K hK
    try dsimp only at hI hK
    obtain ⟨v38, v39, v40, v41, v42, v43, v44, v37, v45, v46, v11, v12, hact, hR, hX, _⟩ := hI
    subst hact
    have HK := Lib.hid hK
    clear hK
    have e40 : v40 = .agg #[.int .i64 (X1 + Z1), .int .i64 (X2 + Z2)] := by obtain ⟨h38, h39, h40, h41, h42, h43, h44, h37, h45, h46, h11, h12, _⟩ := hR.out; exact h40 (hdep ⟨2, .data⟩ (by simp) rfl)
    subst e40
    have e43 : v43 = .agg #[.int .i64 (Y1 + Z1), .int .i64 (Y2 + Z2)] := by obtain ⟨h38, h39, h40, h41, h42, h43, h44, h37, h45, h46, h11, h12, _⟩ := hR.out; exact h43 (hdep ⟨5, .data⟩ (by simp) rfl)
    subst e43
    have kc0 : w'.cell? ⟨w.heap.size, 0, none⟩ = some (.int .i64 X1) := hX.cell (by first | (simp; done) | (simp; omega)) (by first | assumption | (go_simp; done) | (simp; done))
    have kc1 : w'.cell? ⟨w.heap.size, 1, none⟩ = some (.int .i64 X2) := hX.cell (by first | (simp; done) | (simp; omega)) (by first | assumption | (go_simp; done) | (simp; done))
    have kc2 : w'.cell? ⟨w.heap.size + 1, 0, none⟩ = some (.int .i64 Y1) := hX.cell (by first | (simp; done) | (simp; omega)) (by first | assumption | (go_simp; done) | (simp; done))
    have kc3 : w'.cell? ⟨w.heap.size + 1, 1, none⟩ = some (.int .i64 Y2) := hX.cell (by first | (simp; done) | (simp; omega)) (by first | assumption | (go_simp; done) | (simp; done))
    have kc4 : w'.cell? ⟨w.heap.size + 2, 0, none⟩ = some (.int .i64 Z1) := hX.cell (by first | (simp; done) | (simp; omega)) (by first | assumption | (go_simp; done) | (simp; done))
    have kc5 : w'.cell? ⟨w.heap.size + 2, 1, none⟩ = some (.int .i64 Z2) := hX.cell (by first | (simp; done) | (simp; omega)) (by first | assumption | (go_simp; done) | (simp; done))
    clear hdep
    refine StepG.mk rfl ?_; rw [ha0]; simp only [putL, Act.put, List.setIfInBounds_toArray, List.set_cons_zero, List.set_cons_succ]
    go_wp2_with fail
    refine ((HC.out _)).mono ?_
    rintro e wn ⟨rfl, hb⟩
    go_wp2_with fail
    refine HK.out _ _ ?_
    refine ⟨v38, v39, (.agg #[.int .i64 (X1 + Z1), .int .i64 (X2 + Z2)]), v41, v42, (.agg #[.int .i64 (Y1 + Z1), .int .i64 (Y2 + Z2)]), (.tuple #[.int .i64 S, .int .i64 0]), v37, v45, v46, v11, v12, (by rw [ha0]; simp only [putL, Act.put, List.setIfInBounds_toArray, List.set_cons_zero, List.set_cons_succ]), ?_, ?_, trivial⟩
    · obtain ⟨h38, h39, h40, h41, h42, h43, h44, h37, h45, h46, h11, h12, _⟩ := hR.out
      exact Lib.hid ⟨fun h => h38 (by simpa using h), fun h => h39 (by simpa using h), fun _ => rfl, fun h => h41 (by simpa using h), fun h => h42 (by simpa using h), fun _ => rfl, fun _ => rfl, fun h => h37 (by simpa using h), fun h => h45 (by simpa using h), fun h => h46 (by simpa using h), fun h => h11 (by simpa using h), fun h => h12 (by simpa using h), trivial⟩
    · exact hX.call hb
  case x2hs7 =>
    intro s a' w' hsk hdep hI K hK
    try dsimp only at hI hK
    obtain ⟨v38, v39, v40, v41, v42, v43, v44, v37, v45, v46, v11, v12, hact, hR, hX, _⟩ := hI
    subst hact
    have HK := Lib.hid hK
    clear hK
    have e44 : v44 = .tuple #[.int .i64 S, .int .i64 0] := by obtain ⟨h38, h39, h40, h41, h42, h43, h44, h37, h45, h46, h11, h12, _⟩ := hR.out; exact h44 (hdep ⟨6, .data⟩ (by simp) rfl)
    subst e44
    have kc0 : w'.cell? ⟨w.heap.size, 0, none⟩ = some (.int .i64 X1) := hX.cell (by first | (simp; done) | (simp; omega)) (by first | assumption | (go_simp; done) | (simp; done))
    have kc1 : w'.cell? ⟨w.heap.size, 1, none⟩ = some (.int .i64 X2) := hX.cell (by first | (simp; done) | (simp; omega)) (by first | assumption | (go_simp; done) | (simp; done))
    have kc2 : w'.cell? ⟨w.heap.size + 1, 0, none⟩ = some (.int .i64 Y1) := hX.cell (by first | (simp; done) | (simp; omega)) (by first | assumption | (go_simp; done) | (simp; done))
    have kc3 : w'.cell? ⟨w.heap.size + 1, 1, none⟩ = some (.int .i64 Y2) := hX.cell (by first | (simp; done) | (simp; omega)) (by first | assumption | (go_simp; done) | (simp; done))
    have kc4 : w'.cell? ⟨w.heap.size + 2, 0, none⟩ = some (.int .i64 Z1) := hX.cell (by first | (simp; done) | (simp; omega)) (by first | assumption | (go_simp; done) | (simp; done))
    have kc5 : w'.cell? ⟨w.heap.size + 2, 1, none⟩ = some (.int .i64 Z2) := hX.cell (by first | (simp; done) | (simp; omega)) (by first | assumption | (go_simp; done) | (simp; done))
    clear hdep
    refine StepG.mk rfl ?_; rw [ha0]; simp only [putL, Act.put, List.setIfInBounds_toArray, List.set_cons_zero, List.set_cons_succ]
    go_wp2_with fail
    refine HK.out _ _ ?_
    refine ⟨v38, v39, v40, v41, v42, v43, (.tuple #[.int .i64 S, .int .i64 0]), (.tuple #[.int .i64 S, .int .i64 0]), v45, v46, v11, v12, (by rw [ha0]; simp only [putL, Act.put, List.setIfInBounds_toArray, List.set_cons_zero, List.set_cons_succ]), ?_, ?_, trivial⟩
    · obtain ⟨h38, h39, h40, h41, h42, h43, h44, h37, h45, h46, h11, h12, _⟩ := hR.out
      exact Lib.hid ⟨fun h => h38 (by simpa using h), fun h => h39 (by simpa using h), fun h => h40 (by simpa using h), fun h => h41 (by simpa using h), fun h => h42 (by simpa using h), fun h => h43 (by simpa using h), fun _ => rfl, fun _ => rfl, fun h => h45 (by simpa using h), fun h => h46 (by simpa using h), fun h => h11 (by simpa using h), fun h => h12 (by simpa using h), trivial⟩
    · exact hX
  case x2hs8 =>
    intro s a' w' hsk hdep hI K hK
    try dsimp only at hI hK
    obtain ⟨v38, v39, v40, v41, v42, v43, v44, v37, v45, v46, v11, v12, hact, hR, hX, _⟩ := hI
    subst hact
    have HK := Lib.hid hK
    clear hK
    have e37 : v37 = .tuple #[.int .i64 S, .int .i64 0] := by obtain ⟨h38, h39, h40, h41, h42, h43, h44, h37, h45, h46, h11, h12, _⟩ := hR.out; exact h37 (hdep ⟨7, .data⟩ (by simp) rfl)
    subst e37
    have kc0 : w'.cell? ⟨w.heap.size, 0, none⟩ = some (.int .i64 X1) := hX.cell (by first | (simp; done) | (simp; omega)) (by first | assumption | (go_simp; done) | (simp; done))
    have kc1 : w'.cell? ⟨w.heap.size, 1, none⟩ = some (.int .i64 X2) := hX.cell (by first | (simp; done) | (simp; omega)) (by first | assumption | (go_simp; done) | (simp; done))
    have kc2 : w'.cell? ⟨w.heap.size + 1, 0, none⟩ = some (.int .i64 Y1) := hX.cell (by first | (simp; done) | (simp; omega)) (by first | assumption | (go_simp; done) | (simp; done))
    have kc3 : w'.cell? ⟨w.heap.size + 1, 1, none⟩ = some (.int .i64 Y2) := hX.cell (by first | (simp; done) | (simp; omega)) (by first | assumption | (go_simp; done) | (simp; done))
    have kc4 : w'.cell? ⟨w.heap.size + 2, 0, none⟩ = some (.int .i64 Z1) := hX.cell (by first | (simp; done) | (simp; omega)) (by first | assumption | (go_simp; done) | (simp; done))
    have kc5 : w'.cell? ⟨w.heap.size + 2, 1, none⟩ = some (.int .i64 Z2) := hX.cell (by first | (simp; done) | (simp; omega)) (by first | assumption | (go_simp; done) | (simp; done))
    clear hdep
    refine StepG.mk rfl ?_; rw [ha0]; simp only [putL, Act.put, List.setIfInBounds_toArray, List.set_cons_zero, List.set_cons_succ]
    go_wp2_with fail
    refine HK.out _ _ ?_
    refine ⟨v38, v39, v40, v41, v42, v43, v44, (.tuple #[.int .i64 S, .int .i64 0]), (.int .i64 S), v46, v11, v12, (by rw [ha0]; simp only [putL, Act.put, List.setIfInBounds_toArray, List.set_cons_zero, List.set_cons_succ]), ?_, ?_, trivial⟩
    · obtain ⟨h38, h39, h40, h41, h42, h43, h44, h37, h45, h46, h11, h12, _⟩ := hR.out
      exact Lib.hid ⟨fun h => h38 (by simpa using h), fun h => h39 (by simpa using h), fun h => h40 (by simpa using h), fun h => h41 (by simpa using h), fun h => h42 (by simpa using h), fun h => h43 (by simpa using h), fun h => h44 (by simpa using h), fun _ => rfl, fun _ => rfl, fun h => h46 (by simpa using h), fun h => h11 (by simpa using h), fun h => h12 (by simpa using h), trivial⟩
    · exact hX
  case x2hs9 =>
    intro s a' w' hsk hdep hI K hK
    try dsimp only at hI hK
    obtain ⟨v38, v39, v40, v41, v42, v43, v44, v37, v45, v46, v11, v12, hact, hR, hX, _⟩ := hI
    subst hact
    have HK := Lib.hid hK
    clear hK
    have e37 : v37 = .tuple #[.int .i64 S, .int .i64 0] := by obtain ⟨h38, h39, h40, h41, h42, h43, h44, h37, h45, h46, h11, h12, _⟩ := hR.out; exact h37 (hdep ⟨7, .data⟩ (by simp) rfl)
    subst e37
    have kc0 : w'.cell? ⟨w.heap.size, 0, none⟩ = some (.int .i64 X1) := hX.cell (by first | (simp; done) | (simp; omega)) (by first | assumption | (go_simp; done) | (simp; done))
    have kc1 : w'.cell? ⟨w.heap.size, 1, none⟩ = some (.int .i64 X2) := hX.cell (by first | (simp; done) | (simp; omega)) (by first | assumption | (go_simp; done) | (simp; done))
    have kc2 : w'.cell? ⟨w.heap.size + 1, 0, none⟩ = some (.int .i64 Y1) := hX.cell (by first | (simp; done) | (simp; omega)) (by first | assumption | (go_simp; done) | (simp; done))
    have kc3 : w'.cell? ⟨w.heap.size + 1, 1, none⟩ = some (.int .i64 Y2) := hX.cell (by first | (simp; done) | (simp; omega)) (by first | assumption | (go_simp; done) | (simp; done))
    have kc4 : w'.cell? ⟨w.heap.size + 2, 0, none⟩ = some (.int .i64 Z1) := hX.cell (by first | (simp; done) | (simp; omega)) (by first | assumption | (go_simp; done) | (simp; done))
    have kc5 : w'.cell? ⟨w.heap.size + 2, 1, none⟩ = some (.int .i64 Z2) := hX.cell (by first | (simp; done) | (simp; omega)) (by first | assumption | (go_simp; done) | (simp; done))
    clear hdep
    refine StepG.mk rfl ?_; rw [ha0]; simp only [putL, Act.put, List.setIfInBounds_toArray, List.set_cons_zero, List.set_cons_succ]
    go_wp2_with fail
    refine HK.out _ _ ?_
    refine ⟨v38, v39, v40, v41, v42, v43, v44, (.tuple #[.int .i64 S, .int .i64 0]), v45, (.int .i64 0), v11, v12, (by rw [ha0]; simp only [putL, Act.put, List.setIfInBounds_toArray, List.set_cons_zero, List.set_cons_succ]), ?_, ?_, trivial⟩
    · obtain ⟨h38, h39, h40, h41, h42, h43, h44, h37, h45, h46, h11, h12, _⟩ := hR.out
      exact Lib.hid ⟨fun h => h38 (by simpa using h), fun h => h39 (by simpa using h), fun h => h40 (by simpa using h), fun h => h41 (by simpa using h), fun h => h42 (by simpa using h), fun h => h43 (by simpa using h), fun h => h44 (by simpa using h), fun _ => rfl, fun h => h45 (by simpa using h), fun _ => rfl, fun h => h11 (by simpa using h), fun h => h12 (by simpa using h), trivial⟩
    · exact hX
  case x2hs10 =>
    intro s a' w' hsk hdep hI K hK
    try dsimp only at hI hK
    obtain ⟨v38, v39, v40, v41, v42, v43, v44, v37, v45, v46, v11, v12, hact, hR, hX, _⟩ := hI
    subst hact
    have HK := Lib.hid hK
    clear hK
    have e45 : v45 = .int .i64 S := by obtain ⟨h38, h39, h40, h41, h42, h43, h44, h37, h45, h46, h11, h12, _⟩ := hR.out; exact h45 (hdep ⟨8, .data⟩ (by simp) rfl)
    subst e45
    have kc0 : w'.cell? ⟨w.heap.size, 0, none⟩ = some (.int .i64 X1) := hX.cell (by first | (simp; done) | (simp; omega)) (by first | assumption | (go_simp; done) | (simp; done))
    have kc1 : w'.cell? ⟨w.heap.size, 1, none⟩ = some (.int .i64 X2) := hX.cell (by first | (simp; done) | (simp; omega)) (by first | assumption | (go_simp; done) | (simp; done))
    have kc2 : w'.cell? ⟨w.heap.size + 1, 0, none⟩ = some (.int .i64 Y1) := hX.cell (by first | (simp; done) | (simp; omega)) (by first | assumption | (go_simp; done) | (simp; done))
    have kc3 : w'.cell? ⟨w.heap.size + 1, 1, none⟩ = some (.int .i64 Y2) := hX.cell (by first | (simp; done) | (simp; omega)) (by first | assumption | (go_simp; done) | (simp; done))
    have kc4 : w'.cell? ⟨w.heap.size + 2, 0, none⟩ = some (.int .i64 Z1) := hX.cell (by first | (simp; done) | (simp; omega)) (by first | assumption | (go_simp; done) | (simp; done))
    have kc5 : w'.cell? ⟨w.heap.size + 2, 1, none⟩ = some (.int .i64 Z2) := hX.cell (by first | (simp; done) | (simp; omega)) (by first | assumption | (go_simp; done) | (simp; done))
    clear hdep
    refine StepG.mk rfl ?_; rw [ha0]; simp only [putL, Act.put, List.setIfInBounds_toArray, List.set_cons_zero, List.set_cons_succ]
    go_wp2_with fail
    refine HK.out _ _ ?_
    refine ⟨v38, v39, v40, v41, v42, v43, v44, v37, (.int .i64 S), v46, (.int .i64 S), v12, (by rw [ha0]; simp only [putL, Act.put, List.setIfInBounds_toArray, List.set_cons_zero, List.set_cons_succ]), ?_, ?_, trivial⟩
    · obtain ⟨h38, h39, h40, h41, h42, h43, h44, h37, h45, h46, h11, h12, _⟩ := hR.out
      exact Lib.hid ⟨fun h => h38 (by simpa using h), fun h => h39 (by simpa using h), fun h => h40 (by simpa using h), fun h => h41 (by simpa using h), fun h => h42 (by simpa using h), fun h => h43 (by simpa using h), fun h => h44 (by simpa using h), fun h => h37 (by simpa using h), fun _ => rfl, fun h => h46 (by simpa using h), fun _ => rfl, fun h => h12 (by simpa using h), trivial⟩
    · exact hX
  case x2hs11 =>
    intro s a' w' hsk hdep hI K hK
    try dsimp only at hI hK
    obtain ⟨v38, v39, v40, v41, v42, v43, v44, v37, v45, v46, v11, v12, hact, hR, hX, _⟩ := hI
    subst hact
    have HK := Lib.hid hK
    clear hK
    have e46 : v46 = .int .i64 0 := by obtain ⟨h38, h39, h40, h41, h42, h43, h44, h37, h45, h46, h11, h12, _⟩ := hR.out; exact h46 (hdep ⟨9, .data⟩ (by simp) rfl)
    subst e46
    have kc0 : w'.cell? ⟨w.heap.size, 0, none⟩ = some (.int .i64 X1) := hX.cell (by first | (simp; done) | (simp; omega)) (by first | assumption | (go_simp; done) | (simp; done))
    have kc1 : w'.cell? ⟨w.heap.size, 1, none⟩ = some (.int .i64 X2) := hX.cell (by first | (simp; done) | (simp; omega)) (by first | assumption | (go_simp; done) | (simp; done))
    have kc2 : w'.cell? ⟨w.heap.size + 1, 0, none⟩ = some (.int .i64 Y1) := hX.cell (by first | (simp; done) | (simp; omega)) (by first | assumption | (go_simp; done) | (simp; done))
    have kc3 : w'.cell? ⟨w.heap.size + 1, 1, none⟩ = some (.int .i64 Y2) := hX.cell (by first | (simp; done) | (simp; omega)) (by first | assumption | (go_simp; done) | (simp; done))
    have kc4 : w'.cell? ⟨w.heap.size + 2, 0, none⟩ = some (.int .i64 Z1) := hX.cell (by first | (simp; done) | (simp; omega)) (by first | assumption | (go_simp; done) | (simp; done))
    have kc5 : w'.cell? ⟨w.heap.size + 2, 1, none⟩ = some (.int .i64 Z2) := hX.cell (by first | (simp; done) | (simp; omega)) (by first | assumption | (go_simp; done) | (simp; done))
    clear hdep
    refine StepG.mk rfl ?_; rw [ha0]; simp only [putL, Act.put, List.setIfInBounds_toArray, List.set_cons_zero, List.set_cons_succ]
    go_wp2_with fail
    refine HK.out _ _ ?_
    refine ⟨v38, v39, v40, v41, v42, v43, v44, v37, v45, (.int .i64 0), v11, (.int .i64 0), (by rw [ha0]; simp only [putL, Act.put, List.setIfInBounds_toArray, List.set_cons_zero, List.set_cons_succ]), ?_, ?_, trivial⟩
    · obtain ⟨h38, h39, h40, h41, h42, h43, h44, h37, h45, h46, h11, h12, _⟩ := hR.out
      exact Lib.hid ⟨fun h => h38 (by simpa using h), fun h => h39 (by simpa using h), fun h => h40 (by simpa using h), fun h => h41 (by simpa using h), fun h => h42 (by simpa using h), fun h => h43 (by simpa using h), fun h => h44 (by simpa using h), fun h => h37 (by simpa using h), fun h => h45 (by simpa using h), fun _ => rfl, fun h => h11 (by simpa using h), fun _ => rfl, trivial⟩
    · exact hX
  intro s a' w5 hall hI
  try dsimp only at hI
  obtain ⟨v38, v39, v40, v41, v42, v43, v44, v37, v45, v46, v11, v12, hact, hR, hXR, _⟩ := hI
  subst hact
  obtain ⟨h38, h39, h40, h41, h42, h43, h44, h37, h45, h46, h11, h12, _⟩ := hR.out
  clear hR
  have e38 := h38 (hall 0 (by decide))
  subst e38
  clear h38
  have e39 := h39 (hall 1 (by decide))
  subst e39
  clear h39
  have e40 := h40 (hall 2 (by decide))
  subst e40
  clear h40
  have e41 := h41 (hall 3 (by decide))
  subst e41
  clear h41
  have e42 := h42 (hall 4 (by decide))
  subst e42
  clear h42
  have e43 := h43 (hall 5 (by decide))
  subst e43
  clear h43
  have e44 := h44 (hall 6 (by decide))
  subst e44
  clear h44
  have e37 := h37 (hall 7 (by decide))
  subst e37
  clear h37
  have e45 := h45 (hall 8 (by decide))
  subst e45
  clear h45
  have e46 := h46 (hall 9 (by decide))
  subst e46
  clear h46
  have e11 := h11 (hall 10 (by decide))
  subst e11
  clear h11
  have e12 := h12 (hall 11 (by decide))
  subst e12
  clear h12
  clear hall
  rw [ha0]; simp only [putL, Act.put, List.setIfInBounds_toArray, List.set_cons_zero, List.set_cons_succ]
  clear ha0
  have B5 : Below w.heap.size w w5 := hXR.below (by first | assumption | exact (by repeat (first | exact Below.refl _ _ | exact Nat.le_refl _ | refine Below.alloc ?_ ?_ _ | refine Below.setCell ?_ ?_ _ | refine Below.drew ?_ | refine bl_drewN ?_ _ | (assumption) | refine bl_call ?_ (by assumption) ?_ | omega | (simp <;> omega)))) (by first | omega | (simp <;> omega)) (by simp <;> omega)
  have cew_heap_size5_0 : w5.cell? ⟨w.heap.size, 0, none⟩ = some (.int .i64 X1) := hXR.cell (by first | (simp; done) | (simp; omega)) (by first | assumption | (go_simp; done) | (simp; done))
  have cew_heap_size5_1 : w5.cell? ⟨w.heap.size, 1, none⟩ = some (.int .i64 X2) := hXR.cell (by first | (simp; done) | (simp; omega)) (by first | assumption | (go_simp; done) | (simp; done))
  have zew_heap_size5 : w.heap.size < w5.heap.size := block_lt_of_cell cew_heap_size5_0
  have cew_heap_size_15_0 : w5.cell? ⟨w.heap.size + 1, 0, none⟩ = some (.int .i64 Y1) := hXR.cell (by first | (simp; done) | (simp; omega)) (by first | assumption | (go_simp; done) | (simp; done))
  have cew_heap_size_15_1 : w5.cell? ⟨w.heap.size + 1, 1, none⟩ = some (.int .i64 Y2) := hXR.cell (by first | (simp; done) | (simp; omega)) (by first | assumption | (go_simp; done) | (simp; done))
  have zew_heap_size_15 : w.heap.size + 1 < w5.heap.size := block_lt_of_cell cew_heap_size_15_0
  have cew_heap_size_25_0 : w5.cell? ⟨w.heap.size + 2, 0, none⟩ = some (.int .i64 Z1) := hXR.cell (by first | (simp; done) | (simp; omega)) (by first | assumption | (go_simp; done) | (simp; done))
  have cew_heap_size_25_1 : w5.cell? ⟨w.heap.size + 2, 1, none⟩ = some (.int .i64 Z2) := hXR.cell (by first | (simp; done) | (simp; omega)) (by first | assumption | (go_simp; done) | (simp; done))
  have zew_heap_size_25 : w.heap.size + 2 < w5.heap.size := block_lt_of_cell cew_heap_size_25_0
  have hsz_5 := B5.size
  clear hXR
  go_upto_region 5 with fail
  refine with_act fun a0 ha0 => ?_
  refine wp_region_inv (by kernel_rfl) (by kernel_rfl) (fun s a' w' => ∃ v48 v49 v50 v51 v52 v53 v54 v47 v55 v56 v13 v14 : Value, a' = putL a0 [(48, v48), (49, v49), (50, v50), (51, v51), (52, v52), (53, v53), (54, v54), (47, v47), (55, v55), (56, v56), (13, v13), (14, v14)] ∧ Hid ((s 0 = true → v48 = .agg #[.int .i64 0, .int .i64 0]) ∧ (s 1 = true → v49 = .agg #[.int .i64 X1, .int .i64 X2]) ∧ (s 2 = true → v50 = .agg #[.int .i64 (-X1), .int .i64 (-X2)]) ∧ (s 3 = true → v51 = .agg #[.int .i64 0, .int .i64 0]) ∧ (s 4 = true → v52 = .agg #[.int .i64 Y1, .int .i64 Y2]) ∧ (s 5 = true → v53 = .agg #[.int .i64 (-Y1), .int .i64 (-Y2)]) ∧ (s 6 = true → v54 = .tuple #[.int .i64 (-S), .int .i64 0]) ∧ (s 7 = true → v47 = .tuple #[.int .i64 (-S), .int .i64 0]) ∧ (s 8 = true → v55 = .int .i64 (-S)) ∧ (s 9 = true → v56 = .int .i64 0) ∧ (s 10 = true → v13 = .int .i64 (-S)) ∧ (s 11 = true → v14 = .int .i64 0) ∧ True) ∧ BelX [] w5 w' ∧ True) ?x3hzero ⟨?x3hs0, ?x3hs1, ?x3hs2, ?x3hs3, ?x3hs4, ?x3hs5, ?x3hs6, ?x3hs7, ?x3hs8, ?x3hs9, ?x3hs10, ?x3hs11, trivial⟩ ?x3hdone
  case x3hzero =>
    refine ⟨a0.tmps.getD 48 undef, a0.tmps.getD 49 undef, a0.tmps.getD 50 undef, a0.tmps.getD 51 undef, a0.tmps.getD 52 undef, a0.tmps.getD 53 undef, a0.tmps.getD 54 undef, a0.tmps.getD 47 undef, a0.tmps.getD 55 undef, a0.tmps.getD 56 undef, a0.tmps.getD 13 undef, a0.tmps.getD 14 undef, ?_, ?_, ?_, trivial⟩
    · simp only [putL, put_self]
    · exact Lib.hid ⟨fun h => (by simp at h), fun h => (by simp at h), fun h => (by simp at h), fun h => (by simp at h), fun h => (by simp at h), fun h => (by simp at h), fun h => (by simp at h), fun h => (by simp at h), fun h => (by simp at h), fun h => (by simp at h), fun h => (by simp at h), fun h => (by simp at h), trivial⟩
    · exact BelX.start _ _
  case x3hs0 =>
    intro s a' w' hsk hdep hI K hK
    try dsimp only at hI hK
    obtain ⟨v48, v49, v50, v51, v52, v53, v54, v47, v55, v56, v13, v14, hact, hR, hX, _⟩ := hI
    subst hact
    have HK := Lib.hid hK
    clear hK
    have kc0 : w'.cell? ⟨w.heap.size, 0, none⟩ = some (.int .i64 X1) := hX.cell (by first | (simp; done) | (simp; omega)) (by first | assumption | (go_simp; done) | (simp; done))
    have kc1 : w'.cell? ⟨w.heap.size, 1, none⟩ = some (.int .i64 X2) := hX.cell (by first | (simp; done) | (simp; omega)) (by first | assumption | (go_simp; done) | (simp; done))
    have kc2 : w'.cell? ⟨w.heap.size + 1, 0, none⟩ = some (.int .i64 Y1) := hX.cell (by first | (simp; done) | (simp; omega)) (by first | assumption | (go_simp; done) | (simp; done))
    have kc3 : w'.cell? ⟨w.heap.size + 1, 1, none⟩ = some (.int .i64 Y2) := hX.cell (by first | (simp; done) | (simp; omega)) (by first | assumption | (go_simp; done) | (simp; done))
    have kc4 : w'.cell? ⟨w.heap.size + 2, 0, none⟩ = some (.int .i64 Z1) := hX.cell (by first | (simp; done) | (simp; omega)) (by first | assumption | (go_simp; done) | (simp; done))
    have kc5 : w'.cell? ⟨w.heap.size + 2, 1, none⟩ = some (.int .i64 Z2) := hX.cell (by first | (simp; done) | (simp; omega)) (by first | assumption | (go_simp; done) | (simp; done))
    clear hdep
    refine StepG.mk rfl ?_; rw [ha0]; simp only [putL, Act.put, List.setIfInBounds_toArray, List.set_cons_zero, List.set_cons_succ]
    go_wp2_with fail
    refine HK.out _ _ ?_
    refine ⟨(.agg #[.int .i64 0, .int .i64 0]), v49, v50, v51, v52, v53, v54, v47, v55, v56, v13, v14, (by rw [ha0]; simp only [putL, Act.put, List.setIfInBounds_toArray, List.set_cons_zero, List.set_cons_succ]), ?_, ?_, trivial⟩
    · obtain ⟨h48, h49, h50, h51, h52, h53, h54, h47, h55, h56, h13, h14, _⟩ := hR.out
      exact Lib.hid ⟨fun _ => rfl, fun h => h49 (by simpa using h), fun h => h50 (by simpa using h), fun h => h51 (by simpa using h), fun h => h52 (by simpa using h), fun h => h53 (by simpa using h), fun h => h54 (by simpa using h), fun h => h47 (by simpa using h), fun h => h55 (by simpa using h), fun h => h56 (by simpa using h), fun h => h13 (by simpa using h), fun h => h14 (by simpa using h), trivial⟩
    · exact hX
  case x3hs1 =>
    intro s a' w' hsk hdep hI K hK
    try dsimp only at hI hK
    obtain ⟨v48, v49, v50, v51, v52, v53, v54, v47, v55, v56, v13, v14, hact, hR, hX, _⟩ := hI
    subst hact
    have HK := Lib.hid hK
    clear hK
    have kc0 : w'.cell? ⟨w.heap.size, 0, none⟩ = some (.int .i64 X1) := hX.cell (by first | (simp; done) | (simp; omega)) (by first | assumption | (go_simp; done) | (simp; done))
    have kc1 : w'.cell? ⟨w.heap.size, 1, none⟩ = some (.int .i64 X2) := hX.cell (by first | (simp; done) | (simp; omega)) (by first | assumption | (go_simp; done) | (simp; done))
    have kc2 : w'.cell? ⟨w.heap.size + 1, 0, none⟩ = some (.int .i64 Y1) := hX.cell (by first | (simp; done) | (simp; omega)) (by first | assumption | (go_simp; done) | (simp; done))
    have kc3 : w'.cell? ⟨w.heap.size + 1, 1, none⟩ = some (.int .i64 Y2) := hX.cell (by first | (simp; done) | (simp; omega)) (by first | assumption | (go_simp; done) | (simp; done))
    have kc4 : w'.cell? ⟨w.heap.size + 2, 0, none⟩ = some (.int .i64 Z1) := hX.cell (by first | (simp; done) | (simp; omega)) (by first | assumption | (go_simp; done) | (simp; done))
    have kc5 : w'.cell? ⟨w.heap.size + 2, 1, none⟩ = some (.int .i64 Z2) := hX.cell (by first | (simp; done) | (simp; omega)) (by first | assumption | (go_simp; done) | (simp; done))
    clear hdep
    refine StepG.mk rfl ?_; rw [ha0]; simp only [putL, Act.put, List.setIfInBounds_toArray, List.set_cons_zero, List.set_cons_succ]
    go_wp2_with fail
    refine HK.out _ _ ?_
    refine ⟨v48, (.agg #[.int .i64 X1, .int .i64 X2]), v50, v51, v52, v53, v54, v47, v55, v56, v13, v14, (by rw [ha0]; simp only [putL, Act.put, List.setIfInBounds_toArray, List.set_cons_zero, List.set_cons_succ]), ?_, ?_, trivial⟩
    · obtain ⟨h48, h49, h50, h51, h52, h53, h54, h47, h55, h56, h13, h14, _⟩ := hR.out
      exact Lib.hid ⟨fun h => h48 (by simpa using h), fun _ => rfl, fun h => h50 (by simpa using h), fun h => h51 (by simpa using h), fun h => h52 (by simpa using h), fun h => h53 (by simpa using h), fun h => h54 (by simpa using h), fun h => h47 (by simpa using h), fun h => h55 (by simpa using h), fun h => h56 (by simpa using h), fun h => h13 (by simpa using h), fun h => h14 (by simpa using h), trivial⟩
    · exact hX
  case x3hs2 =>
    intro s a' w' hsk hdep hI K hK
    try dsimp only at hI hK
    obtain ⟨v48, v49, v50, v51, v52, v53, v54, v47, v55, v56, v13, v14, hact, hR, hX, _⟩ := hI
    subst hact
    have HK := Lib.hid hK
    clear hK
    have e48 : v48 = .agg #[.int .i64 0, .int .i64 0] := by obtain ⟨h48, h49, h50, h51, h52, h53, h54, h47, h55, h56, h13, h14, _⟩ := hR.out; exact h48 (hdep ⟨0, .data⟩ (by simp) rfl)
    subst e48
    have e49 : v49 = .agg #[.int .i64 X1, .int .i64 X2] := by obtain ⟨h48, h49, h50, h51, h52, h53, h54, h47, h55, h56, h13, h14, _⟩ := hR.out; exact h49 (hdep ⟨1, .data⟩ (by simp) rfl)
    subst e49
    have kc0 : w'.cell? ⟨w.heap.size, 0, none⟩ = some (.int .i64 X1) := hX.cell (by first | (simp; done) | (simp; omega)) (by first | assumption | (go_simp; done) | (simp; done))
    have kc1 : w'.cell? ⟨w.heap.size, 1, none⟩ = some (.int .i64 X2) := hX.cell (by first | (simp; done) | (simp; omega)) (by first | assumption | (go_simp; done) | (simp; done))
    have kc2 : w'.cell? ⟨w.heap.size + 1, 0, none⟩ = some (.int .i64 Y1) := hX.cell (by first | (simp; done) | (simp; omega)) (by first | assumption | (go_simp; done) | (simp; done))
    have kc3 : w'.cell? ⟨w.heap.size + 1, 1, none⟩ = some (.int .i64 Y2) := hX.cell (by first | (simp; done) | (simp; omega)) (by first | assumption | (go_simp; done) | (simp; done))
    have kc4 : w'.cell? ⟨w.heap.size + 2, 0, none⟩ = some (.int .i64 Z1) := hX.cell (by first | (simp; done) | (simp; omega)) (by first | assumption | (go_simp; done) | (simp; done))
    have kc5 : w'.cell? ⟨w.heap.size + 2, 1, none⟩ = some (.int .i64 Z2) := hX.cell (by first | (simp; done) | (simp; omega)) (by first | assumption | (go_simp; done) | (simp; done))
    clear hdep
    refine StepG.mk rfl ?_; rw [ha0]; simp only [putL, Act.put, List.setIfInBounds_toArray, List.set_cons_zero, List.set_cons_succ]
    go_wp2_with fail
    refine ((HE.out _)).mono ?_
    rintro e wn ⟨rfl, hb⟩
    go_wp2_with fail
    refine HK.out _ _ ?_
    refine ⟨(.agg #[.int .i64 0, .int .i64 0]), (.agg #[.int .i64 X1, .int .i64 X2]), (.agg #[.int .i64 (-X1), .int .i64 (-X2)]), v51, v52, v53, v54, v47, v55, v56, v13, v14, (by rw [ha0]; simp only [putL, Act.put, List.setIfInBounds_toArray, List.set_cons_zero, List.set_cons_succ]), ?_, ?_, trivial⟩
    · obtain ⟨h48, h49, h50, h51, h52, h53, h54, h47, h55, h56, h13, h14, _⟩ := hR.out
      exact Lib.hid ⟨fun _ => rfl, fun _ => rfl, fun _ => rfl, fun h => h51 (by simpa using h), fun h => h52 (by simpa using h), fun h => h53 (by simpa using h), fun h => h54 (by simpa using h), fun h => h47 (by simpa using h), fun h => h55 (by simpa using h), fun h => h56 (by simpa using h), fun h => h13 (by simpa using h), fun h => h14 (by simpa using h), trivial⟩
    · exact hX.call hb
  case x3hs3 =>
    intro s a' w' hsk hdep hI K hK
    try dsimp only at hI hK
    obtain ⟨v48, v49, v50, v51, v52, v53, v54, v47, v55, v56, v13, v14, hact, hR, hX, _⟩ := hI
    subst hact
    have HK := Lib.hid hK
    clear hK
    have kc0 : w'.cell? ⟨w.heap.size, 0, none⟩ = some (.int .i64 X1) := hX.cell (by first | (simp; done) | (simp; omega)) (by first | assumption | (go_simp; done) | (simp; done))
    have kc1 : w'.cell? ⟨w.heap.size, 1, none⟩ = some (.int .i64 X2) := hX.cell (by first | (simp; done) | (simp; omega)) (by first | assumption | (go_simp; done) | (simp; done))
    have kc2 : w'.cell? ⟨w.heap.size + 1, 0, none⟩ = some (.int .i64 Y1) := hX.cell (by first | (simp; done) | (simp; omega)) (by first | assumption | (go_simp; done) | (simp; done))
    have kc3 : w'.cell? ⟨w.heap.size + 1, 1, none⟩ = some (.int .i64 Y2) := hX.cell (by first | (simp; done) | (simp; omega)) (by first | assumption | (go_simp; done) | (simp; done))
    have kc4 : w'.cell? ⟨w.heap.size + 2, 0, none⟩ = some (.int .i64 Z1) := hX.cell (by first | (simp; done) | (simp; omega)) (by first | assumption | (go_simp; done) | (simp; done))
    have kc5 : w'.cell? ⟨w.heap.size + 2, 1, none⟩ = some (.int .i64 Z2) := hX.cell (by first | (simp; done) | (simp; omega)) (by first | assumption | (go_simp; done) | (simp; done))
    clear hdep
    refine StepG.mk rfl ?_; rw [ha0]; simp only [putL, Act.put, List.setIfInBounds_toArray, List.set_cons_zero, List.set_cons_succ]
    go_wp2_with fail
    refine HK.out _ _ ?_
    refine ⟨v48, v49, v50, (.agg #[.int .i64 0, .int .i64 0]), v52, v53, v54, v47, v55, v56, v13, v14, (by rw [ha0]; simp only [putL, Act.put, List.setIfInBounds_toArray, List.set_cons_zero, List.set_cons_succ]), ?_, ?_, trivial⟩
    · obtain ⟨h48, h49, h50, h51, h52, h53, h54, h47, h55, h56, h13, h14, _⟩ := hR.out
      exact Lib.hid ⟨fun h => h48 (by simpa using h), fun h => h49 (by simpa using h), fun h => h50 (by simpa using h), fun _ => rfl, fun h => h52 (by simpa using h), fun h => h53 (by simpa using h), fun h => h54 (by simpa using h), fun h => h47 (by simpa using h), fun h => h55 (by simpa using h), fun h => h56 (by simpa using h), fun h => h13 (by simpa using h), fun h => h14 (by simpa using h), trivial⟩
    · exact hX
  case x3hs4 =>
    intro s a' w' hsk hdep hI K hK
    try dsimp only at hI hK
    obtain ⟨v48, v49, v50, v51, v52, v53, v54, v47, v55, v56, v13, v14, hact, hR, hX, _⟩ := hI
    subst hact
    have HK := Lib.hid hK
    clear hK
    have kc0 : w'.cell? ⟨w.heap.size, 0, none⟩ = some (.int .i64 X1) := hX.cell (by first | (simp; done) | (simp; omega)) (by first | assumption | (go_simp; done) | (simp; done))
    have kc1 : w'.cell? ⟨w.heap.size, 1, none⟩ = some (.int .i64 X2) := hX.cell (by first | (simp; done) | (simp; omega)) (by first | assumption | (go_simp; done) | (simp; done))
    have kc2 : w'.cell? ⟨w.heap.size + 1, 0, none⟩ = some (.int .i64 Y1) := hX.cell (by first | (simp; done) | (simp; omega)) (by first | assumption | (go_simp; done) | (simp; done))
    have kc3 : w'.cell? ⟨w.heap.size + 1, 1, none⟩ = some (.int .i64 Y2) := hX.cell (by first | (simp; done) | (simp; omega)) (by first | assumption | (go_simp; done) | (simp; done))
    have kc4 : w'.cell? ⟨w.heap.size + 2, 0, none⟩ = some (.int .i64 Z1) := hX.cell (by first | (simp; done) | (simp; omega)) (by first | assumption | (go_simp; done) | (simp; done))
    have kc5 : w'.cell? ⟨w.heap.size + 2, 1, none⟩ = some (.int .i64 Z2) := hX.cell (by first | (simp; done) | (simp; omega)) (by first | assumption | (go_simp; done) | (simp; done))
    clear hdep
    refine StepG.mk rfl ?_; rw [ha0]; simp only [putL, Act.put, List.setIfInBounds_toArray, List.set_cons_zero, List.set_cons_succ]
    go_wp2_with fail
    refine HK.out _ _ ?_
    refine ⟨v48, v49, v50, v51, (.agg #[.int .i64 Y1, .int .i64 Y2]), v53, v54, v47, v55, v56, v13, v14, (by rw [ha0]; simp only [putL, Act.put, List.setIfInBounds_toArray, List.set_cons_zero, List.set_cons_succ]), ?_, ?_, trivial⟩
    · obtain ⟨h48, h49, h50, h51, h52, h53, h54, h47, h55, h56, h13, h14, _⟩ := hR.out
      exact Lib.hid ⟨fun h => h48 (by simpa using h), fun h => h49 (by simpa using h), fun h => h50 (by simpa using h), fun h => h51 (by simpa using h), fun _ => rfl, fun h => h53 (by simpa using h), fun h => h54 (by simpa using h), fun h => h47 (by simpa using h), fun h => h55 (by simpa using h), fun h => h56 (by simpa using h), fun h => h13 (by simpa using h), fun h => h14 (by simpa using h), trivial⟩
    · exact hX
  case x3hs5 =>
    intro s a' w' hsk hdep hI K hK
    try dsimp only at hI hK
    obtain ⟨v48, v49, v50, v51, v52, v53, v54, v47, v55, v56, v13, v14, hact, hR, hX, _⟩ := hI
    subst hact
    have HK := Lib.hid hK
    clear hK
    have e51 : v51 = .agg #[.int .i64 0, .int .i64 0] := by obtain ⟨h48, h49, h50, h51, h52, h53, h54, h47, h55, h56, h13, h14, _⟩ := hR.out; exact h51 (hdep ⟨3, .data⟩ (by simp) rfl)
    subst e51
    have e52 : v52 = .agg #[.int .i64 Y1, .int .i64 Y2] := by obtain ⟨h48, h49, h50, h51, h52, h53, h54, h47, h55, h56, h13, h14, _⟩ := hR.out; exact h52 (hdep ⟨4, .data⟩ (by simp) rfl)
    subst e52
    have kc0 : w'.cell? ⟨w.heap.size, 0, none⟩ = some (.int .i64 X1) := hX.cell (by first | (simp; done) | (simp; omega)) (by first | assumption | (go_simp; done) | (simp; done))
    have kc1 : w'.cell? ⟨w.heap.size, 1, none⟩ = some (.int .i64 X2) := hX.cell (by first | (simp; done) | (simp; omega)) (by first | assumption | (go_simp; done) | (simp; done))
    have kc2 : w'.cell? ⟨w.heap.size + 1, 0, none⟩ = some (.int .i64 Y1) := hX.cell (by first | (simp; done) | (simp; omega)) (by first | assumption | (go_simp; done) | (simp; done))
    have kc3 : w'.cell? ⟨w.heap.size + 1, 1, none⟩ = some (.int .i64 Y2) := hX.cell (by first | (simp; done) | (simp; omega)) (by first | assumption | (go_simp; done) | (simp; done))
    have kc4 : w'.cell? ⟨w.heap.size + 2, 0, none⟩ = some (.int .i64 Z1) := hX.cell (by first | (simp; done) | (simp; omega)) (by first | assumption | (go_simp; done) | (simp; done))
    have kc5 : w'.cell? ⟨w.heap.size + 2, 1, none⟩ = some (.int .i64 Z2) := hX.cell (by first | (simp; done) | (simp; omega)) (by first | assumption | (go_simp; done) | (simp; done))
    clear hdep
    refine StepG.mk rfl ?_; rw [ha0]; simp only [putL, Act.put, List.setIfInBounds_toArray, List.set_cons_zero, List.set_cons_succ]
    go_wp2_with fail
    refine ((HF.out _)).mono ?_
    rintro e wn ⟨rfl, hb⟩
    go_wp2_with fail
    refine HK.out _ _ ?_
    refine ⟨v48, v49, v50, (.agg #[.int .i64 0, .int .i64 0]), (.agg #[.int .i64 Y1, .int .i64 Y2]), (.agg #[.int .i64 (-Y1), .int .i64 (-Y2)]), v54, v47, v55, v56, v13, v14, (by rw [ha0]; simp only [putL, Act.put, List.setIfInBounds_toArray, List.set_cons_zero, List.set_cons_succ]), ?_, ?_, trivial⟩
    · obtain ⟨h48, h49, h50, h51, h52, h53, h54, h47, h55, h56, h13, h14, _⟩ := hR.out
      exact Lib.hid ⟨fun h => h48 (by simpa using h), fun h => h49 (by simpa using h), fun h => h50 (by simpa using h), fun _ => rfl, fun _ => rfl, fun _ => rfl, fun h => h54 (by simpa using h), fun h => h47 (by simpa using h), fun h => h55 (by simpa using h), fun h => h56 (by simpa using h), fun h => h13 (by simpa using h), fun h => h14 (by simpa using h), trivial⟩
    · exact hX.call hb
  case x3hs6 =>
    intro s a' w' hsk hdep hI K hK
    try dsimp only at hI hK
    obtain ⟨v48, v49, v50, v51, v52, v53, v54, v47, v55, v56, v13, v14, hact, hR, hX, _⟩ := hI
    subst hact
    have HK := Lib.hid hK
    clear hK
    have e50 : v50 = .agg #[.int .i64 (-X1), .int .i64 (-X2)] := by obtain ⟨h48, h49, h50, h51, h52, h53, h54, h47, h55, h56, h13, h14, _⟩ := hR.out; exact h50 (hdep ⟨2, .data⟩ (by simp) rfl)
    subst e50
    have e53 : v53 = .agg #[.int .i64 (-Y1), .int .i64 (-Y2)] := by obtain ⟨h48, h49, h50, h51, h52, h53, h54, h47, h55, h56, h13, h14, _⟩ := hR.out; exact h53 (hdep ⟨5, .data⟩ (by simp) rfl)
    subst e53
    have kc0 : w'.cell? ⟨w.heap.size, 0, none⟩ = some (.int .i64 X1) := hX.cell (by first | (simp; done) | (simp; omega)) (by first | assumption | (go_simp; done) | (simp; done))
    have kc1 : w'.cell? ⟨w.heap.size, 1, none⟩ = some (.int .i64 X2) := hX.cell (by first | (simp; done) | (simp; omega)) (by first | assumption | (go_simp; done) | (simp; done))
    have kc2 : w'.cell? ⟨w.heap.size + 1, 0, none⟩ = some (.int .i64 Y1) := hX.cell (by first | (simp; done) | (simp; omega)) (by first | assumption | (go_simp; done) | (simp; done))
    have kc3 : w'.cell? ⟨w.heap.size + 1, 1, none⟩ = some (.int .i64 Y2) := hX.cell (by first | (simp; done) | (simp; omega)) (by first | assumption | (go_simp; done) | (simp; done))
    have kc4 : w'.cell? ⟨w.heap.size + 2, 0, none⟩ = some (.int .i64 Z1) := hX.cell (by first | (simp; done) | (simp; omega)) (by first | assumption | (go_simp; done) | (simp; done))
    have kc5 : w'.cell? ⟨w.heap.size + 2, 1, none⟩ = some (.int .i64 Z2) := hX.cell (by first | (simp; done) | (simp; omega)) (by first | assumption | (go_simp; done) | (simp; done))
    clear hdep
    refine StepG.mk rfl ?_; rw [ha0]; simp only [putL, Act.put, List.setIfInBounds_toArray, List.set_cons_zero, List.set_cons_succ]
    go_wp2_with fail
    refine ((HD.out _)).mono ?_
    rintro e wn ⟨rfl, hb⟩
    go_wp2_with fail
    refine HK.out _ _ ?_
    refine ⟨v48, v49, (.agg #[.int .i64 (-X1), .int .i64 (-X2)]), v51, v52, (.agg #[.int .i64 (-Y1), .int .i64 (-Y2)]), (.tuple #[.int .i64 (-S), .int .i64 0]), v47, v55, v56, v13, v14, (by rw [ha0]; simp only [putL, Act.put, List.setIfInBounds_toArray, List.set_cons_zero, List.set_cons_succ]), ?_, ?_, trivial⟩
    · obtain ⟨h48, h49, h50, h51, h52, h53, h54, h47, h55, h56, h13, h14, _⟩ := hR.out
      exact Lib.hid ⟨fun h => h48 (by simpa using h), fun h => h49 (by simpa using h), fun _ => rfl, fun h => h51 (by simpa using h), fun h => h52 (by simpa using h), fun _ => rfl, fun _ => rfl, fun h => h47 (by simpa using h), fun h => h55 (by simpa using h), fun h => h56 (by simpa using h), fun h => h13 (by simpa using h), fun h => h14 (by simpa using h), trivial⟩
    · exact hX.call hb
  case x3hs7 =>
    intro s a' w' hsk hdep hI K hK
    try dsimp only at hI hK
    obtain ⟨v48, v49, v50, v51, v52, v53, v54, v47, v55, v56, v13, v14, hact, hR, hX, _⟩ := hI
    subst hact
    have HK := Lib.hid hK
    clear hK
    have e54 : v54 = .tuple #[.int .i64 (-S), .int .i64 0] := by obtain ⟨h48, h49, h50, h51, h52, h53, h54, h47, h55, h56, h13, h14, _⟩ := hR.out; exact h54 (hdep ⟨6, .data⟩ (by simp) rfl)
    subst e54
    have kc0 : w'.cell? ⟨w.heap.size, 0, none⟩ = some (.int .i64 X1) := hX.cell (by first | (simp; done) | (simp; omega)) (by first | assumption | (go_simp; done) | (simp; done))
    have kc1 : w'.cell? ⟨w.heap.size, 1, none⟩ = some (.int .i64 X2) := hX.cell (by first | (simp; done) | (simp; omega)) (by first | assumption | (go_simp; done) | (simp; done))
    have kc2 : w'.cell? ⟨w.heap.size + 1, 0, none⟩ = some (.int .i64 Y1) := hX.cell (by first | (simp; done) | (simp; omega)) (by first | assumption | (go_simp; done) | (simp; done))
    have kc3 : w'.cell? ⟨w.heap.size + 1, 1, none⟩ = some (.int .i64 Y2) := hX.cell (by first | (simp; done) | (simp; omega)) (by first | assumption | (go_simp; done) | (simp; done))
    have kc4 : w'.cell? ⟨w.heap.size + 2, 0, none⟩ = some (.int .i64 Z1) := hX.cell (by first | (simp; done) | (simp; omega)) (by first | assumption | (go_simp; done) | (simp; done))
    have kc5 : w'.cell? ⟨w.heap.size + 2, 1, none⟩ = some (.int .i64 Z2) := hX.cell (by first | (simp; done) | (simp; omega)) (by first | assumption | (go_simp; done) | (simp; done))
    clear hdep
    refine StepG.mk rfl ?_; rw [ha0]; simp only [putL, Act.put, List.setIfInBounds_toArray, List.set_cons_zero, List.set_cons_succ]
    go_wp2_with fail
    refine HK.out _ _ ?_
    refine ⟨v48, v49, v50, v51, v52, v53, (.tuple #[.int .i64 (-S), .int .i64 0]), (.tuple #[.int .i64 (-S), .int .i64 0]), v55, v56, v13, v14, (by rw [ha0]; simp only [putL, Act.put, List.setIfInBounds_toArray, List.set_cons_zero, List.set_cons_succ]), ?_, ?_, trivial⟩
    · obtain ⟨h48, h49, h50, h51, h52, h53, h54, h47, h55, h56, h13, h14, _⟩ := hR.out
      exact Lib.hid ⟨fun h => h48 (by simpa using h), fun h => h49 (by simpa using h), fun h => h50 (by simpa using h), fun h => h51 (by simpa using h), fun h => h52 (by simpa using h), fun h => h53 (by simpa using h), fun _ => rfl, fun _ => rfl, fun h => h55 (by simpa using h), fun h => h56 (by simpa using h), fun h => h13 (by simpa using h), fun h => h14 (by simpa using h), trivial⟩
    · exact hX
  case x3hs8 =>
    intro s a' w' hsk hdep hI K hK
    try dsimp only at hI hK
    obtain ⟨v48, v49, v50, v51, v52, v53, v54, v47, v55, v56, v13, v14, hact, hR, hX, _⟩ := hI
    subst hact
    have HK := Lib.hid hK
    clear hK
    have e47 : v47 = .tuple #[.int .i64 (-S), .int .i64 0] := by obtain ⟨h48, h49, h50, h51, h52, h53, h54, h47, h55, h56, h13, h14, _⟩ := hR.out; exact h47 (hdep ⟨7, .data⟩ (by simp) rfl)
    subst e47
    have kc0 : w'.cell? ⟨w.heap.size, 0, none⟩ = some (.int .i64 X1) := hX.cell (by first | (simp; done) | (simp; omega)) (by first | assumption | (go_simp; done) | (simp; done))
    have kc1 : w'.cell? ⟨w.heap.size, 1, none⟩ = some (.int .i64 X2) := hX.cell (by first | (simp; done) | (simp; omega)) (by first | assumption | (go_simp; done) | (simp; done))
    have kc2 : w'.cell? ⟨w.heap.size + 1, 0, none⟩ = some (.int .i64 Y1) := hX.cell (by first | (simp; done) | (simp; omega)) (by first | assumption | (go_simp; done) | (simp; done))
    have kc3 : w'.cell? ⟨w.heap.size + 1, 1, none⟩ = some (.int .i64 Y2) := hX.cell (by first | (simp; done) | (simp; omega)) (by first | assumption | (go_simp; done) | (simp; done))
    have kc4 : w'.cell? ⟨w.heap.size + 2, 0, none⟩ = some (.int .i64 Z1) := hX.cell (by first | (simp; done) | (simp; omega)) (by first | assumption | (go_simp; done) | (simp; done))
    have kc5 : w'.cell? ⟨w.heap.size + 2, 1, none⟩ = some (.int .i64 Z2) := hX.cell (by first | (simp; done) | (simp; omega)) (by first | assumption | (go_simp; done) | (simp; done))
    clear hdep
    refine StepG.mk rfl ?_; rw [ha0]; simp only [putL, Act.put, List.setIfInBounds_toArray, List.set_cons_zero, List.set_cons_succ]
    go_wp2_with fail
    refine HK.out _ _ ?_
    refine ⟨v48, v49, v50, v51, v52, v53, v54, (.tuple #[.int .i64 (-S), .int .i64 0]), (.int .i64 (-S)), v56, v13, v14, (by rw [ha0]; simp only [putL, Act.put, List.setIfInBounds_toArray, List.set_cons_zero, List.set_cons_succ]), ?_, ?_, trivial⟩
    · obtain ⟨h48, h49, h50, h51, h52, h53, h54, h47, h55, h56, h13, h14, _⟩ := hR.out
      exact Lib.hid ⟨fun h => h48 (by simpa using h), fun h => h49 (by simpa using h), fun h => h50 (by simpa using h), fun h => h51 (by simpa using h), fun h => h52 (by simpa using h), fun h => h53 (by simpa using h), fun h => h54 (by simpa using h), fun _ => rfl, fun _ => rfl, fun h => h56 (by simpa using h), fun h => h13 (by simpa using h), fun h => h14 (by simpa using h), trivial⟩
    · exact hX
  case x3hs9 =>
    intro s a' w' hsk hdep hI K hK
    try dsimp only at hI hK
    obtain ⟨v48, v49, v50, v51, v52, v53, v54, v47, v55, v56, v13, v14, hact, hR, hX, _⟩ := hI
    subst hact
    have HK := Lib.hid hK
    clear hK
    have e47 : v47 = .tuple #[.int .i64 (-S), .int .i64 0] := by obtain ⟨h48, h49, h50, h51, h52, h53, h54, h47, h55, h56, h13, h14, _⟩ := hR.out; exact h47 (hdep ⟨7, .data⟩ (by simp) rfl)
    subst e47
    have kc0 : w'.cell? ⟨w.heap.size, 0, none⟩ = some (.int .i64 X1) := hX.cell (by first | (simp; done) | (simp; omega)) (by first | assumption | (go_simp; done) | (simp; done))
    have kc1 : w'.cell? ⟨w.heap.size, 1, none⟩ = some (.int .i64 X2) := hX.cell (by first | (simp; done) | (simp; omega)) (by first | assumption | (go_simp; done) | (simp; done))
    have kc2 : w'.cell? ⟨w.heap.size + 1, 0, none⟩ = some (.int .i64 Y1) := hX.cell (by first | (simp; done) | (simp; omega)) (by first | assumption | (go_simp; done) | (simp; done))
    have kc3 : w'.cell? ⟨w.heap.size + 1, 1, none⟩ = some (.int .i64 Y2) := hX.cell (by first | (simp; done) | (simp; omega)) (by first | assumption | (go_simp; done) | (simp; done))
    have kc4 : w'.cell? ⟨w.heap.size + 2, 0, none⟩ = some (.int .i64 Z1) := hX.cell (by first | (simp; done) | (simp; omega)) (by first | assumption | (go_simp; done) | (simp; done))
    have kc5 : w'.cell? ⟨w.heap.size + 2, 1, none⟩ = some (.int .i64 Z2) := hX.cell (by first | (simp; done) | (simp; omega)) (by first | assumption | (go_simp; done) | (simp; done))
    clear hdep
    refine StepG.mk rfl ?_; rw [ha0]; simp only [putL, Act.put, List.setIfInBounds_toArray, List.set_cons_zero, List.set_cons_succ]
    go_wp2_with fail
    refine HK.out _ _ ?_
    refine ⟨v48, v49, v50, v51, v52, v53, v54, (.tuple #[.int .i64 (-S), .int .i64 0]), v55, (.int .i64 0), v13, v14, (by rw [ha0]; simp only [putL, Act.put, List.setIfInBounds_toArray, List.set_cons_zero, List.set_cons_succ]), ?_, ?_, trivial⟩
    · obtain ⟨h48, h49, h50, h51, h52, h53, h54, h47, h55, h56, h13, h14, _⟩ := hR.out
      exact Lib.hid ⟨fun h => h48 (by simpa using h), fun h => h49 (by simpa using h), fun h => h50 (by simpa using h), fun h => h51 (by simpa using h), fun h => h52 (by simpa using h), fun h => h53 (by simpa using h), fun h => h54 (by simpa using h), fun _ => rfl, fun h => h55 (by simpa using h), fun _ => rfl, fun h => h13 (by simpa using h), fun h => h14 (by simpa using h), trivial⟩
    · exact hX
  case x3hs10 =>
    intro s a' w' hsk hdep hI K hK
    try dsimp only at hI hK
    obtain ⟨v48, v49, v50, v51, v52, v53, v54, v47, v55, v56, v13, v14, hact, hR, hX, _⟩ := hI
    subst hact
    have HK := Lib.hid hK
    clear hK
    have e55 : v55 = .int .i64 (-S) := by obtain ⟨h48, h49, h50, h51, h52, h53, h54, h47, h55, h56, h13, h14, _⟩ := hR.out; exact h55 (hdep ⟨8, .data⟩ (by simp) rfl)
    subst e55
    have kc0 : w'.cell? ⟨w.heap.size, 0, none⟩ = some (.int .i64 X1) := hX.cell (by first | (simp; done) | (simp; omega)) (by first | assumption | (go_simp; done) | (simp; done))
    have kc1 : w'.cell? ⟨w.heap.size, 1, none⟩ = some (.int .i64 X2) := hX.cell (by first | (simp; done) | (simp; omega)) (by first | assumption | (go_simp; done) | (simp; done))
    have kc2 : w'.cell? ⟨w.heap.size + 1, 0, none⟩ = some (.int .i64 Y1) := hX.cell (by first | (simp; done) | (simp; omega)) (by first | assumption | (go_simp; done) | (simp; done))
    have kc3 : w'.cell? ⟨w.heap.size + 1, 1, none⟩ = some (.int .i64 Y2) := hX.cell (by first | (simp; done) | (simp; omega)) (by first | assumption | (go_simp; done) | (simp; done))
    have kc4 : w'.cell? ⟨w.heap.size + 2, 0, none⟩ = some (.int .i64 Z1) := hX.cell (by first | (simp; done) | (simp; omega)) (by first | assumption | (go_simp; done) | (simp; done))
    have kc5 : w'.cell? ⟨w.heap.size + 2, 1, none⟩ = some (.int .i64 Z2) := hX.cell (by first | (simp; done) | (simp; omega)) (by first | assumption | (go_simp; done) | (simp; done))
    clear hdep
    refine StepG.mk rfl ?_; rw [ha0]; simp only [putL, Act.put, List.setIfInBounds_toArray, List.set_cons_zero, List.set_cons_succ]
    go_wp2_with fail
    refine HK.out _ _ ?_
    refine ⟨v48, v49, v50, v51, v52, v53, v54, v47, (.int .i64 (-S)), v56, (.int .i64 (-S)), v14, (by rw [ha0]; simp only [putL, Act.put, List.setIfInBounds_toArray, List.set_cons_zero, List.set_cons_succ]), ?_, ?_, trivial⟩
    · obtain ⟨h48, h49, h50, h51, h52, h53, h54, h47, h55, h56, h13, h14, _⟩ := hR.out
      exact Lib.hid ⟨fun h => h48 (by simpa using h), fun h => h49 (by simpa using h), fun h => h50 (by simpa using h), fun h => h51 (by simpa using h), fun h => h52 (by simpa using h), fun h => h53 (by simpa using h), fun h => h54 (by simpa using h), fun h => h47 (by simpa using h), fun _ => rfl, fun h => h56 (by simpa using h), fun _ => rfl, fun h => h14 (by simpa using h), trivial⟩
    · exact hX
  case x3hs11 =>
    intro s a' w' hsk hdep hI K hK
    try dsimp only at hI hK
    obtain ⟨v48, v49, v50, v51, v52, v53, v54, v47, v55, v56, v13, v14, hact, hR, hX, _⟩ := hI
    subst hact
    have HK := Lib.hid hK
    clear hK
    have e56 : v56 = .int .i64 0 := by obtain ⟨h48, h49, h50, h51, h52, h53, h54, h47, h55, h56, h13, h14, _⟩ := hR.out; exact h56 (hdep ⟨9, .data⟩ (by simp) rfl)
    subst e56
    have kc0 : w'.cell? ⟨w.heap.size, 0, none⟩ = some (.int .i64 X1) := hX.cell (by first | (simp; done) | (simp; omega)) (by first | assumption | (go_simp; done) | (simp; done))
    have kc1 : w'.cell? ⟨w.heap.size, 1, none⟩ = some (.int .i64 X2) := hX.cell (by first | (simp; done) | (simp; omega)) (by first | assumption | (go_simp; done) | (simp; done))
    have kc2 : w'.cell? ⟨w.heap.size + 1, 0, none⟩ = some (.int .i64 Y1) := hX.cell (by first | (simp; done) | (simp; omega)) (by first | assumption | (go_simp; done) | (simp; done))
    have kc3 : w'.cell? ⟨w.heap.size + 1, 1, none⟩ = some (.int .i64 Y2) := hX.cell (by first | (simp; done) | (simp; omega)) (by first | assumption | (go_simp; done) | (simp; done))
    have kc4 : w'.cell? ⟨w.heap.size + 2, 0, none⟩ = some (.int .i64 Z1) := hX.cell (by first | (simp; done) | (simp; omega)) (by first | assumption | (go_simp; done) | (simp; done))
    have kc5 : w'.cell? ⟨w.heap.size + 2, 1, none⟩ = some (.int .i64 Z2) := hX.cell (by first | (simp; done) | (simp; omega)) (by first | assumption | (go_simp; done) | (simp; done))
    clear hdep
    refine StepG.mk rfl ?_; rw [ha0]; simp only [putL, Act.put, List.setIfInBounds_toArray, List.set_cons_zero, List.set_cons_succ]
    go_wp2_with fail
    refine HK.out _ _ ?_
    refine ⟨v48, v49, v50, v51, v52, v53, v54, v47, v55, (.int .i64 0), v13, (.int .i64 0), (by rw [ha0]; simp only [putL, Act.put, List.setIfInBounds_toArray, List.set_cons_zero, List.set_cons_succ]), ?_, ?_, trivial⟩
    · obtain ⟨h48, h49, h50, h51, h52, h53, h54, h47, h55, h56, h13, h14, _⟩ := hR.out
      exact Lib.hid ⟨fun h => h48 (by simpa using h), fun h => h49 (by simpa using h), fun h => h50 (by simpa using h), fun h => h51 (by simpa using h), fun h => h52 (by simpa using h), fun h => h53 (by simpa using h), fun h => h54 (by simpa using h), fun h => h47 (by simpa using h), fun h => h55 (by simpa using h), fun _ => rfl, fun h => h13 (by simpa using h), fun _ => rfl, trivial⟩
    · exact hX
  intro s a' w6 hall hI
  try dsimp only at hI
  obtain ⟨v48, v49, v50, v51, v52, v53, v54, v47, v55, v56, v13, v14, hact, hR, hXR, _⟩ := hI
  subst hact
  obtain ⟨h48, h49, h50, h51, h52, h53, h54, h47, h55, h56, h13, h14, _⟩ := hR.out
  clear hR
  have e48 := h48 (hall 0 (by decide))
  subst e48
  clear h48
  have e49 := h49 (hall 1 (by decide))
  subst e49
  clear h49
  have e50 := h50 (hall 2 (by decide))
  subst e50
  clear h50
  have e51 := h51 (hall 3 (by decide))
  subst e51
  clear h51
  have e52 := h52 (hall 4 (by decide))
  subst e52
  clear h52
  have e53 := h53 (hall 5 (by decide))
  subst e53
  clear h53
  have e54 := h54 (hall 6 (by decide))
  subst e54
  clear h54
  have e47 := h47 (hall 7 (by decide))
  subst e47
  clear h47
  have e55 := h55 (hall 8 (by decide))
  subst e55
  clear h55
  have e56 := h56 (hall 9 (by decide))
  subst e56
  clear h56
  have e13 := h13 (hall 10 (by decide))
  subst e13
  clear h13
  have e14 := h14 (hall 11 (by decide))
  subst e14
  clear h14
  clear hall
  rw [ha0]; simp only [putL, Act.put, List.setIfInBounds_toArray, List.set_cons_zero, List.set_cons_succ]
  clear ha0
  have B6 : Below w.heap.size w w6 := hXR.below (by first | assumption | exact (by repeat (first | exact Below.refl _ _ | exact Nat.le_refl _ | refine Below.alloc ?_ ?_ _ | refine Below.setCell ?_ ?_ _ | refine Below.drew ?_ | refine bl_drewN ?_ _ | (assumption) | refine bl_call ?_ (by assumption) ?_ | omega | (simp <;> omega)))) (by first | omega | (simp <;> omega)) (by simp <;> omega)
  have cew_heap_size6_0 : w6.cell? ⟨w.heap.size, 0, none⟩ = some (.int .i64 X1) := hXR.cell (by first | (simp; done) | (simp; omega)) (by first | assumption | (go_simp; done) | (simp; done))
  have cew_heap_size6_1 : w6.cell? ⟨w.heap.size, 1, none⟩ = some (.int .i64 X2) := hXR.cell (by first | (simp; done) | (simp; omega)) (by first | assumption | (go_simp; done) | (simp; done))
  have zew_heap_size6 : w.heap.size < w6.heap.size := block_lt_of_cell cew_heap_size6_0
  have cew_heap_size_16_0 : w6.cell? ⟨w.heap.size + 1, 0, none⟩ = some (.int .i64 Y1) := hXR.cell (by first | (simp; done) | (simp; omega)) (by first | assumption | (go_simp; done) | (simp; done))
  have cew_heap_size_16_1 : w6.cell? ⟨w.heap.size + 1, 1, none⟩ = some (.int .i64 Y2) := hXR.cell (by first | (simp; done) | (simp; omega)) (by first | assumption | (go_simp; done) | (simp; done))
  have zew_heap_size_16 : w.heap.size + 1 < w6.heap.size := block_lt_of_cell cew_heap_size_16_0
  have cew_heap_size_26_0 : w6.cell? ⟨w.heap.size + 2, 0, none⟩ = some (.int .i64 Z1) := hXR.cell (by first | (simp; done) | (simp; omega)) (by first | assumption | (go_simp; done) | (simp; done))
  have cew_heap_size_26_1 : w6.cell? ⟨w.heap.size + 2, 1, none⟩ = some (.int .i64 Z2) := hXR.cell (by first | (simp; done) | (simp; omega)) (by first | assumption | (go_simp; done) | (simp; done))
  have zew_heap_size_26 : w.heap.size + 2 < w6.heap.size := block_lt_of_cell cew_heap_size_26_0
  have hsz_6 := B6.size
  clear hXR
  go_wp2_with fail
  refine (HP.out _).mono ?_
  rintro e w7 ⟨rfl, hb7⟩
  have z7_0 : w.heap.size < w7.heap.size := by have := hb7.size; (try simp at this); omega
  have z7_1 : w.heap.size + 1 < w7.heap.size := by have := hb7.size; (try simp at this); omega
  have cew_heap_size7_0 : w7.cell? ⟨w.heap.size, 0, none⟩ = some (.int .i64 X1) := keep_cell hb7 (by first | assumption | (go_simp; done) | (simp; done) | simp [*])
  have zew_heap_size7 : w.heap.size < w7.heap.size := block_lt_of_cell cew_heap_size7_0
  have cew_heap_size7_1 : w7.cell? ⟨w.heap.size, 1, none⟩ = some (.int .i64 X2) := keep_cell hb7 (by first | assumption | (go_simp; done) | (simp; done) | simp [*])
  have cew_heap_size_17_0 : w7.cell? ⟨w.heap.size + 1, 0, none⟩ = some (.int .i64 Y1) := keep_cell hb7 (by first | assumption | (go_simp; done) | (simp; done) | simp [*])
  have zew_heap_size_17 : w.heap.size + 1 < w7.heap.size := block_lt_of_cell cew_heap_size_17_0
  have cew_heap_size_17_1 : w7.cell? ⟨w.heap.size + 1, 1, none⟩ = some (.int .i64 Y2) := keep_cell hb7 (by first | assumption | (go_simp; done) | (simp; done) | simp [*])
  have cew_heap_size_27_0 : w7.cell? ⟨w.heap.size + 2, 0, none⟩ = some (.int .i64 Z1) := keep_cell hb7 (by first | assumption | (go_simp; done) | (simp; done) | simp [*])
  have zew_heap_size_27 : w.heap.size + 2 < w7.heap.size := block_lt_of_cell cew_heap_size_27_0
  have cew_heap_size_27_1 : w7.cell? ⟨w.heap.size + 2, 1, none⟩ = some (.int .i64 Z2) := keep_cell hb7 (by first | assumption | (go_simp; done) | (simp; done) | simp [*])
  have B7 : Below w.heap.size w w7 := bl_call (by repeat (first | exact Below.refl _ _ | exact Nat.le_refl _ | refine Below.alloc ?_ ?_ _ | refine Below.setCell ?_ ?_ _ | refine Below.drew ?_ | refine bl_drewN ?_ _ | (assumption) | refine bl_call ?_ (by assumption) ?_ | omega | (simp <;> omega))) hb7 (by first | assumption | (simp; done) | (simp; omega) | omega)
  clear hb7
  have hsz_7 := B7.size
  go_wp2_with fail
  refine (HQ.out _).mono ?_
  rintro e w8 ⟨rfl, hb8⟩
  have z8_0 : w.heap.size < w8.heap.size := by have := hb8.size; (try simp at this); omega
  have z8_1 : w.heap.size + 1 < w8.heap.size := by have := hb8.size; (try simp at this); omega
  have cew_heap_size8_0 : w8.cell? ⟨w.heap.size, 0, none⟩ = some (.int .i64 X1) := keep_cell hb8 (by first | assumption | (go_simp; done) | (simp; done) | simp [*])
  have zew_heap_size8 : w.heap.size < w8.heap.size := block_lt_of_cell cew_heap_size8_0
  have cew_heap_size8_1 : w8.cell? ⟨w.heap.size, 1, none⟩ = some (.int .i64 X2) := keep_cell hb8 (by first | assumption | (go_simp; done) | (simp; done) | simp [*])
  have cew_heap_size_18_0 : w8.cell? ⟨w.heap.size + 1, 0, none⟩ = some (.int .i64 Y1) := keep_cell hb8 (by first | assumption | (go_simp; done) | (simp; done) | simp [*])
  have zew_heap_size_18 : w.heap.size + 1 < w8.heap.size := block_lt_of_cell cew_heap_size_18_0
  have cew_heap_size_18_1 : w8.cell? ⟨w.heap.size + 1, 1, none⟩ = some (.int .i64 Y2) := keep_cell hb8 (by first | assumption | (go_simp; done) | (simp; done) | simp [*])
  have cew_heap_size_28_0 : w8.cell? ⟨w.heap.size + 2, 0, none⟩ = some (.int .i64 Z1) := keep_cell hb8 (by first | assumption | (go_simp; done) | (simp; done) | simp [*])
  have zew_heap_size_28 : w.heap.size + 2 < w8.heap.size := block_lt_of_cell cew_heap_size_28_0
  have cew_heap_size_28_1 : w8.cell? ⟨w.heap.size + 2, 1, none⟩ = some (.int .i64 Z2) := keep_cell hb8 (by first | assumption | (go_simp; done) | (simp; done) | simp [*])
  have B8 : Below w.heap.size w w8 := bl_call (by repeat (first | exact Below.refl _ _ | exact Nat.le_refl _ | refine Below.alloc ?_ ?_ _ | refine Below.setCell ?_ ?_ _ | refine Below.drew ?_ | refine bl_drewN ?_ _ | (assumption) | refine bl_call ?_ (by assumption) ?_ | omega | (simp <;> omega))) hb8 (by first | assumption | (simp; done) | (simp; omega) | omega)
  clear hb8
  have hsz_8 := B8.size
  clear HX HY HZ HA HB HC HD HP HQ
  rcases HCS.out with ⟨rfl, hne | ⟨rfl, hne⟩, hp | ⟨hp, ht⟩⟩ | ⟨rfl, hne | ⟨rfl, hne⟩, hp | ⟨hp, ht⟩⟩ | ⟨rfl, rfl, rfl, rfl | rfl | rfl, rfl⟩
  all_goals
    go_wp2_with fail
    refine (awake_any _).mono ?_
    rintro e w9 ⟨rfl, hb9⟩
    have z9_0 : w.heap.size < w9.heap.size := by have := hb9.size; (try simp at this); omega
    have z9_1 : w.heap.size + 1 < w9.heap.size := by have := hb9.size; (try simp at this); omega
    have z9_2 : w.heap.size + 2 < w9.heap.size := by have := hb9.size; (try simp at this); omega
    have B9 : Below w.heap.size w w9 := bl_call (by repeat (first | exact Below.refl _ _ | exact Nat.le_refl _ | refine Below.alloc ?_ ?_ _ | refine Below.setCell ?_ ?_ _ | refine Below.drew ?_ | refine bl_drewN ?_ _ | (assumption) | refine bl_call ?_ (by assumption) ?_ | omega | (simp <;> omega))) hb9 (by first | assumption | (simp; done) | (simp; omega) | omega)
    clear hb9
    have hsz_9 := B9.size
    go_wp2_with fail
    go_ret
    exact ⟨rfl, (by repeat (first | exact Below.refl _ _ | exact Nat.le_refl _ | refine Below.alloc ?_ ?_ _ | refine Below.setCell ?_ ?_ _ | refine Below.drew ?_ | refine bl_drewN ?_ _ | (assumption) | refine bl_call ?_ (by assumption) ?_ | omega | (simp <;> omega)))⟩
namespace gaugeOrdered
open Go.ChangeShapes Go.WideShapes Go.ChangeAt Go.RowKit
open Go.Lib Go.Joins
set_option maxRecDepth 100000 in
theorem contract (H : Type) (enc : TypeId × Value → H) (W : World) (base : Nat) (args : Array Value) (ds gs : List (DataW H)) (before : List MemPlace)
    (hval : ∀ (j : Nat) t v, Tryd.f13.params[j]? = some t → args[j]? = some v → Value.okWide Tryd.prog W .any base t v)
    (hW : DataW.Whole enc Tryd.prog Tryd.f13.params.toList Rows.gaugeOrderedSpec.vars false W args.toList ds gs before) :
    Calls Tryd.prog 13 args W fun e W' => ∃ v, e = .returned v ∧ Rows.gaugeOrderedSpec.post enc Tryd.prog Tryd.f13 false true false false W args v W' := by
  have hW' := hW
  obtain ⟨p, q, hA0, hV, rfl, hfz, hnd⟩ := hW
  have hA : DataW.TrodAll enc Tryd.prog W 0 (fun _ => true) true Tryd.f13.params.toList args.toList ds p := hA0
  rw [Tryd.params13] at hA hval
  obtain ⟨v0, vs0, d0, ds0, p0, q0, hargs, rfl, rfl, h0, r0⟩ := trodAll_cons hA
  obtain ⟨v1, vs1, d1, ds1, p1, q1, rfl, rfl, rfl, h1, r1⟩ := trodAll_cons r0
  obtain ⟨v2, vs2, d2, ds2, p2, q2, rfl, rfl, rfl, h2, r2⟩ := trodAll_cons r1
  obtain ⟨rfl, rfl, rfl⟩ := trodAll_nil r2
  obtain rfl : args = #[v0, v1, v2] := by cases args; simp_all
  obtain ⟨rfl, rfl⟩ := trodVars_none hV
  obtain ⟨u0, t0, y0, z0, n0, rfl, rfl, rfl, tu0, tt0⟩ := open_agg2 Tryd.underlying23 (by kernel_rfl) (by kernel_rfl) (hval 0 23 v0 rfl rfl) h0
  obtain ⟨a0, ea0, rfl, wa0⟩ := DataW.trod_int Tryd.underlying3 tu0
  obtain ⟨b0, eb0, rfl, wb0⟩ := DataW.trod_int Tryd.underlying3 tt0
  obtain rfl : u0 = .int .i64 a0 := by simpa using ea0
  obtain rfl : t0 = .int .i64 b0 := by simpa using eb0
  obtain ⟨u1, t1, y1, z1, n1, rfl, rfl, rfl, tu1, tt1⟩ := open_agg2 Tryd.underlying23 (by kernel_rfl) (by kernel_rfl) (hval 1 23 v1 rfl rfl) h1
  obtain ⟨a1, ea1, rfl, wa1⟩ := DataW.trod_int Tryd.underlying3 tu1
  obtain ⟨b1, eb1, rfl, wb1⟩ := DataW.trod_int Tryd.underlying3 tt1
  obtain rfl : u1 = .int .i64 a1 := by simpa using ea1
  obtain rfl : t1 = .int .i64 b1 := by simpa using eb1
  obtain ⟨u2, t2, y2, z2, n2, rfl, rfl, rfl, tu2, tt2⟩ := open_agg2 Tryd.underlying23 (by kernel_rfl) (by kernel_rfl) (hval 2 23 v2 rfl rfl) h2
  obtain ⟨a2, ea2, rfl, wa2⟩ := DataW.trod_int Tryd.underlying3 tu2
  obtain ⟨b2, eb2, rfl, wb2⟩ := DataW.trod_int Tryd.underlying3 tt2
  obtain rfl : u2 = .int .i64 a2 := by simpa using ea2
  obtain rfl : t2 = .int .i64 b2 := by simpa using eb2
  clear hA0
  simp only [List.append_nil] at hW'
  refine (show Calls Tryd.prog 13 _ W _ from (GaugeOrdered_walk a0 b0 a1 b1 a2 b2 W (inI wa0) (inI wb0) (inI wa1) (inI wb1) (inI wa2) (inI wb2))).mono fun e W' ⟨he, hb⟩ => ?_
  subst he
  exact ⟨_, rfl, _, _, _, [], [], [], hW', trodAll_mk1 (shut_bool Tryd.underlying4 _), trodAll_cons_mk (shut_agg2 (y0 := (.lit (.int .i64 a0), [])) (y1 := (.lit (.int .i64 b0), [])) Tryd.underlying23 (by kernel_rfl) (by kernel_rfl) ⟨1, by simp [DataW.trod, Tryd.underlying3, wa0]⟩ ⟨1, by simp [DataW.trod, Tryd.underlying3, wb0]⟩) (trodAll_cons_mk (shut_agg2 (y0 := (.lit (.int .i64 a1), [])) (y1 := (.lit (.int .i64 b1), [])) Tryd.underlying23 (by kernel_rfl) (by kernel_rfl) ⟨1, by simp [DataW.trod, Tryd.underlying3, wa1]⟩ ⟨1, by simp [DataW.trod, Tryd.underlying3, wb1]⟩) (trodAll_cons_mk (shut_agg2 (y0 := (.lit (.int .i64 a2), [])) (y1 := (.lit (.int .i64 b2), [])) Tryd.underlying23 (by kernel_rfl) (by kernel_rfl) ⟨1, by simp [DataW.trod, Tryd.underlying3, wa2]⟩ ⟨1, by simp [DataW.trod, Tryd.underlying3, wb2]⟩) (trodAll_mk0))), rfl, hb.frame _, fun h => by cases h⟩
theorem reads (os : Os) {H : Type} (enc : TypeId × Value → H) : ∃ places, DataW.whole enc Tryd.prog ((laidWorld os).forCall (fun _ _ => 0) ⟨#[], #[.agg #[.int .i64 0, .int .i64 0], .agg #[.int .i64 0, .int .i64 0], .agg #[.int .i64 0, .int .i64 0]], []⟩).memory Tryd.f13.params.toList Rows.gaugeOrderedSpec.vars false (#[.agg #[.int .i64 0, .int .i64 0], .agg #[.int .i64 0, .int .i64 0], .agg #[.int .i64 0, .int .i64 0]] : Array Value).toList 8 = some ([.agg [.lit (.int .i64 0), .lit (.int .i64 0)], .agg [.lit (.int .i64 0), .lit (.int .i64 0)], .agg [.lit (.int .i64 0), .lit (.int .i64 0)]], [], places) :=
  ⟨[], by kernel_rfl⟩
set_option maxRecDepth 100000 in
theorem lifted (os : Os) (started : os.Started) (H : Type) (enc : TypeId × Value → H) (F : Stop.Interp) :
    ReturnsInHanded {} Tryd.checked os 13 .any ((OpenSpec.ofChange Rows.gaugeOrderedSpec).preRow enc Tryd.prog Tryd.f13 Rows.gaugeOrderedRow.domain false Rows.gaugeOrderedRow.laid) (((OpenSpec.ofChange Rows.gaugeOrderedSpec).at F).post enc Tryd.prog Tryd.f13 false true false false) := by
  obtain ⟨places, hx⟩ := reads os enc
  refine returnsInHanded_of_row (C := Tryd.checked) (s := OpenSpec.ofChange Rows.gaugeOrderedSpec) own started (by kernel_rfl) Tryd.func13
    (witness_row_at (enc := enc) (C := Tryd.checked) false (laidWorld os) #[.agg #[.int .i64 0, .int .i64 0], .agg #[.int .i64 0, .int .i64 0], .agg #[.int .i64 0, .int .i64 0]] rfl (by kernel_rfl) (by kernel_rfl) (by kernel_rfl)
      (OpenSpec.preRow_of_cond 8 hx (by kernel_rfl) (fun k hk => by cases hk) (by kernel_rfl) (laid_met os _))) ?_
  intro W base args ds gs before hval hW _ _ _ _ _ _
  exact contract H enc W base args ds gs before hval hW
theorem said : Rows.GaugeOrderedSaid :=
  OpenClaim.holds_of_cond 13 Tryd.f13 rfl rfl rfl rfl rfl rfl rfl ⟨rfl, rfl, rfl, rfl, rfl⟩ rfl rfl rfl rfl rfl (by kernel_rfl) Tryd.func13 (by kernel_rfl)
    (of_decide_eq_true (by kernel_rfl)) (by unfold Func.isWrapper; first | (rw [if_pos (by decide +kernel)]; kernel_rfl) | (rw [if_neg (by decide +kernel)]; exact ⟨rfl, rfl⟩))
    (fun os started H enc _ F => by rw [OpenClaim.pre_eq_preRow]; exact lifted os started H enc F)
theorem plain (f : FuncId) (fn : Func) (hf : Tryd.pinned.checked.prog.funcNamed "remould/remouldlaw04.GaugeOrdered" = some f) (hfn : Tryd.pinned.checked.prog.funcs[f]? = some fn) :
    true = Tryd.pinned.checked.prog.looks [] ∧ ∀ (j : Nat) t, fn.params[j]? = some t → Tryd.pinned.checked.prog.wantsStandIn t = false := by
  obtain rfl : f = 13 := Option.some.inj ((show Tryd.prog.funcNamed "remould/remouldlaw04.GaugeOrdered" = some 13 by kernel_rfl).symm.trans hf) |>.symm
  obtain rfl : fn = Tryd.f13 := (Option.some.inj (Tryd.func13.symm.trans hfn)).symm
  refine ⟨by kernel_rfl, fun j t ht => ?_⟩
  rw [Tryd.params13] at ht
  have hm : t ∈ [23, 23, 23] := by simpa using Array.mem_of_getElem? ht
  have hall : ([23, 23, 23].all fun u => !Tryd.prog.wantsStandIn u) = true := by kernel_rfl
  exact (show Tryd.prog.wantsStandIn t = false by simpa using List.all_eq_true.1 hall t (by simpa using hm))
theorem card : Rows.GaugeOrderedCardSaid :=
  Claim7.holds_tied_plain_at .later [] _ _ _ _ said (fun _ h => by cases h) (by kernel_rfl) (fun _ h => by cases h) gaugeOrdered_row_tie rfl ⟨rfl, rfl⟩ (by kernel_rfl) rfl plain (by kernel_rfl)
end gaugeOrdered
theorem GaugeOrdered_holds : Rows.GaugeOrderedCardSaid := gaugeOrdered.card
end Go.Proofs.YtgocloilagcfoaaDoor
