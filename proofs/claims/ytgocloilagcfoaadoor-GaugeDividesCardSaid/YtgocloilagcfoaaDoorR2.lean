/- The reference's nearest and Quotient return what the program's do. -/
import Derived.Test.YtgocloilagcfoaaDoorR1
import Derived.Test.YtgocloilagcfoaaDoorC7
import Derived.Test.YtgocloilagcfoaaDoorD1
namespace Go.Proofs.YtgocloilagcfoaaDoor
open Go.RowKit
attribute [local go_sem ↓] Go.wp_at_zero Go.wp_at_succ

theorem nearZ_floor (a n Q : Int) (hn : 0 < n) (h1 : Q * n ≤ a) (h2 : a < Q * n + n) : nearZ a n = if n < 2 * (a - Q * n) then Q + 1 else Q := by
  unfold nearZ
  rw [if_neg (by omega)]
  have e : 2 * a + n - 1 = (2 * (a - Q * n) + n - 1) + (2 * n) * Q := by grind
  rw [e, Int.add_mul_ediv_left _ _ (by omega)]
  by_cases h : n < 2 * (a - Q * n)
  · rw [if_pos h]
    have : (2 * (a - Q * n) + n - 1) / (2 * n) = 1 := by
      rw [Int.ediv_eq_iff_of_pos (by omega)]; omega
    omega
  · rw [if_neg h]
    have : (2 * (a - Q * n) + n - 1) / (2 * n) = 0 := Int.ediv_eq_zero_of_lt (by omega) (by omega)
    omega

theorem tdiv_near (a n : Int) (hn : 0 < n) : a / n ≤ a.tdiv n ∧ a.tdiv n ≤ a / n + 1 := by
  obtain ⟨h1, h2⟩ := tdiv_floor a n hn
  by_cases h : a.tmod n < 0
  · have := h1 h; omega
  · have := h2 h; omega

set_option maxHeartbeats 1000000 in
theorem refNearest (a n : Int) (w : World) (a1 : -4000000000000 ≤ a) (a2 : a ≤ 4000000000000) (n1 : 0 < n) (n2 : n ≤ 4000000000000) :
    Calls Tryd.prog 56 #[.int .i64 a, .int .i64 n] w fun e w' => e = .returned (.int .i64 (nearZ a n)) ∧ w = w' := by
  have f1 : (a / n) * n ≤ a := Int.ediv_mul_le a (by omega)
  have f2 : a < (a / n) * n + n := by have := Int.lt_ediv_add_one_mul_self a n1; rw [Int.add_mul] at this; omega
  obtain ⟨f3, f4⟩ := tdiv_near a n n1
  obtain ⟨g1, g2⟩ := tdiv_bd a n 4000000000000 a1 a2
  have HN := Lib.hid (nearZ_floor a n (a / n) n1 f1 f2)
  generalize a / n = Q at f1 f2 f3 f4 HN
  have q1 : -4000000000001 ≤ Q := by omega
  have q2 : Q ≤ 4000000000000 := by omega
  have hT : ∃ T, a.tdiv n = T := ⟨_, rfl⟩
  have eq1 : (Q + 1) * n = Q * n + n := by grind
  have k1 : a < (Q + 1) * n := by omega
  have k2 : (Q + 1) * n ≤ 8000000000001 := by omega
  have k3 : -8000000000001 ≤ Q * n := by omega
  have k4 : ¬ a < Q * n := by omega
  have k5 : -8000000000001 ≤ (Q + 1) * n := by omega
  have k6 : Q * n ≤ 8000000000001 := by omega
  clear eq1
  go_enter Tryd.func56, Tryd.ntmps56
  go_wp2
  generalize a.tdiv n = T at f3 f4 g1 g2 hT ⊢
  clear hT
  go_loop [5] (fun t => ∃ k : Int, t = .int .i64 k ∧ Q ≤ k ∧ k ≤ Q + 1) (fun t => (intOf t - Q).toNat)
  case atStart => exact ⟨T, rfl, f3, f4⟩
  case round =>
    obtain ⟨k, rfl, r1, r2⟩ := hrel
    by_cases hk : k = Q + 1
    · subst hk
      clear f3 f4 g1 g2
      go_wp2
      go_round
      case rel => exact ⟨Q, by go_num, by omega, by omega⟩
      case measure => simp [intOf]; omega
    · obtain rfl : k = Q := by omega
      by_cases hr : n < 2 * (a - k * n)
      · rw [if_pos hr] at HN
        go_wp2
        go_ret
        exact ⟨ret_i HN.out.symm, rfl⟩
      · rw [if_neg hr] at HN
        go_wp2
        go_ret
        exact ⟨ret_i HN.out.symm, rfl⟩

/-- the same with both negated: what is nearest stays -/
theorem nearZ_neg (n d : Int) (hd : d < 0) : nearZ n d = nearZ (-n) (-d) := by
  unfold nearZ
  rw [if_pos hd, if_neg (by omega)]

set_option maxRecDepth 100000 in
set_option maxHeartbeats 4000000 in
theorem refQuotient (a b c d : Int) (w : World) (x1 : -1000000 ≤ a) (x2 : a ≤ 1000000) (x3 : -1000000 ≤ b) (x4 : b ≤ 1000000) (y1 : -1000000 ≤ c) (y2 : c ≤ 1000000) (y3 : -1000000 ≤ d) (y4 : d ≤ 1000000) (h3 : ¬ (c = 0 ∧ d = 0)) :
    Calls Tryd.prog 21 #[.agg #[.int .i64 a, .int .i64 b], .agg #[.int .i64 c, .int .i64 d]] w fun e w' => e = .returned (.agg #[.int .i64 (quo a b c d).1, .int .i64 (quo a b c d).2]) ∧ Below w.heap.size w w' := by
  obtain ⟨hn0, -, -, -, -⟩ := quo_bd x1 x2 x3 x4 y1 y2 y3 y4 h3
  obtain ⟨zb1, zb2, zb3, zb4, zb5, zb6⟩ := zA_bd x1 x2 x3 x4 y1 y2 y3 y4
  have m1 := fun wx => refTimes2 a b (c + d) (-d) wx (by omega) (by omega) (by omega) (by omega) (by omega) (by omega) (by omega) (by omega)
  have m2 := fun wx => refNorm c d wx (by omega) (by omega) (by omega) (by omega)
  obtain ⟨z, hz⟩ : ∃ z, zA a b c d = z := ⟨_, rfl⟩
  obtain ⟨y, hy⟩ : ∃ y, zB a b c d = y := ⟨_, rfl⟩
  obtain ⟨n, hn⟩ : ∃ n, nm c d = n := ⟨_, rfl⟩
  have e1 : (quo a b c d).1 = nearZ z n := by rw [← hz, ← hn]; rfl
  have e2 : (quo a b c d).2 = nearZ y n := by rw [← hy, ← hn]; rfl
  rw [e1, e2]
  unfold zA at hz
  unfold zB at hy
  unfold nm at hn
  rw [hz, hy] at m1
  rw [hn] at m2
  have e3 : zA a b c d = z := hz
  have e4 : zB a b c d = y := hy
  have e5 : nm c d = n := hn
  rw [e3] at zb1 zb2
  rw [e4] at zb3 zb4
  rw [e5] at zb5 zb6 hn0
  have M1 := Lib.hid m1
  have M2 := Lib.hid m2
  clear h3 m1 m2 hz hy hn e1 e2 e3 e4 e5
  have near1 : nearZ z n = nearZ (if n < 0 then -z else z) (if n < 0 then -n else n) := by
    by_cases h : n < 0
    · rw [if_pos h, if_pos h, nearZ_neg z n h]
    · rw [if_neg h, if_neg h]
  have near2 : nearZ y n = nearZ (if n < 0 then -y else y) (if n < 0 then -n else n) := by
    by_cases h : n < 0
    · rw [if_pos h, if_pos h, nearZ_neg y n h]
    · rw [if_neg h, if_neg h]
  have NE1 := Lib.hid near1
  have NE2 := Lib.hid near2
  clear near1 near2
  go_enter Tryd.func21, Tryd.ntmps21
  go_upto_region 1 with fail
  obtain ⟨w1, hw1⟩ : ∃ wx : World, wx = (((w.alloc (.cells #[.int .i64 a, .int .i64 b] 23)).alloc (.cells #[.int .i64 c, .int .i64 d] 23)).alloc (.cells #[.int .i64 0, .int .i64 0] 23)) := ⟨_, rfl⟩
  rw [← hw1]
  have q1_0 : w1.heap[w.heap.size]? = some (.cells #[.int .i64 a, .int .i64 b] 23 (0, 0)) := by rw [hw1]; exact blk_old (blk_old (blk_new _ _))
  have z1_0 : w.heap.size < w1.heap.size := by rw [hw1]; simp <;> omega
  have c1_0_0 : w1.cell? ⟨w.heap.size, 0, none⟩ = some (.int .i64 a) := by rw [hw1]; first | (go_simp; done) | simp
  have c1_0_1 : w1.cell? ⟨w.heap.size, 1, none⟩ = some (.int .i64 b) := by rw [hw1]; first | (go_simp; done) | simp
  have f1_0 : ∀ o, w1.frozen? ⟨w.heap.size, o, none⟩ = false := by intro o; rw [hw1]; first | (go_simp; done) | simp
  have q1_1 : w1.heap[w.heap.size + 1]? = some (.cells #[.int .i64 c, .int .i64 d] 23 (0, 0)) := by rw [hw1]; rw [show w.heap.size + 1 = (w.alloc (.cells #[.int .i64 a, .int .i64 b] 23)).heap.size from by simp]; exact blk_old (blk_new _ _)
  have z1_1 : w.heap.size + 1 < w1.heap.size := by rw [hw1]; simp <;> omega
  have c1_1_0 : w1.cell? ⟨w.heap.size + 1, 0, none⟩ = some (.int .i64 c) := by rw [hw1]; first | (go_simp; done) | simp
  have c1_1_1 : w1.cell? ⟨w.heap.size + 1, 1, none⟩ = some (.int .i64 d) := by rw [hw1]; first | (go_simp; done) | simp
  have f1_1 : ∀ o, w1.frozen? ⟨w.heap.size + 1, o, none⟩ = false := by intro o; rw [hw1]; first | (go_simp; done) | simp
  have q1_2 : w1.heap[w.heap.size + 2]? = some (.cells #[.int .i64 0, .int .i64 0] 23 (0, 0)) := by rw [hw1]; rw [show w.heap.size + 2 = ((w.alloc (.cells #[.int .i64 a, .int .i64 b] 23)).alloc (.cells #[.int .i64 c, .int .i64 d] 23)).heap.size from by simp]; exact blk_new _ _
  have z1_2 : w.heap.size + 2 < w1.heap.size := by rw [hw1]; simp <;> omega
  have c1_2_0 : w1.cell? ⟨w.heap.size + 2, 0, none⟩ = some (.int .i64 0) := by rw [hw1]; first | (go_simp; done) | simp
  have c1_2_1 : w1.cell? ⟨w.heap.size + 2, 1, none⟩ = some (.int .i64 0) := by rw [hw1]; first | (go_simp; done) | simp
  have f1_2 : ∀ o, w1.frozen? ⟨w.heap.size + 2, o, none⟩ = false := by intro o; rw [hw1]; first | (go_simp; done) | simp
  have B1 : Below w.heap.size w w1 := by rw [hw1]; exact (by repeat (first | exact Below.refl _ _ | exact Nat.le_refl _ | refine Below.alloc ?_ ?_ _ | refine Below.setCell ?_ ?_ _ | refine Below.drew ?_ | refine bl_drewN ?_ _ | (assumption) | refine bl_call ?_ (by assumption) ?_ | omega | (simp <;> omega)))
  clear hw1
  refine with_act fun a0 ha0 => ?_
  refine wp_region_inv (by kernel_rfl) (by kernel_rfl) (fun s a' w' => ∃ v7 v8 v9 v10 v11 v12 v5 v6 : Value, a' = putL a0 [(7, v7), (8, v8), (9, v9), (10, v10), (11, v11), (12, v12), (5, v5), (6, v6)] ∧ Hid ((s 0 = true → v7 = .agg #[.int .i64 a, .int .i64 b]) ∧ (s 1 = true → v8 = .agg #[.int .i64 c, .int .i64 d]) ∧ (s 2 = true → v9 = .agg #[.int .i64 (c + d), .int .i64 (-d)]) ∧ (s 3 = true → v10 = .agg #[.int .i64 z, .int .i64 y]) ∧ (s 4 = true → v11 = .agg #[.int .i64 c, .int .i64 d]) ∧ (s 5 = true → v12 = .int .i64 n) ∧ (s 8 = true → v6 = .int .i64 n) ∧ True) ∧ Below w1.heap.size w1 w' ∧ (s 6 = true → ∃ (g : Nat) (c0 c1 : Value), v5 = .pointer (some ⟨g, 0, none⟩) ∧ w1.heap.size ≤ g ∧ w'.heap[g]? = some (.cells #[c0, c1] 23 (0, 0)) ∧ (s 7 = true → c0 = .int .i64 z ∧ c1 = .int .i64 y)) ∧ (s 7 = true → s 6 = true) ∧ True) ?r3hzero ⟨?r3hs0, ?r3hs1, ?r3hs2, ?r3hs3, ?r3hs4, ?r3hs5, ?r3hs6, ?r3hs7, ?r3hs8, trivial⟩ ?r3hdone
  case r3hzero =>
    refine ⟨a0.tmps.getD 7 undef, a0.tmps.getD 8 undef, a0.tmps.getD 9 undef, a0.tmps.getD 10 undef, a0.tmps.getD 11 undef, a0.tmps.getD 12 undef, a0.tmps.getD 5 undef, a0.tmps.getD 6 undef, ?_, ?_, ?_, ?_, ?_, trivial⟩
    · simp only [putL, put_self]
    · exact Lib.hid ⟨fun h => (by simp at h), fun h => (by simp at h), fun h => (by simp at h), fun h => (by simp at h), fun h => (by simp at h), fun h => (by simp at h), fun h => (by simp at h), trivial⟩
    · exact (Below.refl _ _).drew
    · exact fun h => (by simp at h)
    · exact fun h => (by simp at h)
  case r3hs0 =>
    intro s a' w' hsk hdep hI K hK
    try dsimp only at hI hK
    obtain ⟨v7, v8, v9, v10, v11, v12, v5, v6, hact, hR, hB, hA5, hN5, _⟩ := hI
    subst hact
    have HK := Lib.hid hK
    clear hK
    have kc0 : w'.cell? ⟨w.heap.size, 0, none⟩ = some (.int .i64 a) := (hB.cell (p := ⟨w.heap.size, 0, none⟩) (by first | (simp; done) | omega | (simp; omega))).trans (by first | assumption | (simp; done) | (go_simp; done))
    have kc1 : w'.cell? ⟨w.heap.size, 1, none⟩ = some (.int .i64 b) := (hB.cell (p := ⟨w.heap.size, 1, none⟩) (by first | (simp; done) | omega | (simp; omega))).trans (by first | assumption | (simp; done) | (go_simp; done))
    have kc2 : w'.cell? ⟨w.heap.size + 1, 0, none⟩ = some (.int .i64 c) := (hB.cell (p := ⟨w.heap.size + 1, 0, none⟩) (by first | (simp; done) | omega | (simp; omega))).trans (by first | assumption | (simp; done) | (go_simp; done))
    have kc3 : w'.cell? ⟨w.heap.size + 1, 1, none⟩ = some (.int .i64 d) := (hB.cell (p := ⟨w.heap.size + 1, 1, none⟩) (by first | (simp; done) | omega | (simp; omega))).trans (by first | assumption | (simp; done) | (go_simp; done))
    clear hdep
    refine StepG.mk rfl ?_; rw [ha0]; simp only [putL, Act.put, List.setIfInBounds_toArray, List.set_cons_zero, List.set_cons_succ]
    go_wp2_with fail
    refine HK.out _ _ ?_
    refine ⟨(.agg #[.int .i64 a, .int .i64 b]), v8, v9, v10, v11, v12, v5, v6, (by rw [ha0]; simp only [putL, Act.put, List.setIfInBounds_toArray, List.set_cons_zero, List.set_cons_succ]), ?_, ?_, ?_, ?_, trivial⟩
    · obtain ⟨h7, h8, h9, h10, h11, h12, h6, _⟩ := hR.out
      exact Lib.hid ⟨fun _ => rfl, fun h => h8 (by simpa using h), fun h => h9 (by simpa using h), fun h => h10 (by simpa using h), fun h => h11 (by simpa using h), fun h => h12 (by simpa using h), fun h => h6 (by simpa using h), trivial⟩
    · exact hB
    · intro h; obtain ⟨g, c0, c1, e, hg, hblk, hst⟩ := hA5 (by simpa using h); exact ⟨g, c0, c1, e, hg, hblk, fun h => hst (by simpa using h)⟩
    · exact fun h => (by have h1 := hN5 (by simpa using h); simp [h1])
  case r3hs1 =>
    intro s a' w' hsk hdep hI K hK
    try dsimp only at hI hK
    obtain ⟨v7, v8, v9, v10, v11, v12, v5, v6, hact, hR, hB, hA5, hN5, _⟩ := hI
    subst hact
    have HK := Lib.hid hK
    clear hK
    have kc0 : w'.cell? ⟨w.heap.size, 0, none⟩ = some (.int .i64 a) := (hB.cell (p := ⟨w.heap.size, 0, none⟩) (by first | (simp; done) | omega | (simp; omega))).trans (by first | assumption | (simp; done) | (go_simp; done))
    have kc1 : w'.cell? ⟨w.heap.size, 1, none⟩ = some (.int .i64 b) := (hB.cell (p := ⟨w.heap.size, 1, none⟩) (by first | (simp; done) | omega | (simp; omega))).trans (by first | assumption | (simp; done) | (go_simp; done))
    have kc2 : w'.cell? ⟨w.heap.size + 1, 0, none⟩ = some (.int .i64 c) := (hB.cell (p := ⟨w.heap.size + 1, 0, none⟩) (by first | (simp; done) | omega | (simp; omega))).trans (by first | assumption | (simp; done) | (go_simp; done))
    have kc3 : w'.cell? ⟨w.heap.size + 1, 1, none⟩ = some (.int .i64 d) := (hB.cell (p := ⟨w.heap.size + 1, 1, none⟩) (by first | (simp; done) | omega | (simp; omega))).trans (by first | assumption | (simp; done) | (go_simp; done))
    clear hdep
    refine StepG.mk rfl ?_; rw [ha0]; simp only [putL, Act.put, List.setIfInBounds_toArray, List.set_cons_zero, List.set_cons_succ]
    go_wp2_with fail
    refine HK.out _ _ ?_
    refine ⟨v7, (.agg #[.int .i64 c, .int .i64 d]), v9, v10, v11, v12, v5, v6, (by rw [ha0]; simp only [putL, Act.put, List.setIfInBounds_toArray, List.set_cons_zero, List.set_cons_succ]), ?_, ?_, ?_, ?_, trivial⟩
    · obtain ⟨h7, h8, h9, h10, h11, h12, h6, _⟩ := hR.out
      exact Lib.hid ⟨fun h => h7 (by simpa using h), fun _ => rfl, fun h => h9 (by simpa using h), fun h => h10 (by simpa using h), fun h => h11 (by simpa using h), fun h => h12 (by simpa using h), fun h => h6 (by simpa using h), trivial⟩
    · exact hB
    · intro h; obtain ⟨g, c0, c1, e, hg, hblk, hst⟩ := hA5 (by simpa using h); exact ⟨g, c0, c1, e, hg, hblk, fun h => hst (by simpa using h)⟩
    · exact fun h => (by have h1 := hN5 (by simpa using h); simp [h1])
  case r3hs2 =>
    intro s a' w' hsk hdep hI K hK
    try dsimp only at hI hK
    obtain ⟨v7, v8, v9, v10, v11, v12, v5, v6, hact, hR, hB, hA5, hN5, _⟩ := hI
    subst hact
    have HK := Lib.hid hK
    clear hK
    have e8 : v8 = .agg #[.int .i64 c, .int .i64 d] := by obtain ⟨h7, h8, h9, h10, h11, h12, h6, _⟩ := hR.out; exact h8 (hdep ⟨1, .data⟩ (by simp) rfl)
    subst e8
    have kc0 : w'.cell? ⟨w.heap.size, 0, none⟩ = some (.int .i64 a) := (hB.cell (p := ⟨w.heap.size, 0, none⟩) (by first | (simp; done) | omega | (simp; omega))).trans (by first | assumption | (simp; done) | (go_simp; done))
    have kc1 : w'.cell? ⟨w.heap.size, 1, none⟩ = some (.int .i64 b) := (hB.cell (p := ⟨w.heap.size, 1, none⟩) (by first | (simp; done) | omega | (simp; omega))).trans (by first | assumption | (simp; done) | (go_simp; done))
    have kc2 : w'.cell? ⟨w.heap.size + 1, 0, none⟩ = some (.int .i64 c) := (hB.cell (p := ⟨w.heap.size + 1, 0, none⟩) (by first | (simp; done) | omega | (simp; omega))).trans (by first | assumption | (simp; done) | (go_simp; done))
    have kc3 : w'.cell? ⟨w.heap.size + 1, 1, none⟩ = some (.int .i64 d) := (hB.cell (p := ⟨w.heap.size + 1, 1, none⟩) (by first | (simp; done) | omega | (simp; omega))).trans (by first | assumption | (simp; done) | (go_simp; done))
    clear hdep
    refine StepG.mk rfl ?_; rw [ha0]; simp only [putL, Act.put, List.setIfInBounds_toArray, List.set_cons_zero, List.set_cons_succ]
    go_wp2_with fail
    refine (refMate _ _ _ (by omega) (by omega) (by omega) (by omega)).mono ?_
    rintro e wn ⟨rfl, hb⟩
    go_wp2_with fail
    refine HK.out _ _ ?_
    refine ⟨v7, (.agg #[.int .i64 c, .int .i64 d]), (.agg #[.int .i64 (c + d), .int .i64 (-d)]), v10, v11, v12, v5, v6, (by rw [ha0]; simp only [putL, Act.put, List.setIfInBounds_toArray, List.set_cons_zero, List.set_cons_succ]), ?_, ?_, ?_, ?_, trivial⟩
    · obtain ⟨h7, h8, h9, h10, h11, h12, h6, _⟩ := hR.out
      exact Lib.hid ⟨fun h => h7 (by simpa using h), fun _ => rfl, fun _ => rfl, fun h => h10 (by simpa using h), fun h => h11 (by simpa using h), fun h => h12 (by simpa using h), fun h => h6 (by simpa using h), trivial⟩
    · exact bl_call hB hb hB.size
    · intro h; obtain ⟨g, c0, c1, e, hg, hblk, hst⟩ := hA5 (by simpa using h); exact ⟨g, c0, c1, e, hg, (hb.block g (blk_lt hblk)).trans hblk, fun h => hst (by simpa using h)⟩
    · exact fun h => (by have h1 := hN5 (by simpa using h); simp [h1])
  case r3hs3 =>
    intro s a' w' hsk hdep hI K hK
    try dsimp only at hI hK
    obtain ⟨v7, v8, v9, v10, v11, v12, v5, v6, hact, hR, hB, hA5, hN5, _⟩ := hI
    subst hact
    have HK := Lib.hid hK
    clear hK
    have e7 : v7 = .agg #[.int .i64 a, .int .i64 b] := by obtain ⟨h7, h8, h9, h10, h11, h12, h6, _⟩ := hR.out; exact h7 (hdep ⟨0, .data⟩ (by simp) rfl)
    subst e7
    have e9 : v9 = .agg #[.int .i64 (c + d), .int .i64 (-d)] := by obtain ⟨h7, h8, h9, h10, h11, h12, h6, _⟩ := hR.out; exact h9 (hdep ⟨2, .data⟩ (by simp) rfl)
    subst e9
    have kc0 : w'.cell? ⟨w.heap.size, 0, none⟩ = some (.int .i64 a) := (hB.cell (p := ⟨w.heap.size, 0, none⟩) (by first | (simp; done) | omega | (simp; omega))).trans (by first | assumption | (simp; done) | (go_simp; done))
    have kc1 : w'.cell? ⟨w.heap.size, 1, none⟩ = some (.int .i64 b) := (hB.cell (p := ⟨w.heap.size, 1, none⟩) (by first | (simp; done) | omega | (simp; omega))).trans (by first | assumption | (simp; done) | (go_simp; done))
    have kc2 : w'.cell? ⟨w.heap.size + 1, 0, none⟩ = some (.int .i64 c) := (hB.cell (p := ⟨w.heap.size + 1, 0, none⟩) (by first | (simp; done) | omega | (simp; omega))).trans (by first | assumption | (simp; done) | (go_simp; done))
    have kc3 : w'.cell? ⟨w.heap.size + 1, 1, none⟩ = some (.int .i64 d) := (hB.cell (p := ⟨w.heap.size + 1, 1, none⟩) (by first | (simp; done) | omega | (simp; omega))).trans (by first | assumption | (simp; done) | (go_simp; done))
    clear hdep
    refine StepG.mk rfl ?_; rw [ha0]; simp only [putL, Act.put, List.setIfInBounds_toArray, List.set_cons_zero, List.set_cons_succ]
    go_wp2_with fail
    refine (M1.out _).mono ?_
    rintro e wn ⟨rfl, hb⟩
    go_wp2_with fail
    refine HK.out _ _ ?_
    refine ⟨(.agg #[.int .i64 a, .int .i64 b]), v8, (.agg #[.int .i64 (c + d), .int .i64 (-d)]), (.agg #[.int .i64 z, .int .i64 y]), v11, v12, v5, v6, (by rw [ha0]; simp only [putL, Act.put, List.setIfInBounds_toArray, List.set_cons_zero, List.set_cons_succ]), ?_, ?_, ?_, ?_, trivial⟩
    · obtain ⟨h7, h8, h9, h10, h11, h12, h6, _⟩ := hR.out
      exact Lib.hid ⟨fun _ => rfl, fun h => h8 (by simpa using h), fun _ => rfl, fun _ => rfl, fun h => h11 (by simpa using h), fun h => h12 (by simpa using h), fun h => h6 (by simpa using h), trivial⟩
    · exact bl_call hB hb hB.size
    · intro h; obtain ⟨g, c0, c1, e, hg, hblk, hst⟩ := hA5 (by simpa using h); exact ⟨g, c0, c1, e, hg, (hb.block g (blk_lt hblk)).trans hblk, fun h => hst (by simpa using h)⟩
    · exact fun h => (by have h1 := hN5 (by simpa using h); simp [h1])
  case r3hs4 =>
    intro s a' w' hsk hdep hI K hK
    try dsimp only at hI hK
    obtain ⟨v7, v8, v9, v10, v11, v12, v5, v6, hact, hR, hB, hA5, hN5, _⟩ := hI
    subst hact
    have HK := Lib.hid hK
    clear hK
    have kc0 : w'.cell? ⟨w.heap.size, 0, none⟩ = some (.int .i64 a) := (hB.cell (p := ⟨w.heap.size, 0, none⟩) (by first | (simp; done) | omega | (simp; omega))).trans (by first | assumption | (simp; done) | (go_simp; done))
    have kc1 : w'.cell? ⟨w.heap.size, 1, none⟩ = some (.int .i64 b) := (hB.cell (p := ⟨w.heap.size, 1, none⟩) (by first | (simp; done) | omega | (simp; omega))).trans (by first | assumption | (simp; done) | (go_simp; done))
    have kc2 : w'.cell? ⟨w.heap.size + 1, 0, none⟩ = some (.int .i64 c) := (hB.cell (p := ⟨w.heap.size + 1, 0, none⟩) (by first | (simp; done) | omega | (simp; omega))).trans (by first | assumption | (simp; done) | (go_simp; done))
    have kc3 : w'.cell? ⟨w.heap.size + 1, 1, none⟩ = some (.int .i64 d) := (hB.cell (p := ⟨w.heap.size + 1, 1, none⟩) (by first | (simp; done) | omega | (simp; omega))).trans (by first | assumption | (simp; done) | (go_simp; done))
    clear hdep
    refine StepG.mk rfl ?_; rw [ha0]; simp only [putL, Act.put, List.setIfInBounds_toArray, List.set_cons_zero, List.set_cons_succ]
    go_wp2_with fail
    refine HK.out _ _ ?_
    refine ⟨v7, v8, v9, v10, (.agg #[.int .i64 c, .int .i64 d]), v12, v5, v6, (by rw [ha0]; simp only [putL, Act.put, List.setIfInBounds_toArray, List.set_cons_zero, List.set_cons_succ]), ?_, ?_, ?_, ?_, trivial⟩
    · obtain ⟨h7, h8, h9, h10, h11, h12, h6, _⟩ := hR.out
      exact Lib.hid ⟨fun h => h7 (by simpa using h), fun h => h8 (by simpa using h), fun h => h9 (by simpa using h), fun h => h10 (by simpa using h), fun _ => rfl, fun h => h12 (by simpa using h), fun h => h6 (by simpa using h), trivial⟩
    · exact hB
    · intro h; obtain ⟨g, c0, c1, e, hg, hblk, hst⟩ := hA5 (by simpa using h); exact ⟨g, c0, c1, e, hg, hblk, fun h => hst (by simpa using h)⟩
    · exact fun h => (by have h1 := hN5 (by simpa using h); simp [h1])
  case r3hs5 =>
    intro s a' w' hsk hdep hI K hK
    try dsimp only at hI hK
    obtain ⟨v7, v8, v9, v10, v11, v12, v5, v6, hact, hR, hB, hA5, hN5, _⟩ := hI
    subst hact
    have HK := Lib.hid hK
    clear hK
    have e11 : v11 = .agg #[.int .i64 c, .int .i64 d] := by obtain ⟨h7, h8, h9, h10, h11, h12, h6, _⟩ := hR.out; exact h11 (hdep ⟨4, .data⟩ (by simp) rfl)
    subst e11
    have kc0 : w'.cell? ⟨w.heap.size, 0, none⟩ = some (.int .i64 a) := (hB.cell (p := ⟨w.heap.size, 0, none⟩) (by first | (simp; done) | omega | (simp; omega))).trans (by first | assumption | (simp; done) | (go_simp; done))
    have kc1 : w'.cell? ⟨w.heap.size, 1, none⟩ = some (.int .i64 b) := (hB.cell (p := ⟨w.heap.size, 1, none⟩) (by first | (simp; done) | omega | (simp; omega))).trans (by first | assumption | (simp; done) | (go_simp; done))
    have kc2 : w'.cell? ⟨w.heap.size + 1, 0, none⟩ = some (.int .i64 c) := (hB.cell (p := ⟨w.heap.size + 1, 0, none⟩) (by first | (simp; done) | omega | (simp; omega))).trans (by first | assumption | (simp; done) | (go_simp; done))
    have kc3 : w'.cell? ⟨w.heap.size + 1, 1, none⟩ = some (.int .i64 d) := (hB.cell (p := ⟨w.heap.size + 1, 1, none⟩) (by first | (simp; done) | omega | (simp; omega))).trans (by first | assumption | (simp; done) | (go_simp; done))
    clear hdep
    refine StepG.mk rfl ?_; rw [ha0]; simp only [putL, Act.put, List.setIfInBounds_toArray, List.set_cons_zero, List.set_cons_succ]
    go_wp2_with fail
    refine (M2.out _).mono ?_
    rintro e wn ⟨rfl, hb⟩
    go_wp2_with fail
    refine HK.out _ _ ?_
    refine ⟨v7, v8, v9, v10, (.agg #[.int .i64 c, .int .i64 d]), (.int .i64 n), v5, v6, (by rw [ha0]; simp only [putL, Act.put, List.setIfInBounds_toArray, List.set_cons_zero, List.set_cons_succ]), ?_, ?_, ?_, ?_, trivial⟩
    · obtain ⟨h7, h8, h9, h10, h11, h12, h6, _⟩ := hR.out
      exact Lib.hid ⟨fun h => h7 (by simpa using h), fun h => h8 (by simpa using h), fun h => h9 (by simpa using h), fun h => h10 (by simpa using h), fun _ => rfl, fun _ => rfl, fun h => h6 (by simpa using h), trivial⟩
    · exact bl_call hB hb hB.size
    · intro h; obtain ⟨g, c0, c1, e, hg, hblk, hst⟩ := hA5 (by simpa using h); exact ⟨g, c0, c1, e, hg, (hb.block g (blk_lt hblk)).trans hblk, fun h => hst (by simpa using h)⟩
    · exact fun h => (by have h1 := hN5 (by simpa using h); simp [h1])
  case r3hs6 =>
    intro s a' w' hsk hdep hI K hK
    try dsimp only at hI hK
    obtain ⟨v7, v8, v9, v10, v11, v12, v5, v6, hact, hR, hB, hA5, hN5, _⟩ := hI
    subst hact
    have HK := Lib.hid hK
    clear hK
    have kc0 : w'.cell? ⟨w.heap.size, 0, none⟩ = some (.int .i64 a) := (hB.cell (p := ⟨w.heap.size, 0, none⟩) (by first | (simp; done) | omega | (simp; omega))).trans (by first | assumption | (simp; done) | (go_simp; done))
    have kc1 : w'.cell? ⟨w.heap.size, 1, none⟩ = some (.int .i64 b) := (hB.cell (p := ⟨w.heap.size, 1, none⟩) (by first | (simp; done) | omega | (simp; omega))).trans (by first | assumption | (simp; done) | (go_simp; done))
    have kc2 : w'.cell? ⟨w.heap.size + 1, 0, none⟩ = some (.int .i64 c) := (hB.cell (p := ⟨w.heap.size + 1, 0, none⟩) (by first | (simp; done) | omega | (simp; omega))).trans (by first | assumption | (simp; done) | (go_simp; done))
    have kc3 : w'.cell? ⟨w.heap.size + 1, 1, none⟩ = some (.int .i64 d) := (hB.cell (p := ⟨w.heap.size + 1, 1, none⟩) (by first | (simp; done) | omega | (simp; omega))).trans (by first | assumption | (simp; done) | (go_simp; done))
    clear hdep
    refine StepG.mk rfl ?_; rw [ha0]; simp only [putL, Act.put, List.setIfInBounds_toArray, List.set_cons_zero, List.set_cons_succ]
    go_wp2_with fail
    refine HK.out _ _ ?_
    refine ⟨v7, v8, v9, v10, v11, v12, (.pointer (some ⟨w'.heap.size, 0, none⟩)), v6, (by rw [ha0]; simp only [putL, Act.put, List.setIfInBounds_toArray, List.set_cons_zero, List.set_cons_succ]), ?_, ?_, ?_, ?_, trivial⟩
    · obtain ⟨h7, h8, h9, h10, h11, h12, h6, _⟩ := hR.out
      exact Lib.hid ⟨fun h => h7 (by simpa using h), fun h => h8 (by simpa using h), fun h => h9 (by simpa using h), fun h => h10 (by simpa using h), fun h => h11 (by simpa using h), fun h => h12 (by simpa using h), fun h => h6 (by simpa using h), trivial⟩
    · exact hB.alloc hB.size _
    · exact fun _ => ⟨w'.heap.size, .int .i64 0, .int .i64 0, rfl, hB.size, blk_new w' _, fun h => (by have h1 := hN5 (by simpa using h); rw [h1] at hsk; cases hsk)⟩
    · exact fun _ => rfl
  case r3hs7 =>
    intro s a' w' hsk hdep hI K hK
    try dsimp only at hI hK
    obtain ⟨v7, v8, v9, v10, v11, v12, v5, v6, hact, hR, hB, hA5, hN5, _⟩ := hI
    subst hact
    have HK := Lib.hid hK
    clear hK
    have e10 : v10 = .agg #[.int .i64 z, .int .i64 y] := by obtain ⟨h7, h8, h9, h10, h11, h12, h6, _⟩ := hR.out; exact h10 (hdep ⟨3, .data⟩ (by simp) rfl)
    subst e10
    obtain ⟨g, c0, c1, ev, hg, hblk, hst⟩ := hA5 (hdep ⟨6, .data⟩ (by simp) rfl)
    subst ev
    have kc0 : w'.cell? ⟨w.heap.size, 0, none⟩ = some (.int .i64 a) := (hB.cell (p := ⟨w.heap.size, 0, none⟩) (by first | (simp; done) | omega | (simp; omega))).trans (by first | assumption | (simp; done) | (go_simp; done))
    have kc1 : w'.cell? ⟨w.heap.size, 1, none⟩ = some (.int .i64 b) := (hB.cell (p := ⟨w.heap.size, 1, none⟩) (by first | (simp; done) | omega | (simp; omega))).trans (by first | assumption | (simp; done) | (go_simp; done))
    have kc2 : w'.cell? ⟨w.heap.size + 1, 0, none⟩ = some (.int .i64 c) := (hB.cell (p := ⟨w.heap.size + 1, 0, none⟩) (by first | (simp; done) | omega | (simp; omega))).trans (by first | assumption | (simp; done) | (go_simp; done))
    have kc3 : w'.cell? ⟨w.heap.size + 1, 1, none⟩ = some (.int .i64 d) := (hB.cell (p := ⟨w.heap.size + 1, 1, none⟩) (by first | (simp; done) | omega | (simp; omega))).trans (by first | assumption | (simp; done) | (go_simp; done))
    have kb0 : w'.cell? ⟨g, 0, none⟩ = some c0 := cell_of_row w' g 0 _ _ _ hblk
    have kb1 : w'.cell? ⟨g, 1, none⟩ = some c1 := cell_of_row w' g 1 _ _ _ hblk
    have kf : ∀ o, w'.frozen? ⟨g, o, none⟩ = false := fun o => frozen_of_row w' g o _ _ hblk
    have hBlk := Lib.hid hblk
    clear hblk
    have hdepA : s 6 = true := hdep ⟨6, .data⟩ (by simp) rfl
    clear hdep
    refine StepG.mk rfl ?_; rw [ha0]; simp only [putL, Act.put, List.setIfInBounds_toArray, List.set_cons_zero, List.set_cons_succ]
    go_wp2_with fail
    refine HK.out _ _ ?_
    refine ⟨v7, v8, v9, (.agg #[.int .i64 z, .int .i64 y]), v11, v12, (.pointer (some ⟨g, 0, none⟩)), v6, (by rw [ha0]; simp only [putL, Act.put, List.setIfInBounds_toArray, List.set_cons_zero, List.set_cons_succ]), ?_, ?_, ?_, ?_, trivial⟩
    · obtain ⟨h7, h8, h9, h10, h11, h12, h6, _⟩ := hR.out
      exact Lib.hid ⟨fun h => h7 (by simpa using h), fun h => h8 (by simpa using h), fun h => h9 (by simpa using h), fun _ => rfl, fun h => h11 (by simpa using h), fun h => h12 (by simpa using h), fun h => h6 (by simpa using h), trivial⟩
    · exact ((hB.setCell (p := ⟨g, 0, none⟩) hg _).setCell (p := ⟨g, 1, none⟩) hg _)
    · exact fun _ => ⟨g, _, _, rfl, hg, blk_set2 hBlk.out, fun _ => ⟨rfl, rfl⟩⟩
    · exact fun _ => (by simp [hdepA])
  case r3hs8 =>
    intro s a' w' hsk hdep hI K hK
    try dsimp only at hI hK
    obtain ⟨v7, v8, v9, v10, v11, v12, v5, v6, hact, hR, hB, hA5, hN5, _⟩ := hI
    subst hact
    have HK := Lib.hid hK
    clear hK
    have e12 : v12 = .int .i64 n := by obtain ⟨h7, h8, h9, h10, h11, h12, h6, _⟩ := hR.out; exact h12 (hdep ⟨5, .data⟩ (by simp) rfl)
    subst e12
    have kc0 : w'.cell? ⟨w.heap.size, 0, none⟩ = some (.int .i64 a) := (hB.cell (p := ⟨w.heap.size, 0, none⟩) (by first | (simp; done) | omega | (simp; omega))).trans (by first | assumption | (simp; done) | (go_simp; done))
    have kc1 : w'.cell? ⟨w.heap.size, 1, none⟩ = some (.int .i64 b) := (hB.cell (p := ⟨w.heap.size, 1, none⟩) (by first | (simp; done) | omega | (simp; omega))).trans (by first | assumption | (simp; done) | (go_simp; done))
    have kc2 : w'.cell? ⟨w.heap.size + 1, 0, none⟩ = some (.int .i64 c) := (hB.cell (p := ⟨w.heap.size + 1, 0, none⟩) (by first | (simp; done) | omega | (simp; omega))).trans (by first | assumption | (simp; done) | (go_simp; done))
    have kc3 : w'.cell? ⟨w.heap.size + 1, 1, none⟩ = some (.int .i64 d) := (hB.cell (p := ⟨w.heap.size + 1, 1, none⟩) (by first | (simp; done) | omega | (simp; omega))).trans (by first | assumption | (simp; done) | (go_simp; done))
    clear hdep
    refine StepG.mk rfl ?_; rw [ha0]; simp only [putL, Act.put, List.setIfInBounds_toArray, List.set_cons_zero, List.set_cons_succ]
    go_wp2_with fail
    refine HK.out _ _ ?_
    refine ⟨v7, v8, v9, v10, v11, (.int .i64 n), v5, (.int .i64 n), (by rw [ha0]; simp only [putL, Act.put, List.setIfInBounds_toArray, List.set_cons_zero, List.set_cons_succ]), ?_, ?_, ?_, ?_, trivial⟩
    · obtain ⟨h7, h8, h9, h10, h11, h12, h6, _⟩ := hR.out
      exact Lib.hid ⟨fun h => h7 (by simpa using h), fun h => h8 (by simpa using h), fun h => h9 (by simpa using h), fun h => h10 (by simpa using h), fun h => h11 (by simpa using h), fun _ => rfl, fun _ => rfl, trivial⟩
    · exact hB
    · intro h; obtain ⟨g, c0, c1, e, hg, hblk, hst⟩ := hA5 (by simpa using h); exact ⟨g, c0, c1, e, hg, hblk, fun h => hst (by simpa using h)⟩
    · exact fun h => (by have h1 := hN5 (by simpa using h); simp [h1])
  intro s a' w3 hall hI
  try dsimp only at hI
  obtain ⟨v7, v8, v9, v10, v11, v12, v5, v6, hact, hR, hBR, hA5, hN5, _⟩ := hI
  subst hact
  obtain ⟨h7, h8, h9, h10, h11, h12, h6, _⟩ := hR.out
  clear hR
  have e7 := h7 (hall 0 (by decide))
  subst e7
  clear h7
  have e8 := h8 (hall 1 (by decide))
  subst e8
  clear h8
  have e9 := h9 (hall 2 (by decide))
  subst e9
  clear h9
  have e10 := h10 (hall 3 (by decide))
  subst e10
  clear h10
  have e11 := h11 (hall 4 (by decide))
  subst e11
  clear h11
  have e12 := h12 (hall 5 (by decide))
  subst e12
  clear h12
  have e6 := h6 (hall 8 (by decide))
  subst e6
  clear h6
  obtain ⟨g5, c0, c1, ev, hg5, hblk5, hst⟩ := hA5 (hall 6 (by decide))
  subst ev
  clear hA5
  obtain ⟨es0, es1⟩ := hst (hall 7 (by decide))
  subst es0
  subst es1
  clear hall
  rw [ha0]; simp only [putL, Act.put, List.setIfInBounds_toArray, List.set_cons_zero, List.set_cons_succ]
  clear ha0
  have hb3 := hBR
  have hb3' := hBR
  clear hBR
  have z3_0 : w.heap.size < w3.heap.size := by have := hb3.size; (try simp at this); omega
  have z3_1 : w.heap.size + 1 < w3.heap.size := by have := hb3.size; (try simp at this); omega
  have z3_2 : w.heap.size + 2 < w3.heap.size := by have := hb3.size; (try simp at this); omega
  have c3_2_0 : w3.cell? ⟨w.heap.size + 2, 0, none⟩ = some (.int .i64 0) := keep_cell hb3 (by first | assumption | (go_simp; done) | (simp; done) | simp [*])
  have c3_2_1 : w3.cell? ⟨w.heap.size + 2, 1, none⟩ = some (.int .i64 0) := keep_cell hb3 (by first | assumption | (go_simp; done) | (simp; done) | simp [*])
  have f3_2 : ∀ o, w3.frozen? ⟨w.heap.size + 2, o, none⟩ = false := fun o => (hb3.frozen (p := ⟨w.heap.size + 2, o, none⟩) (by first | assumption | (simp; done) | (simp; omega))).trans (by first | (simp; done) | (go_simp; done) | simp [*])
  have B3 : Below w.heap.size w w3 := bl_call (by repeat (first | exact Below.refl _ _ | exact Nat.le_refl _ | refine Below.alloc ?_ ?_ _ | refine Below.setCell ?_ ?_ _ | refine Below.drew ?_ | refine bl_drewN ?_ _ | (assumption) | refine bl_call ?_ (by assumption) ?_ | omega | (simp <;> omega))) hb3 (by first | assumption | (simp; done) | (simp; omega) | omega)
  clear hb3
  have pblk4 := (hb3'.block _ z1_2).trans q1_2
  clear z1_0 z1_1 c1_0_0 c1_0_1 c1_1_0 c1_1_1 c1_2_0 c1_2_1 f1_0 f1_1 f1_2 B1 q1_0 q1_1 q1_2 hb3'
  have hgne : w.heap.size + 2 < g5 := by omega
  have hgs : g5 < w3.heap.size := blk_lt hblk5
  have kg0 : w3.cell? ⟨g5, 0, none⟩ = some (.int .i64 z) := cell_of_row w3 g5 0 _ _ _ hblk5
  have kg1 : w3.cell? ⟨g5, 1, none⟩ = some (.int .i64 y) := cell_of_row w3 g5 1 _ _ _ hblk5
  have kf : ∀ o, w3.frozen? ⟨g5, o, none⟩ = false := fun o => frozen_of_row w3 g5 o _ _ hblk5
  have hBlk := Lib.hid hblk5
  have hg5' : w.heap.size ≤ g5 := by omega
  clear hblk5 hg5 z1_2
  have hn51 : ¬ g5 = w.heap.size + 2 := by omega
  have hn52 : ¬ w.heap.size + 2 = g5 := by omega
  by_cases hneg : n < 0
  · have hx : 0 < -n := by omega
    rw [if_pos hneg, if_pos hneg] at NE1 NE2
    go_upto_region 5 with fail
    obtain ⟨w4, hw4⟩ : ∃ wx : World, wx = (w3.setCell ⟨g5, 0, none⟩ (.int .i64 (-z))).setCell ⟨g5, 1, none⟩ (.int .i64 (-y)) := ⟨_, rfl⟩
    have hblk := hBlk.out
    have pblk4' : w4.heap[w.heap.size + 2]? = some (.cells #[.int .i64 0, .int .i64 0] 23 (0, 0)) := by rw [hw4]; exact blk_far2 (by omega) pblk4
    have hblk4 : w4.heap[g5]? = some (.cells #[.int .i64 (-z), .int .i64 (-y)] 23 (0, 0)) := by rw [hw4]; exact blk_set2 hblk
    have B4 : Below w.heap.size w w4 := by rw [hw4]; exact (by repeat (first | exact Below.refl _ _ | exact Nat.le_refl _ | refine Below.alloc ?_ ?_ _ | refine Below.setCell ?_ ?_ _ | refine Below.drew ?_ | refine bl_drewN ?_ _ | (assumption) | refine bl_call ?_ (by assumption) ?_ | omega | (simp <;> omega)))
    have z4_2 : w.heap.size + 2 < w4.heap.size := by rw [hw4]; simpa using z3_2
    rw [← hw4]
    clear hw4 pblk4 hblk kg0 kg1 kf hBlk B3 z3_0 z3_1 z3_2 c3_2_0 c3_2_1 hgs
    have kg0 := cell_of_row w4 g5 0 _ _ _ hblk4
    have kg1 := cell_of_row w4 g5 1 _ _ _ hblk4
    simp only [List.getElem?_toArray, List.getElem?_cons_zero, List.getElem?_cons_succ] at kg0 kg1
    have pblk4 := pblk4'
    clear pblk4' hblk4
    have pblk4 : w4.heap[w.heap.size + 2]? = some (.cells #[.int .i64 0, .int .i64 0] 23 (0, 0)) := by first | assumption | exact hblk4
    refine with_act fun a0 ha0 => ?_
    refine wp_region_inv (by kernel_rfl) (by kernel_rfl) (fun s a' w' => ∃ v24 v25 v26 v27 v28 v29 v30 v31 v32 : Value, a' = putL a0 [(24, v24), (25, v25), (26, v26), (27, v27), (28, v28), (29, v29), (30, v30), (31, v31), (32, v32)] ∧ Hid ((s 0 = true → v24 = .pointer (some ⟨g5, 0, none⟩)) ∧ (s 1 = true → v25 = .int .i64 (-z)) ∧ (s 2 = true → v26 = .int .i64 (-n)) ∧ (s 3 = true → v27 = .int .i64 (nearZ (-z) (-n))) ∧ (s 4 = true → v28 = .pointer (some ⟨g5, 1, none⟩)) ∧ (s 5 = true → v29 = .int .i64 (-y)) ∧ (s 6 = true → v30 = .int .i64 (-n)) ∧ (s 7 = true → v31 = .int .i64 (nearZ (-y) (-n))) ∧ (s 8 = true → v32 = .agg #[.int .i64 (nearZ (-z) (-n)), .int .i64 (nearZ (-y) (-n))]) ∧ True) ∧ BelX [w.heap.size + 2] w4 w' ∧ (∃ (c0 c1 : Value), w'.heap[w.heap.size + 2]? = some (.cells #[c0, c1] 23 (0, 0)) ∧ (s 9 = true → c0 = .int .i64 (nearZ (-z) (-n)) ∧ c1 = .int .i64 (nearZ (-y) (-n))) ∧ (s 9 = false → c0 = .int .i64 0 ∧ c1 = .int .i64 0)) ∧ (s 9 = true → s 0 = true ∧ s 1 = true ∧ s 2 = true ∧ s 3 = true ∧ s 4 = true ∧ s 5 = true ∧ s 6 = true ∧ s 7 = true ∧ s 8 = true ∧ True) ∧ True) ?x1hzero ⟨?x1hs0, ?x1hs1, ?x1hs2, ?x1hs3, ?x1hs4, ?x1hs5, ?x1hs6, ?x1hs7, ?x1hs8, ?x1hs9, trivial⟩ ?x1hdone
    case x1hzero =>
      refine ⟨a0.tmps.getD 24 undef, a0.tmps.getD 25 undef, a0.tmps.getD 26 undef, a0.tmps.getD 27 undef, a0.tmps.getD 28 undef, a0.tmps.getD 29 undef, a0.tmps.getD 30 undef, a0.tmps.getD 31 undef, a0.tmps.getD 32 undef, ?_, ?_, ?_, ?_, ?_, trivial⟩
      · simp only [putL, put_self]
      · exact Lib.hid ⟨fun h => (by simp at h), fun h => (by simp at h), fun h => (by simp at h), fun h => (by simp at h), fun h => (by simp at h), fun h => (by simp at h), fun h => (by simp at h), fun h => (by simp at h), fun h => (by simp at h), trivial⟩
      · exact BelX.start _ _
      · exact ⟨.int .i64 0, .int .i64 0, pblk4, fun h => (by simp at h), fun _ => ⟨rfl, rfl⟩⟩
      · exact fun h => (by simp at h)
    case x1hs0 =>
      intro s a' w' hsk hdep hI K hK
      try dsimp only at hI hK
      obtain ⟨v24, v25, v26, v27, v28, v29, v30, v31, v32, hact, hR, hX, hP4, hQ4, _⟩ := hI
      subst hact
      have HK := Lib.hid hK
      clear hK
      have kc0 : w'.cell? ⟨g5, 0, none⟩ = some (.int .i64 (-z)) := hX.cell (by first | (simp; done) | (simp; omega)) (by first | assumption | (go_simp; done) | (simp; done))
      have kc1 : w'.cell? ⟨g5, 1, none⟩ = some (.int .i64 (-y)) := hX.cell (by first | (simp; done) | (simp; omega)) (by first | assumption | (go_simp; done) | (simp; done))
      obtain ⟨b4_0, b4_1, pb4, pt4, pf4⟩ := hP4
      have hs0 : s 9 = false := Bool.eq_false_iff.2 fun h => (by have := hQ4 h; simp [hsk] at this)
      obtain ⟨q4_0, q4_1⟩ := pf4 hs0
      subst q4_0
      subst q4_1
      clear hs0
      have kp4_0 := cell_of_row w' (w.heap.size + 2) 0 _ _ _ pb4
      have kp4_1 := cell_of_row w' (w.heap.size + 2) 1 _ _ _ pb4
      simp only [List.getElem?_toArray, List.getElem?_cons_zero, List.getElem?_cons_succ] at kp4_0 kp4_1
      have kq4 : ∀ o, w'.frozen? ⟨w.heap.size + 2, o, none⟩ = false := fun o => frozen_of_row w' _ o _ _ pb4
      have hPB4 := Lib.hid pb4
      clear pb4
      have hPT4 := Lib.hid pt4
      clear pt4
      have hPF4 := Lib.hid pf4
      clear pf4
      clear hdep
      refine StepG.mk rfl ?_; rw [ha0]; simp only [putL, Act.put, List.setIfInBounds_toArray, List.set_cons_zero, List.set_cons_succ]
      go_wp2_with fail
      refine HK.out _ _ ?_
      refine ⟨(.pointer (some ⟨g5, 0, none⟩)), v25, v26, v27, v28, v29, v30, v31, v32, (by rw [ha0]; simp only [putL, Act.put, List.setIfInBounds_toArray, List.set_cons_zero, List.set_cons_succ]), ?_, ?_, ?_, ?_, trivial⟩
      · obtain ⟨h24, h25, h26, h27, h28, h29, h30, h31, h32, _⟩ := hR.out
        exact Lib.hid ⟨fun _ => rfl, fun h => h25 (by simpa using h), fun h => h26 (by simpa using h), fun h => h27 (by simpa using h), fun h => h28 (by simpa using h), fun h => h29 (by simpa using h), fun h => h30 (by simpa using h), fun h => h31 (by simpa using h), fun h => h32 (by simpa using h), trivial⟩
      · exact hX
      · exact ⟨_, _, hPB4.out, fun h => hPT4.out (by simpa using h), fun h => ⟨rfl, rfl⟩⟩
      · exact fun h => (by have h1 := hQ4 (by simpa using h); simp [h1])
    case x1hs1 =>
      intro s a' w' hsk hdep hI K hK
      try dsimp only at hI hK
      obtain ⟨v24, v25, v26, v27, v28, v29, v30, v31, v32, hact, hR, hX, hP4, hQ4, _⟩ := hI
      subst hact
      have HK := Lib.hid hK
      clear hK
      have e24 : v24 = .pointer (some ⟨g5, 0, none⟩) := by obtain ⟨h24, h25, h26, h27, h28, h29, h30, h31, h32, _⟩ := hR.out; exact h24 (hdep ⟨0, .data⟩ (by simp) rfl)
      subst e24
      have kc0 : w'.cell? ⟨g5, 0, none⟩ = some (.int .i64 (-z)) := hX.cell (by first | (simp; done) | (simp; omega)) (by first | assumption | (go_simp; done) | (simp; done))
      have kc1 : w'.cell? ⟨g5, 1, none⟩ = some (.int .i64 (-y)) := hX.cell (by first | (simp; done) | (simp; omega)) (by first | assumption | (go_simp; done) | (simp; done))
      obtain ⟨b4_0, b4_1, pb4, pt4, pf4⟩ := hP4
      have hs0 : s 9 = false := Bool.eq_false_iff.2 fun h => (by have := hQ4 h; simp [hsk] at this)
      obtain ⟨q4_0, q4_1⟩ := pf4 hs0
      subst q4_0
      subst q4_1
      clear hs0
      have kp4_0 := cell_of_row w' (w.heap.size + 2) 0 _ _ _ pb4
      have kp4_1 := cell_of_row w' (w.heap.size + 2) 1 _ _ _ pb4
      simp only [List.getElem?_toArray, List.getElem?_cons_zero, List.getElem?_cons_succ] at kp4_0 kp4_1
      have kq4 : ∀ o, w'.frozen? ⟨w.heap.size + 2, o, none⟩ = false := fun o => frozen_of_row w' _ o _ _ pb4
      have hPB4 := Lib.hid pb4
      clear pb4
      have hPT4 := Lib.hid pt4
      clear pt4
      have hPF4 := Lib.hid pf4
      clear pf4
      clear hdep
      refine StepG.mk rfl ?_; rw [ha0]; simp only [putL, Act.put, List.setIfInBounds_toArray, List.set_cons_zero, List.set_cons_succ]
      go_wp2_with fail
      refine HK.out _ _ ?_
      refine ⟨(.pointer (some ⟨g5, 0, none⟩)), (.int .i64 (-z)), v26, v27, v28, v29, v30, v31, v32, (by rw [ha0]; simp only [putL, Act.put, List.setIfInBounds_toArray, List.set_cons_zero, List.set_cons_succ]), ?_, ?_, ?_, ?_, trivial⟩
      · obtain ⟨h24, h25, h26, h27, h28, h29, h30, h31, h32, _⟩ := hR.out
        exact Lib.hid ⟨fun _ => rfl, fun _ => rfl, fun h => h26 (by simpa using h), fun h => h27 (by simpa using h), fun h => h28 (by simpa using h), fun h => h29 (by simpa using h), fun h => h30 (by simpa using h), fun h => h31 (by simpa using h), fun h => h32 (by simpa using h), trivial⟩
      · exact hX
      · exact ⟨_, _, hPB4.out, fun h => hPT4.out (by simpa using h), fun h => ⟨rfl, rfl⟩⟩
      · exact fun h => (by have h1 := hQ4 (by simpa using h); simp [h1])
    case x1hs2 =>
      intro s a' w' hsk hdep hI K hK
      try dsimp only at hI hK
      obtain ⟨v24, v25, v26, v27, v28, v29, v30, v31, v32, hact, hR, hX, hP4, hQ4, _⟩ := hI
      subst hact
      have HK := Lib.hid hK
      clear hK
      have kc0 : w'.cell? ⟨g5, 0, none⟩ = some (.int .i64 (-z)) := hX.cell (by first | (simp; done) | (simp; omega)) (by first | assumption | (go_simp; done) | (simp; done))
      have kc1 : w'.cell? ⟨g5, 1, none⟩ = some (.int .i64 (-y)) := hX.cell (by first | (simp; done) | (simp; omega)) (by first | assumption | (go_simp; done) | (simp; done))
      obtain ⟨b4_0, b4_1, pb4, pt4, pf4⟩ := hP4
      have hs0 : s 9 = false := Bool.eq_false_iff.2 fun h => (by have := hQ4 h; simp [hsk] at this)
      obtain ⟨q4_0, q4_1⟩ := pf4 hs0
      subst q4_0
      subst q4_1
      clear hs0
      have kp4_0 := cell_of_row w' (w.heap.size + 2) 0 _ _ _ pb4
      have kp4_1 := cell_of_row w' (w.heap.size + 2) 1 _ _ _ pb4
      simp only [List.getElem?_toArray, List.getElem?_cons_zero, List.getElem?_cons_succ] at kp4_0 kp4_1
      have kq4 : ∀ o, w'.frozen? ⟨w.heap.size + 2, o, none⟩ = false := fun o => frozen_of_row w' _ o _ _ pb4
      have hPB4 := Lib.hid pb4
      clear pb4
      have hPT4 := Lib.hid pt4
      clear pt4
      have hPF4 := Lib.hid pf4
      clear pf4
      clear hdep
      refine StepG.mk rfl ?_; rw [ha0]; simp only [putL, Act.put, List.setIfInBounds_toArray, List.set_cons_zero, List.set_cons_succ]
      go_wp2_with fail
      refine HK.out _ _ ?_
      refine ⟨v24, v25, (.int .i64 (-n)), v27, v28, v29, v30, v31, v32, (by rw [ha0]; simp only [putL, Act.put, List.setIfInBounds_toArray, List.set_cons_zero, List.set_cons_succ]), ?_, ?_, ?_, ?_, trivial⟩
      · obtain ⟨h24, h25, h26, h27, h28, h29, h30, h31, h32, _⟩ := hR.out
        exact Lib.hid ⟨fun h => h24 (by simpa using h), fun h => h25 (by simpa using h), fun _ => rfl, fun h => h27 (by simpa using h), fun h => h28 (by simpa using h), fun h => h29 (by simpa using h), fun h => h30 (by simpa using h), fun h => h31 (by simpa using h), fun h => h32 (by simpa using h), trivial⟩
      · exact hX
      · exact ⟨_, _, hPB4.out, fun h => hPT4.out (by simpa using h), fun h => ⟨rfl, rfl⟩⟩
      · exact fun h => (by have h1 := hQ4 (by simpa using h); simp [h1])
    case x1hs3 =>
      intro s a' w' hsk hdep hI K hK
      try dsimp only at hI hK
      obtain ⟨v24, v25, v26, v27, v28, v29, v30, v31, v32, hact, hR, hX, hP4, hQ4, _⟩ := hI
      subst hact
      have HK := Lib.hid hK
      clear hK
      have e25 : v25 = .int .i64 (-z) := by obtain ⟨h24, h25, h26, h27, h28, h29, h30, h31, h32, _⟩ := hR.out; exact h25 (hdep ⟨1, .data⟩ (by simp) rfl)
      subst e25
      have e26 : v26 = .int .i64 (-n) := by obtain ⟨h24, h25, h26, h27, h28, h29, h30, h31, h32, _⟩ := hR.out; exact h26 (hdep ⟨2, .data⟩ (by simp) rfl)
      subst e26
      have kc0 : w'.cell? ⟨g5, 0, none⟩ = some (.int .i64 (-z)) := hX.cell (by first | (simp; done) | (simp; omega)) (by first | assumption | (go_simp; done) | (simp; done))
      have kc1 : w'.cell? ⟨g5, 1, none⟩ = some (.int .i64 (-y)) := hX.cell (by first | (simp; done) | (simp; omega)) (by first | assumption | (go_simp; done) | (simp; done))
      obtain ⟨b4_0, b4_1, pb4, pt4, pf4⟩ := hP4
      have hs0 : s 9 = false := Bool.eq_false_iff.2 fun h => (by have := hQ4 h; simp [hsk] at this)
      obtain ⟨q4_0, q4_1⟩ := pf4 hs0
      subst q4_0
      subst q4_1
      clear hs0
      have kp4_0 := cell_of_row w' (w.heap.size + 2) 0 _ _ _ pb4
      have kp4_1 := cell_of_row w' (w.heap.size + 2) 1 _ _ _ pb4
      simp only [List.getElem?_toArray, List.getElem?_cons_zero, List.getElem?_cons_succ] at kp4_0 kp4_1
      have kq4 : ∀ o, w'.frozen? ⟨w.heap.size + 2, o, none⟩ = false := fun o => frozen_of_row w' _ o _ _ pb4
      have hPB4 := Lib.hid pb4
      clear pb4
      have hPT4 := Lib.hid pt4
      clear pt4
      have hPF4 := Lib.hid pf4
      clear pf4
      clear hdep
      refine StepG.mk rfl ?_; rw [ha0]; simp only [putL, Act.put, List.setIfInBounds_toArray, List.set_cons_zero, List.set_cons_succ]
      go_wp2_with fail
      refine ((refNearest _ _ _ (by omega) (by omega) (by omega) (by omega))).mono ?_
      rintro e wn ⟨rfl, rfl⟩
      go_wp2_with fail
      refine HK.out _ _ ?_
      refine ⟨v24, (.int .i64 (-z)), (.int .i64 (-n)), (.int .i64 (nearZ (-z) (-n))), v28, v29, v30, v31, v32, (by rw [ha0]; simp only [putL, Act.put, List.setIfInBounds_toArray, List.set_cons_zero, List.set_cons_succ]), ?_, ?_, ?_, ?_, trivial⟩
      · obtain ⟨h24, h25, h26, h27, h28, h29, h30, h31, h32, _⟩ := hR.out
        exact Lib.hid ⟨fun h => h24 (by simpa using h), fun _ => rfl, fun _ => rfl, fun _ => rfl, fun h => h28 (by simpa using h), fun h => h29 (by simpa using h), fun h => h30 (by simpa using h), fun h => h31 (by simpa using h), fun h => h32 (by simpa using h), trivial⟩
      · exact hX
      · exact ⟨_, _, hPB4.out, fun h => hPT4.out (by simpa using h), fun h => ⟨rfl, rfl⟩⟩
      · exact fun h => (by have h1 := hQ4 (by simpa using h); simp [h1])
    case x1hs4 =>
      intro s a' w' hsk hdep hI K hK
      try dsimp only at hI hK
      obtain ⟨v24, v25, v26, v27, v28, v29, v30, v31, v32, hact, hR, hX, hP4, hQ4, _⟩ := hI
      subst hact
      have HK := Lib.hid hK
      clear hK
      have kc0 : w'.cell? ⟨g5, 0, none⟩ = some (.int .i64 (-z)) := hX.cell (by first | (simp; done) | (simp; omega)) (by first | assumption | (go_simp; done) | (simp; done))
      have kc1 : w'.cell? ⟨g5, 1, none⟩ = some (.int .i64 (-y)) := hX.cell (by first | (simp; done) | (simp; omega)) (by first | assumption | (go_simp; done) | (simp; done))
      obtain ⟨b4_0, b4_1, pb4, pt4, pf4⟩ := hP4
      have hs0 : s 9 = false := Bool.eq_false_iff.2 fun h => (by have := hQ4 h; simp [hsk] at this)
      obtain ⟨q4_0, q4_1⟩ := pf4 hs0
      subst q4_0
      subst q4_1
      clear hs0
      have kp4_0 := cell_of_row w' (w.heap.size + 2) 0 _ _ _ pb4
      have kp4_1 := cell_of_row w' (w.heap.size + 2) 1 _ _ _ pb4
      simp only [List.getElem?_toArray, List.getElem?_cons_zero, List.getElem?_cons_succ] at kp4_0 kp4_1
      have kq4 : ∀ o, w'.frozen? ⟨w.heap.size + 2, o, none⟩ = false := fun o => frozen_of_row w' _ o _ _ pb4
      have hPB4 := Lib.hid pb4
      clear pb4
      have hPT4 := Lib.hid pt4
      clear pt4
      have hPF4 := Lib.hid pf4
      clear pf4
      clear hdep
      refine StepG.mk rfl ?_; rw [ha0]; simp only [putL, Act.put, List.setIfInBounds_toArray, List.set_cons_zero, List.set_cons_succ]
      go_wp2_with fail
      refine HK.out _ _ ?_
      refine ⟨v24, v25, v26, v27, (.pointer (some ⟨g5, 1, none⟩)), v29, v30, v31, v32, (by rw [ha0]; simp only [putL, Act.put, List.setIfInBounds_toArray, List.set_cons_zero, List.set_cons_succ]), ?_, ?_, ?_, ?_, trivial⟩
      · obtain ⟨h24, h25, h26, h27, h28, h29, h30, h31, h32, _⟩ := hR.out
        exact Lib.hid ⟨fun h => h24 (by simpa using h), fun h => h25 (by simpa using h), fun h => h26 (by simpa using h), fun h => h27 (by simpa using h), fun _ => rfl, fun h => h29 (by simpa using h), fun h => h30 (by simpa using h), fun h => h31 (by simpa using h), fun h => h32 (by simpa using h), trivial⟩
      · exact hX
      · exact ⟨_, _, hPB4.out, fun h => hPT4.out (by simpa using h), fun h => ⟨rfl, rfl⟩⟩
      · exact fun h => (by have h1 := hQ4 (by simpa using h); simp [h1])
    case x1hs5 =>
      intro s a' w' hsk hdep hI K hK
      try dsimp only at hI hK
      obtain ⟨v24, v25, v26, v27, v28, v29, v30, v31, v32, hact, hR, hX, hP4, hQ4, _⟩ := hI
      subst hact
      have HK := Lib.hid hK
      clear hK
      have e28 : v28 = .pointer (some ⟨g5, 1, none⟩) := by obtain ⟨h24, h25, h26, h27, h28, h29, h30, h31, h32, _⟩ := hR.out; exact h28 (hdep ⟨4, .data⟩ (by simp) rfl)
      subst e28
      have kc0 : w'.cell? ⟨g5, 0, none⟩ = some (.int .i64 (-z)) := hX.cell (by first | (simp; done) | (simp; omega)) (by first | assumption | (go_simp; done) | (simp; done))
      have kc1 : w'.cell? ⟨g5, 1, none⟩ = some (.int .i64 (-y)) := hX.cell (by first | (simp; done) | (simp; omega)) (by first | assumption | (go_simp; done) | (simp; done))
      obtain ⟨b4_0, b4_1, pb4, pt4, pf4⟩ := hP4
      have hs0 : s 9 = false := Bool.eq_false_iff.2 fun h => (by have := hQ4 h; simp [hsk] at this)
      obtain ⟨q4_0, q4_1⟩ := pf4 hs0
      subst q4_0
      subst q4_1
      clear hs0
      have kp4_0 := cell_of_row w' (w.heap.size + 2) 0 _ _ _ pb4
      have kp4_1 := cell_of_row w' (w.heap.size + 2) 1 _ _ _ pb4
      simp only [List.getElem?_toArray, List.getElem?_cons_zero, List.getElem?_cons_succ] at kp4_0 kp4_1
      have kq4 : ∀ o, w'.frozen? ⟨w.heap.size + 2, o, none⟩ = false := fun o => frozen_of_row w' _ o _ _ pb4
      have hPB4 := Lib.hid pb4
      clear pb4
      have hPT4 := Lib.hid pt4
      clear pt4
      have hPF4 := Lib.hid pf4
      clear pf4
      clear hdep
      refine StepG.mk rfl ?_; rw [ha0]; simp only [putL, Act.put, List.setIfInBounds_toArray, List.set_cons_zero, List.set_cons_succ]
      go_wp2_with fail
      refine HK.out _ _ ?_
      refine ⟨v24, v25, v26, v27, (.pointer (some ⟨g5, 1, none⟩)), (.int .i64 (-y)), v30, v31, v32, (by rw [ha0]; simp only [putL, Act.put, List.setIfInBounds_toArray, List.set_cons_zero, List.set_cons_succ]), ?_, ?_, ?_, ?_, trivial⟩
      · obtain ⟨h24, h25, h26, h27, h28, h29, h30, h31, h32, _⟩ := hR.out
        exact Lib.hid ⟨fun h => h24 (by simpa using h), fun h => h25 (by simpa using h), fun h => h26 (by simpa using h), fun h => h27 (by simpa using h), fun _ => rfl, fun _ => rfl, fun h => h30 (by simpa using h), fun h => h31 (by simpa using h), fun h => h32 (by simpa using h), trivial⟩
      · exact hX
      · exact ⟨_, _, hPB4.out, fun h => hPT4.out (by simpa using h), fun h => ⟨rfl, rfl⟩⟩
      · exact fun h => (by have h1 := hQ4 (by simpa using h); simp [h1])
    case x1hs6 =>
      intro s a' w' hsk hdep hI K hK
      try dsimp only at hI hK
      obtain ⟨v24, v25, v26, v27, v28, v29, v30, v31, v32, hact, hR, hX, hP4, hQ4, _⟩ := hI
      subst hact
      have HK := Lib.hid hK
      clear hK
      have kc0 : w'.cell? ⟨g5, 0, none⟩ = some (.int .i64 (-z)) := hX.cell (by first | (simp; done) | (simp; omega)) (by first | assumption | (go_simp; done) | (simp; done))
      have kc1 : w'.cell? ⟨g5, 1, none⟩ = some (.int .i64 (-y)) := hX.cell (by first | (simp; done) | (simp; omega)) (by first | assumption | (go_simp; done) | (simp; done))
      obtain ⟨b4_0, b4_1, pb4, pt4, pf4⟩ := hP4
      have hs0 : s 9 = false := Bool.eq_false_iff.2 fun h => (by have := hQ4 h; simp [hsk] at this)
      obtain ⟨q4_0, q4_1⟩ := pf4 hs0
      subst q4_0
      subst q4_1
      clear hs0
      have kp4_0 := cell_of_row w' (w.heap.size + 2) 0 _ _ _ pb4
      have kp4_1 := cell_of_row w' (w.heap.size + 2) 1 _ _ _ pb4
      simp only [List.getElem?_toArray, List.getElem?_cons_zero, List.getElem?_cons_succ] at kp4_0 kp4_1
      have kq4 : ∀ o, w'.frozen? ⟨w.heap.size + 2, o, none⟩ = false := fun o => frozen_of_row w' _ o _ _ pb4
      have hPB4 := Lib.hid pb4
      clear pb4
      have hPT4 := Lib.hid pt4
      clear pt4
      have hPF4 := Lib.hid pf4
      clear pf4
      clear hdep
      refine StepG.mk rfl ?_; rw [ha0]; simp only [putL, Act.put, List.setIfInBounds_toArray, List.set_cons_zero, List.set_cons_succ]
      go_wp2_with fail
      refine HK.out _ _ ?_
      refine ⟨v24, v25, v26, v27, v28, v29, (.int .i64 (-n)), v31, v32, (by rw [ha0]; simp only [putL, Act.put, List.setIfInBounds_toArray, List.set_cons_zero, List.set_cons_succ]), ?_, ?_, ?_, ?_, trivial⟩
      · obtain ⟨h24, h25, h26, h27, h28, h29, h30, h31, h32, _⟩ := hR.out
        exact Lib.hid ⟨fun h => h24 (by simpa using h), fun h => h25 (by simpa using h), fun h => h26 (by simpa using h), fun h => h27 (by simpa using h), fun h => h28 (by simpa using h), fun h => h29 (by simpa using h), fun _ => rfl, fun h => h31 (by simpa using h), fun h => h32 (by simpa using h), trivial⟩
      · exact hX
      · exact ⟨_, _, hPB4.out, fun h => hPT4.out (by simpa using h), fun h => ⟨rfl, rfl⟩⟩
      · exact fun h => (by have h1 := hQ4 (by simpa using h); simp [h1])
    case x1hs7 =>
      intro s a' w' hsk hdep hI K hK
      try dsimp only at hI hK
      obtain ⟨v24, v25, v26, v27, v28, v29, v30, v31, v32, hact, hR, hX, hP4, hQ4, _⟩ := hI
      subst hact
      have HK := Lib.hid hK
      clear hK
      have e29 : v29 = .int .i64 (-y) := by obtain ⟨h24, h25, h26, h27, h28, h29, h30, h31, h32, _⟩ := hR.out; exact h29 (hdep ⟨5, .data⟩ (by simp) rfl)
      subst e29
      have e30 : v30 = .int .i64 (-n) := by obtain ⟨h24, h25, h26, h27, h28, h29, h30, h31, h32, _⟩ := hR.out; exact h30 (hdep ⟨6, .data⟩ (by simp) rfl)
      subst e30
      have kc0 : w'.cell? ⟨g5, 0, none⟩ = some (.int .i64 (-z)) := hX.cell (by first | (simp; done) | (simp; omega)) (by first | assumption | (go_simp; done) | (simp; done))
      have kc1 : w'.cell? ⟨g5, 1, none⟩ = some (.int .i64 (-y)) := hX.cell (by first | (simp; done) | (simp; omega)) (by first | assumption | (go_simp; done) | (simp; done))
      obtain ⟨b4_0, b4_1, pb4, pt4, pf4⟩ := hP4
      have hs0 : s 9 = false := Bool.eq_false_iff.2 fun h => (by have := hQ4 h; simp [hsk] at this)
      obtain ⟨q4_0, q4_1⟩ := pf4 hs0
      subst q4_0
      subst q4_1
      clear hs0
      have kp4_0 := cell_of_row w' (w.heap.size + 2) 0 _ _ _ pb4
      have kp4_1 := cell_of_row w' (w.heap.size + 2) 1 _ _ _ pb4
      simp only [List.getElem?_toArray, List.getElem?_cons_zero, List.getElem?_cons_succ] at kp4_0 kp4_1
      have kq4 : ∀ o, w'.frozen? ⟨w.heap.size + 2, o, none⟩ = false := fun o => frozen_of_row w' _ o _ _ pb4
      have hPB4 := Lib.hid pb4
      clear pb4
      have hPT4 := Lib.hid pt4
      clear pt4
      have hPF4 := Lib.hid pf4
      clear pf4
      clear hdep
      refine StepG.mk rfl ?_; rw [ha0]; simp only [putL, Act.put, List.setIfInBounds_toArray, List.set_cons_zero, List.set_cons_succ]
      go_wp2_with fail
      refine ((refNearest _ _ _ (by omega) (by omega) (by omega) (by omega))).mono ?_
      rintro e wn ⟨rfl, rfl⟩
      go_wp2_with fail
      refine HK.out _ _ ?_
      refine ⟨v24, v25, v26, v27, v28, (.int .i64 (-y)), (.int .i64 (-n)), (.int .i64 (nearZ (-y) (-n))), v32, (by rw [ha0]; simp only [putL, Act.put, List.setIfInBounds_toArray, List.set_cons_zero, List.set_cons_succ]), ?_, ?_, ?_, ?_, trivial⟩
      · obtain ⟨h24, h25, h26, h27, h28, h29, h30, h31, h32, _⟩ := hR.out
        exact Lib.hid ⟨fun h => h24 (by simpa using h), fun h => h25 (by simpa using h), fun h => h26 (by simpa using h), fun h => h27 (by simpa using h), fun h => h28 (by simpa using h), fun _ => rfl, fun _ => rfl, fun _ => rfl, fun h => h32 (by simpa using h), trivial⟩
      · exact hX
      · exact ⟨_, _, hPB4.out, fun h => hPT4.out (by simpa using h), fun h => ⟨rfl, rfl⟩⟩
      · exact fun h => (by have h1 := hQ4 (by simpa using h); simp [h1])
    case x1hs8 =>
      intro s a' w' hsk hdep hI K hK
      try dsimp only at hI hK
      obtain ⟨v24, v25, v26, v27, v28, v29, v30, v31, v32, hact, hR, hX, hP4, hQ4, _⟩ := hI
      subst hact
      have HK := Lib.hid hK
      clear hK
      have e27 : v27 = .int .i64 (nearZ (-z) (-n)) := by obtain ⟨h24, h25, h26, h27, h28, h29, h30, h31, h32, _⟩ := hR.out; exact h27 (hdep ⟨3, .data⟩ (by simp) rfl)
      subst e27
      have e31 : v31 = .int .i64 (nearZ (-y) (-n)) := by obtain ⟨h24, h25, h26, h27, h28, h29, h30, h31, h32, _⟩ := hR.out; exact h31 (hdep ⟨7, .data⟩ (by simp) rfl)
      subst e31
      have kc0 : w'.cell? ⟨g5, 0, none⟩ = some (.int .i64 (-z)) := hX.cell (by first | (simp; done) | (simp; omega)) (by first | assumption | (go_simp; done) | (simp; done))
      have kc1 : w'.cell? ⟨g5, 1, none⟩ = some (.int .i64 (-y)) := hX.cell (by first | (simp; done) | (simp; omega)) (by first | assumption | (go_simp; done) | (simp; done))
      obtain ⟨b4_0, b4_1, pb4, pt4, pf4⟩ := hP4
      have hs0 : s 9 = false := Bool.eq_false_iff.2 fun h => (by have := hQ4 h; simp [hsk] at this)
      obtain ⟨q4_0, q4_1⟩ := pf4 hs0
      subst q4_0
      subst q4_1
      clear hs0
      have kp4_0 := cell_of_row w' (w.heap.size + 2) 0 _ _ _ pb4
      have kp4_1 := cell_of_row w' (w.heap.size + 2) 1 _ _ _ pb4
      simp only [List.getElem?_toArray, List.getElem?_cons_zero, List.getElem?_cons_succ] at kp4_0 kp4_1
      have kq4 : ∀ o, w'.frozen? ⟨w.heap.size + 2, o, none⟩ = false := fun o => frozen_of_row w' _ o _ _ pb4
      have hPB4 := Lib.hid pb4
      clear pb4
      have hPT4 := Lib.hid pt4
      clear pt4
      have hPF4 := Lib.hid pf4
      clear pf4
      clear hdep
      refine StepG.mk rfl ?_; rw [ha0]; simp only [putL, Act.put, List.setIfInBounds_toArray, List.set_cons_zero, List.set_cons_succ]
      go_wp2_with fail
      refine HK.out _ _ ?_
      refine ⟨v24, v25, v26, (.int .i64 (nearZ (-z) (-n))), v28, v29, v30, (.int .i64 (nearZ (-y) (-n))), (.agg #[.int .i64 (nearZ (-z) (-n)), .int .i64 (nearZ (-y) (-n))]), (by rw [ha0]; simp only [putL, Act.put, List.setIfInBounds_toArray, List.set_cons_zero, List.set_cons_succ]), ?_, ?_, ?_, ?_, trivial⟩
      · obtain ⟨h24, h25, h26, h27, h28, h29, h30, h31, h32, _⟩ := hR.out
        exact Lib.hid ⟨fun h => h24 (by simpa using h), fun h => h25 (by simpa using h), fun h => h26 (by simpa using h), fun _ => rfl, fun h => h28 (by simpa using h), fun h => h29 (by simpa using h), fun h => h30 (by simpa using h), fun _ => rfl, fun _ => rfl, trivial⟩
      · exact hX
      · exact ⟨_, _, hPB4.out, fun h => hPT4.out (by simpa using h), fun h => ⟨rfl, rfl⟩⟩
      · exact fun h => (by have h1 := hQ4 (by simpa using h); simp [h1])
    case x1hs9 =>
      intro s a' w' hsk hdep hI K hK
      try dsimp only at hI hK
      obtain ⟨v24, v25, v26, v27, v28, v29, v30, v31, v32, hact, hR, hX, hP4, hQ4, _⟩ := hI
      subst hact
      have HK := Lib.hid hK
      clear hK
      have e32 : v32 = .agg #[.int .i64 (nearZ (-z) (-n)), .int .i64 (nearZ (-y) (-n))] := by obtain ⟨h24, h25, h26, h27, h28, h29, h30, h31, h32, _⟩ := hR.out; exact h32 (hdep ⟨8, .data⟩ (by simp) rfl)
      subst e32
      have kc0 : w'.cell? ⟨g5, 0, none⟩ = some (.int .i64 (-z)) := hX.cell (by first | (simp; done) | (simp; omega)) (by first | assumption | (go_simp; done) | (simp; done))
      have kc1 : w'.cell? ⟨g5, 1, none⟩ = some (.int .i64 (-y)) := hX.cell (by first | (simp; done) | (simp; omega)) (by first | assumption | (go_simp; done) | (simp; done))
      obtain ⟨b4_0, b4_1, pb4, pt4, pf4⟩ := hP4
      have hs0 : s 9 = false := hsk
      obtain ⟨q4_0, q4_1⟩ := pf4 hs0
      subst q4_0
      subst q4_1
      clear hs0
      have kp4_0 := cell_of_row w' (w.heap.size + 2) 0 _ _ _ pb4
      have kp4_1 := cell_of_row w' (w.heap.size + 2) 1 _ _ _ pb4
      simp only [List.getElem?_toArray, List.getElem?_cons_zero, List.getElem?_cons_succ] at kp4_0 kp4_1
      have kq4 : ∀ o, w'.frozen? ⟨w.heap.size + 2, o, none⟩ = false := fun o => frozen_of_row w' _ o _ _ pb4
      have hPB4 := Lib.hid pb4
      clear pb4
      have hPT4 := Lib.hid pt4
      clear pt4
      have hPF4 := Lib.hid pf4
      clear pf4
      have hd0 : s 0 = true := hdep ⟨0, .phase⟩ (by simp) rfl
      have hd1 : s 1 = true := hdep ⟨1, .phase⟩ (by simp) rfl
      have hd2 : s 2 = true := hdep ⟨2, .phase⟩ (by simp) rfl
      have hd3 : s 3 = true := hdep ⟨3, .phase⟩ (by simp) rfl
      have hd4 : s 4 = true := hdep ⟨4, .phase⟩ (by simp) rfl
      have hd5 : s 5 = true := hdep ⟨5, .phase⟩ (by simp) rfl
      have hd6 : s 6 = true := hdep ⟨6, .phase⟩ (by simp) rfl
      have hd7 : s 7 = true := hdep ⟨7, .chain⟩ (by simp) rfl
      have hd8 : s 8 = true := hdep ⟨8, .data⟩ (by simp) rfl
      clear hdep
      refine StepG.mk rfl ?_; rw [ha0]; simp only [putL, Act.put, List.setIfInBounds_toArray, List.set_cons_zero, List.set_cons_succ]
      go_wp2_with fail
      refine HK.out _ _ ?_
      refine ⟨v24, v25, v26, v27, v28, v29, v30, v31, (.agg #[.int .i64 (nearZ (-z) (-n)), .int .i64 (nearZ (-y) (-n))]), (by rw [ha0]; simp only [putL, Act.put, List.setIfInBounds_toArray, List.set_cons_zero, List.set_cons_succ]), ?_, ?_, ?_, ?_, trivial⟩
      · obtain ⟨h24, h25, h26, h27, h28, h29, h30, h31, h32, _⟩ := hR.out
        exact Lib.hid ⟨fun h => h24 (by simpa using h), fun h => h25 (by simpa using h), fun h => h26 (by simpa using h), fun h => h27 (by simpa using h), fun h => h28 (by simpa using h), fun h => h29 (by simpa using h), fun h => h30 (by simpa using h), fun h => h31 (by simpa using h), fun _ => rfl, trivial⟩
      · exact ((hX.setOld (p := ⟨w.heap.size + 2, 0, none⟩) (by simp) _).setOld (p := ⟨w.heap.size + 2, 1, none⟩) (by simp) _)
      · exact ⟨_, _, blk_set2 hPB4.out, fun _ => ⟨rfl, rfl⟩, fun h => (by simp at h)⟩
      · exact fun _ => (by simp [hd0, hd1, hd2, hd3, hd4, hd5, hd6, hd7, hd8])
    intro s a' w5 hall hI
    try dsimp only at hI
    obtain ⟨v24, v25, v26, v27, v28, v29, v30, v31, v32, hact, hR, hXR, hP4, hQ4, _⟩ := hI
    subst hact
    obtain ⟨h24, h25, h26, h27, h28, h29, h30, h31, h32, _⟩ := hR.out
    clear hR
    have e24 := h24 (hall 0 (by decide))
    subst e24
    clear h24
    have e25 := h25 (hall 1 (by decide))
    subst e25
    clear h25
    have e26 := h26 (hall 2 (by decide))
    subst e26
    clear h26
    have e27 := h27 (hall 3 (by decide))
    subst e27
    clear h27
    have e28 := h28 (hall 4 (by decide))
    subst e28
    clear h28
    have e29 := h29 (hall 5 (by decide))
    subst e29
    clear h29
    have e30 := h30 (hall 6 (by decide))
    subst e30
    clear h30
    have e31 := h31 (hall 7 (by decide))
    subst e31
    clear h31
    have e32 := h32 (hall 8 (by decide))
    subst e32
    clear h32
    obtain ⟨c0, c1, pblkR4, hpt, _⟩ := hP4
    clear hQ4
    obtain ⟨es0, es1⟩ := hpt (hall 9 (by decide))
    subst es0
    subst es1
    clear hpt
    try clear pblk4
    have pblk4 := pblkR4
    clear pblkR4
    clear hall
    rw [ha0]; simp only [putL, Act.put, List.setIfInBounds_toArray, List.set_cons_zero, List.set_cons_succ]
    clear ha0
    have z5_0 : w.heap.size < w5.heap.size := by have := hXR.size; omega
    have z5_1 : w.heap.size + 1 < w5.heap.size := by have := hXR.size; omega
    have z5_2 : w.heap.size + 2 < w5.heap.size := by have := hXR.size; omega
    have c5_2_0 : w5.cell? ⟨w.heap.size + 2, 0, none⟩ = some (.int .i64 (nearZ (-z) (-n))) := cell_of_row w5 _ 0 _ _ _ pblk4
    have c5_2_1 : w5.cell? ⟨w.heap.size + 2, 1, none⟩ = some (.int .i64 (nearZ (-y) (-n))) := cell_of_row w5 _ 1 _ _ _ pblk4
    have f5_2 : ∀ o, w5.frozen? ⟨w.heap.size + 2, o, none⟩ = false := fun o => frozen_of_row w5 _ o _ _ pblk4
    have B5 : Below w.heap.size w w5 := hXR.below (by first | assumption | exact (by repeat (first | exact Below.refl _ _ | exact Nat.le_refl _ | refine Below.alloc ?_ ?_ _ | refine Below.setCell ?_ ?_ _ | refine Below.drew ?_ | refine bl_drewN ?_ _ | (assumption) | refine bl_call ?_ (by assumption) ?_ | omega | (simp <;> omega)))) (by first | omega | (simp <;> omega)) (by simp <;> omega)
    clear hXR
    clear z5_0 z5_1
    go_wp2
    exact bodyPost_ret (v := .agg #[.int .i64 (nearZ (-z) (-n)), .int .i64 (nearZ (-y) (-n))]) (by simp [results, Tryd.results21, go_sem, *]) rfl ⟨by rw [NE1.out, NE2.out], (by repeat (first | exact Below.refl _ _ | exact Nat.le_refl _ | refine Below.alloc ?_ ?_ _ | refine Below.setCell ?_ ?_ _ | refine Below.drew ?_ | refine bl_drewN ?_ _ | (assumption) | refine bl_call ?_ (by assumption) ?_ | omega | (simp <;> omega)))⟩
  · have hx : 0 < n := by omega
    rw [if_neg hneg, if_neg hneg] at NE1 NE2
    go_upto_region 5 with fail
    have pblk4 : w3.heap[w.heap.size + 2]? = some (.cells #[.int .i64 0, .int .i64 0] 23 (0, 0)) := by first | assumption | exact hblk4
    refine with_act fun a0 ha0 => ?_
    refine wp_region_inv (by kernel_rfl) (by kernel_rfl) (fun s a' w' => ∃ v24 v25 v26 v27 v28 v29 v30 v31 v32 : Value, a' = putL a0 [(24, v24), (25, v25), (26, v26), (27, v27), (28, v28), (29, v29), (30, v30), (31, v31), (32, v32)] ∧ Hid ((s 0 = true → v24 = .pointer (some ⟨g5, 0, none⟩)) ∧ (s 1 = true → v25 = .int .i64 z) ∧ (s 2 = true → v26 = .int .i64 n) ∧ (s 3 = true → v27 = .int .i64 (nearZ z n)) ∧ (s 4 = true → v28 = .pointer (some ⟨g5, 1, none⟩)) ∧ (s 5 = true → v29 = .int .i64 y) ∧ (s 6 = true → v30 = .int .i64 n) ∧ (s 7 = true → v31 = .int .i64 (nearZ y n)) ∧ (s 8 = true → v32 = .agg #[.int .i64 (nearZ z n), .int .i64 (nearZ y n)]) ∧ True) ∧ BelX [w.heap.size + 2] w3 w' ∧ (∃ (c0 c1 : Value), w'.heap[w.heap.size + 2]? = some (.cells #[c0, c1] 23 (0, 0)) ∧ (s 9 = true → c0 = .int .i64 (nearZ z n) ∧ c1 = .int .i64 (nearZ y n)) ∧ (s 9 = false → c0 = .int .i64 0 ∧ c1 = .int .i64 0)) ∧ (s 9 = true → s 0 = true ∧ s 1 = true ∧ s 2 = true ∧ s 3 = true ∧ s 4 = true ∧ s 5 = true ∧ s 6 = true ∧ s 7 = true ∧ s 8 = true ∧ True) ∧ True) ?x2hzero ⟨?x2hs0, ?x2hs1, ?x2hs2, ?x2hs3, ?x2hs4, ?x2hs5, ?x2hs6, ?x2hs7, ?x2hs8, ?x2hs9, trivial⟩ ?x2hdone
    case x2hzero =>
      refine ⟨a0.tmps.getD 24 undef, a0.tmps.getD 25 undef, a0.tmps.getD 26 undef, a0.tmps.getD 27 undef, a0.tmps.getD 28 undef, a0.tmps.getD 29 undef, a0.tmps.getD 30 undef, a0.tmps.getD 31 undef, a0.tmps.getD 32 undef, ?_, ?_, ?_, ?_, ?_, trivial⟩
      · simp only [putL, put_self]
      · exact Lib.hid ⟨fun h => (by simp at h), fun h => (by simp at h), fun h => (by simp at h), fun h => (by simp at h), fun h => (by simp at h), fun h => (by simp at h), fun h => (by simp at h), fun h => (by simp at h), fun h => (by simp at h), trivial⟩
      · exact BelX.start _ _
      · exact ⟨.int .i64 0, .int .i64 0, pblk4, fun h => (by simp at h), fun _ => ⟨rfl, rfl⟩⟩
      · exact fun h => (by simp at h)
    case x2hs0 =>
      intro s a' w' hsk hdep hI K hK
      try dsimp only at hI hK
      obtain ⟨v24, v25, v26, v27, v28, v29, v30, v31, v32, hact, hR, hX, hP4, hQ4, _⟩ := hI
      subst hact
      have HK := Lib.hid hK
      clear hK
      have kc0 : w'.cell? ⟨g5, 0, none⟩ = some (.int .i64 z) := hX.cell (by first | (simp; done) | (simp; omega)) (by first | assumption | (go_simp; done) | (simp; done))
      have kc1 : w'.cell? ⟨g5, 1, none⟩ = some (.int .i64 y) := hX.cell (by first | (simp; done) | (simp; omega)) (by first | assumption | (go_simp; done) | (simp; done))
      obtain ⟨b4_0, b4_1, pb4, pt4, pf4⟩ := hP4
      have hs0 : s 9 = false := Bool.eq_false_iff.2 fun h => (by have := hQ4 h; simp [hsk] at this)
      obtain ⟨q4_0, q4_1⟩ := pf4 hs0
      subst q4_0
      subst q4_1
      clear hs0
      have kp4_0 := cell_of_row w' (w.heap.size + 2) 0 _ _ _ pb4
      have kp4_1 := cell_of_row w' (w.heap.size + 2) 1 _ _ _ pb4
      simp only [List.getElem?_toArray, List.getElem?_cons_zero, List.getElem?_cons_succ] at kp4_0 kp4_1
      have kq4 : ∀ o, w'.frozen? ⟨w.heap.size + 2, o, none⟩ = false := fun o => frozen_of_row w' _ o _ _ pb4
      have hPB4 := Lib.hid pb4
      clear pb4
      have hPT4 := Lib.hid pt4
      clear pt4
      have hPF4 := Lib.hid pf4
      clear pf4
      clear hdep
      refine StepG.mk rfl ?_; rw [ha0]; simp only [putL, Act.put, List.setIfInBounds_toArray, List.set_cons_zero, List.set_cons_succ]
      go_wp2_with fail
      refine HK.out _ _ ?_
      refine ⟨(.pointer (some ⟨g5, 0, none⟩)), v25, v26, v27, v28, v29, v30, v31, v32, (by rw [ha0]; simp only [putL, Act.put, List.setIfInBounds_toArray, List.set_cons_zero, List.set_cons_succ]), ?_, ?_, ?_, ?_, trivial⟩
      · obtain ⟨h24, h25, h26, h27, h28, h29, h30, h31, h32, _⟩ := hR.out
        exact Lib.hid ⟨fun _ => rfl, fun h => h25 (by simpa using h), fun h => h26 (by simpa using h), fun h => h27 (by simpa using h), fun h => h28 (by simpa using h), fun h => h29 (by simpa using h), fun h => h30 (by simpa using h), fun h => h31 (by simpa using h), fun h => h32 (by simpa using h), trivial⟩
      · exact hX
      · exact ⟨_, _, hPB4.out, fun h => hPT4.out (by simpa using h), fun h => ⟨rfl, rfl⟩⟩
      · exact fun h => (by have h1 := hQ4 (by simpa using h); simp [h1])
    case x2hs1 =>
      intro s a' w' hsk hdep hI K hK
      try dsimp only at hI hK
      obtain ⟨v24, v25, v26, v27, v28, v29, v30, v31, v32, hact, hR, hX, hP4, hQ4, _⟩ := hI
      subst hact
      have HK := Lib.hid hK
      clear hK
      have e24 : v24 = .pointer (some ⟨g5, 0, none⟩) := by obtain ⟨h24, h25, h26, h27, h28, h29, h30, h31, h32, _⟩ := hR.out; exact h24 (hdep ⟨0, .data⟩ (by simp) rfl)
      subst e24
      have kc0 : w'.cell? ⟨g5, 0, none⟩ = some (.int .i64 z) := hX.cell (by first | (simp; done) | (simp; omega)) (by first | assumption | (go_simp; done) | (simp; done))
      have kc1 : w'.cell? ⟨g5, 1, none⟩ = some (.int .i64 y) := hX.cell (by first | (simp; done) | (simp; omega)) (by first | assumption | (go_simp; done) | (simp; done))
      obtain ⟨b4_0, b4_1, pb4, pt4, pf4⟩ := hP4
      have hs0 : s 9 = false := Bool.eq_false_iff.2 fun h => (by have := hQ4 h; simp [hsk] at this)
      obtain ⟨q4_0, q4_1⟩ := pf4 hs0
      subst q4_0
      subst q4_1
      clear hs0
      have kp4_0 := cell_of_row w' (w.heap.size + 2) 0 _ _ _ pb4
      have kp4_1 := cell_of_row w' (w.heap.size + 2) 1 _ _ _ pb4
      simp only [List.getElem?_toArray, List.getElem?_cons_zero, List.getElem?_cons_succ] at kp4_0 kp4_1
      have kq4 : ∀ o, w'.frozen? ⟨w.heap.size + 2, o, none⟩ = false := fun o => frozen_of_row w' _ o _ _ pb4
      have hPB4 := Lib.hid pb4
      clear pb4
      have hPT4 := Lib.hid pt4
      clear pt4
      have hPF4 := Lib.hid pf4
      clear pf4
      clear hdep
      refine StepG.mk rfl ?_; rw [ha0]; simp only [putL, Act.put, List.setIfInBounds_toArray, List.set_cons_zero, List.set_cons_succ]
      go_wp2_with fail
      refine HK.out _ _ ?_
      refine ⟨(.pointer (some ⟨g5, 0, none⟩)), (.int .i64 z), v26, v27, v28, v29, v30, v31, v32, (by rw [ha0]; simp only [putL, Act.put, List.setIfInBounds_toArray, List.set_cons_zero, List.set_cons_succ]), ?_, ?_, ?_, ?_, trivial⟩
      · obtain ⟨h24, h25, h26, h27, h28, h29, h30, h31, h32, _⟩ := hR.out
        exact Lib.hid ⟨fun _ => rfl, fun _ => rfl, fun h => h26 (by simpa using h), fun h => h27 (by simpa using h), fun h => h28 (by simpa using h), fun h => h29 (by simpa using h), fun h => h30 (by simpa using h), fun h => h31 (by simpa using h), fun h => h32 (by simpa using h), trivial⟩
      · exact hX
      · exact ⟨_, _, hPB4.out, fun h => hPT4.out (by simpa using h), fun h => ⟨rfl, rfl⟩⟩
      · exact fun h => (by have h1 := hQ4 (by simpa using h); simp [h1])
    case x2hs2 =>
      intro s a' w' hsk hdep hI K hK
      try dsimp only at hI hK
      obtain ⟨v24, v25, v26, v27, v28, v29, v30, v31, v32, hact, hR, hX, hP4, hQ4, _⟩ := hI
      subst hact
      have HK := Lib.hid hK
      clear hK
      have kc0 : w'.cell? ⟨g5, 0, none⟩ = some (.int .i64 z) := hX.cell (by first | (simp; done) | (simp; omega)) (by first | assumption | (go_simp; done) | (simp; done))
      have kc1 : w'.cell? ⟨g5, 1, none⟩ = some (.int .i64 y) := hX.cell (by first | (simp; done) | (simp; omega)) (by first | assumption | (go_simp; done) | (simp; done))
      obtain ⟨b4_0, b4_1, pb4, pt4, pf4⟩ := hP4
      have hs0 : s 9 = false := Bool.eq_false_iff.2 fun h => (by have := hQ4 h; simp [hsk] at this)
      obtain ⟨q4_0, q4_1⟩ := pf4 hs0
      subst q4_0
      subst q4_1
      clear hs0
      have kp4_0 := cell_of_row w' (w.heap.size + 2) 0 _ _ _ pb4
      have kp4_1 := cell_of_row w' (w.heap.size + 2) 1 _ _ _ pb4
      simp only [List.getElem?_toArray, List.getElem?_cons_zero, List.getElem?_cons_succ] at kp4_0 kp4_1
      have kq4 : ∀ o, w'.frozen? ⟨w.heap.size + 2, o, none⟩ = false := fun o => frozen_of_row w' _ o _ _ pb4
      have hPB4 := Lib.hid pb4
      clear pb4
      have hPT4 := Lib.hid pt4
      clear pt4
      have hPF4 := Lib.hid pf4
      clear pf4
      clear hdep
      refine StepG.mk rfl ?_; rw [ha0]; simp only [putL, Act.put, List.setIfInBounds_toArray, List.set_cons_zero, List.set_cons_succ]
      go_wp2_with fail
      refine HK.out _ _ ?_
      refine ⟨v24, v25, (.int .i64 n), v27, v28, v29, v30, v31, v32, (by rw [ha0]; simp only [putL, Act.put, List.setIfInBounds_toArray, List.set_cons_zero, List.set_cons_succ]), ?_, ?_, ?_, ?_, trivial⟩
      · obtain ⟨h24, h25, h26, h27, h28, h29, h30, h31, h32, _⟩ := hR.out
        exact Lib.hid ⟨fun h => h24 (by simpa using h), fun h => h25 (by simpa using h), fun _ => rfl, fun h => h27 (by simpa using h), fun h => h28 (by simpa using h), fun h => h29 (by simpa using h), fun h => h30 (by simpa using h), fun h => h31 (by simpa using h), fun h => h32 (by simpa using h), trivial⟩
      · exact hX
      · exact ⟨_, _, hPB4.out, fun h => hPT4.out (by simpa using h), fun h => ⟨rfl, rfl⟩⟩
      · exact fun h => (by have h1 := hQ4 (by simpa using h); simp [h1])
    case x2hs3 =>
      intro s a' w' hsk hdep hI K hK
      try dsimp only at hI hK
      obtain ⟨v24, v25, v26, v27, v28, v29, v30, v31, v32, hact, hR, hX, hP4, hQ4, _⟩ := hI
      subst hact
      have HK := Lib.hid hK
      clear hK
      have e25 : v25 = .int .i64 z := by obtain ⟨h24, h25, h26, h27, h28, h29, h30, h31, h32, _⟩ := hR.out; exact h25 (hdep ⟨1, .data⟩ (by simp) rfl)
      subst e25
      have e26 : v26 = .int .i64 n := by obtain ⟨h24, h25, h26, h27, h28, h29, h30, h31, h32, _⟩ := hR.out; exact h26 (hdep ⟨2, .data⟩ (by simp) rfl)
      subst e26
      have kc0 : w'.cell? ⟨g5, 0, none⟩ = some (.int .i64 z) := hX.cell (by first | (simp; done) | (simp; omega)) (by first | assumption | (go_simp; done) | (simp; done))
      have kc1 : w'.cell? ⟨g5, 1, none⟩ = some (.int .i64 y) := hX.cell (by first | (simp; done) | (simp; omega)) (by first | assumption | (go_simp; done) | (simp; done))
      obtain ⟨b4_0, b4_1, pb4, pt4, pf4⟩ := hP4
      have hs0 : s 9 = false := Bool.eq_false_iff.2 fun h => (by have := hQ4 h; simp [hsk] at this)
      obtain ⟨q4_0, q4_1⟩ := pf4 hs0
      subst q4_0
      subst q4_1
      clear hs0
      have kp4_0 := cell_of_row w' (w.heap.size + 2) 0 _ _ _ pb4
      have kp4_1 := cell_of_row w' (w.heap.size + 2) 1 _ _ _ pb4
      simp only [List.getElem?_toArray, List.getElem?_cons_zero, List.getElem?_cons_succ] at kp4_0 kp4_1
      have kq4 : ∀ o, w'.frozen? ⟨w.heap.size + 2, o, none⟩ = false := fun o => frozen_of_row w' _ o _ _ pb4
      have hPB4 := Lib.hid pb4
      clear pb4
      have hPT4 := Lib.hid pt4
      clear pt4
      have hPF4 := Lib.hid pf4
      clear pf4
      clear hdep
      refine StepG.mk rfl ?_; rw [ha0]; simp only [putL, Act.put, List.setIfInBounds_toArray, List.set_cons_zero, List.set_cons_succ]
      go_wp2_with fail
      refine ((refNearest _ _ _ (by omega) (by omega) (by omega) (by omega))).mono ?_
      rintro e wn ⟨rfl, rfl⟩
      go_wp2_with fail
      refine HK.out _ _ ?_
      refine ⟨v24, (.int .i64 z), (.int .i64 n), (.int .i64 (nearZ z n)), v28, v29, v30, v31, v32, (by rw [ha0]; simp only [putL, Act.put, List.setIfInBounds_toArray, List.set_cons_zero, List.set_cons_succ]), ?_, ?_, ?_, ?_, trivial⟩
      · obtain ⟨h24, h25, h26, h27, h28, h29, h30, h31, h32, _⟩ := hR.out
        exact Lib.hid ⟨fun h => h24 (by simpa using h), fun _ => rfl, fun _ => rfl, fun _ => rfl, fun h => h28 (by simpa using h), fun h => h29 (by simpa using h), fun h => h30 (by simpa using h), fun h => h31 (by simpa using h), fun h => h32 (by simpa using h), trivial⟩
      · exact hX
      · exact ⟨_, _, hPB4.out, fun h => hPT4.out (by simpa using h), fun h => ⟨rfl, rfl⟩⟩
      · exact fun h => (by have h1 := hQ4 (by simpa using h); simp [h1])
    case x2hs4 =>
      intro s a' w' hsk hdep hI K hK
      try dsimp only at hI hK
      obtain ⟨v24, v25, v26, v27, v28, v29, v30, v31, v32, hact, hR, hX, hP4, hQ4, _⟩ := hI
      subst hact
      have HK := Lib.hid hK
      clear hK
      have kc0 : w'.cell? ⟨g5, 0, none⟩ = some (.int .i64 z) := hX.cell (by first | (simp; done) | (simp; omega)) (by first | assumption | (go_simp; done) | (simp; done))
      have kc1 : w'.cell? ⟨g5, 1, none⟩ = some (.int .i64 y) := hX.cell (by first | (simp; done) | (simp; omega)) (by first | assumption | (go_simp; done) | (simp; done))
      obtain ⟨b4_0, b4_1, pb4, pt4, pf4⟩ := hP4
      have hs0 : s 9 = false := Bool.eq_false_iff.2 fun h => (by have := hQ4 h; simp [hsk] at this)
      obtain ⟨q4_0, q4_1⟩ := pf4 hs0
      subst q4_0
      subst q4_1
      clear hs0
      have kp4_0 := cell_of_row w' (w.heap.size + 2) 0 _ _ _ pb4
      have kp4_1 := cell_of_row w' (w.heap.size + 2) 1 _ _ _ pb4
      simp only [List.getElem?_toArray, List.getElem?_cons_zero, List.getElem?_cons_succ] at kp4_0 kp4_1
      have kq4 : ∀ o, w'.frozen? ⟨w.heap.size + 2, o, none⟩ = false := fun o => frozen_of_row w' _ o _ _ pb4
      have hPB4 := Lib.hid pb4
      clear pb4
      have hPT4 := Lib.hid pt4
      clear pt4
      have hPF4 := Lib.hid pf4
      clear pf4
      clear hdep
      refine StepG.mk rfl ?_; rw [ha0]; simp only [putL, Act.put, List.setIfInBounds_toArray, List.set_cons_zero, List.set_cons_succ]
      go_wp2_with fail
      refine HK.out _ _ ?_
      refine ⟨v24, v25, v26, v27, (.pointer (some ⟨g5, 1, none⟩)), v29, v30, v31, v32, (by rw [ha0]; simp only [putL, Act.put, List.setIfInBounds_toArray, List.set_cons_zero, List.set_cons_succ]), ?_, ?_, ?_, ?_, trivial⟩
      · obtain ⟨h24, h25, h26, h27, h28, h29, h30, h31, h32, _⟩ := hR.out
        exact Lib.hid ⟨fun h => h24 (by simpa using h), fun h => h25 (by simpa using h), fun h => h26 (by simpa using h), fun h => h27 (by simpa using h), fun _ => rfl, fun h => h29 (by simpa using h), fun h => h30 (by simpa using h), fun h => h31 (by simpa using h), fun h => h32 (by simpa using h), trivial⟩
      · exact hX
      · exact ⟨_, _, hPB4.out, fun h => hPT4.out (by simpa using h), fun h => ⟨rfl, rfl⟩⟩
      · exact fun h => (by have h1 := hQ4 (by simpa using h); simp [h1])
    case x2hs5 =>
      intro s a' w' hsk hdep hI K hK
      try dsimp only at hI hK
      obtain ⟨v24, v25, v26, v27, v28, v29, v30, v31, v32, hact, hR, hX, hP4, hQ4, _⟩ := hI
      subst hact
      have HK := Lib.hid hK
      clear hK
      have e28 : v28 = .pointer (some ⟨g5, 1, none⟩) := by obtain ⟨h24, h25, h26, h27, h28, h29, h30, h31, h32, _⟩ := hR.out; exact h28 (hdep ⟨4, .data⟩ (by simp) rfl)
      subst e28
      have kc0 : w'.cell? ⟨g5, 0, none⟩ = some (.int .i64 z) := hX.cell (by first | (simp; done) | (simp; omega)) (by first | assumption | (go_simp; done) | (simp; done))
      have kc1 : w'.cell? ⟨g5, 1, none⟩ = some (.int .i64 y) := hX.cell (by first | (simp; done) | (simp; omega)) (by first | assumption | (go_simp; done) | (simp; done))
      obtain ⟨b4_0, b4_1, pb4, pt4, pf4⟩ := hP4
      have hs0 : s 9 = false := Bool.eq_false_iff.2 fun h => (by have := hQ4 h; simp [hsk] at this)
      obtain ⟨q4_0, q4_1⟩ := pf4 hs0
      subst q4_0
      subst q4_1
      clear hs0
      have kp4_0 := cell_of_row w' (w.heap.size + 2) 0 _ _ _ pb4
      have kp4_1 := cell_of_row w' (w.heap.size + 2) 1 _ _ _ pb4
      simp only [List.getElem?_toArray, List.getElem?_cons_zero, List.getElem?_cons_succ] at kp4_0 kp4_1
      have kq4 : ∀ o, w'.frozen? ⟨w.heap.size + 2, o, none⟩ = false := fun o => frozen_of_row w' _ o _ _ pb4
      have hPB4 := Lib.hid pb4
      clear pb4
      have hPT4 := Lib.hid pt4
      clear pt4
      have hPF4 := Lib.hid pf4
      clear pf4
      clear hdep
      refine StepG.mk rfl ?_; rw [ha0]; simp only [putL, Act.put, List.setIfInBounds_toArray, List.set_cons_zero, List.set_cons_succ]
      go_wp2_with fail
      refine HK.out _ _ ?_
      refine ⟨v24, v25, v26, v27, (.pointer (some ⟨g5, 1, none⟩)), (.int .i64 y), v30, v31, v32, (by rw [ha0]; simp only [putL, Act.put, List.setIfInBounds_toArray, List.set_cons_zero, List.set_cons_succ]), ?_, ?_, ?_, ?_, trivial⟩
      · obtain ⟨h24, h25, h26, h27, h28, h29, h30, h31, h32, _⟩ := hR.out
        exact Lib.hid ⟨fun h => h24 (by simpa using h), fun h => h25 (by simpa using h), fun h => h26 (by simpa using h), fun h => h27 (by simpa using h), fun _ => rfl, fun _ => rfl, fun h => h30 (by simpa using h), fun h => h31 (by simpa using h), fun h => h32 (by simpa using h), trivial⟩
      · exact hX
      · exact ⟨_, _, hPB4.out, fun h => hPT4.out (by simpa using h), fun h => ⟨rfl, rfl⟩⟩
      · exact fun h => (by have h1 := hQ4 (by simpa using h); simp [h1])
    case x2hs6 =>
      intro s a' w' hsk hdep hI K hK
      try dsimp only at hI hK
      obtain ⟨v24, v25, v26, v27, v28, v29, v30, v31, v32, hact, hR, hX, hP4, hQ4, _⟩ := hI
      subst hact
      have HK := Lib.hid hK
      clear hK
      have kc0 : w'.cell? ⟨g5, 0, none⟩ = some (.int .i64 z) := hX.cell (by first | (simp; done) | (simp; omega)) (by first | assumption | (go_simp; done) | (simp; done))
      have kc1 : w'.cell? ⟨g5, 1, none⟩ = some (.int .i64 y) := hX.cell (by first | (simp; done) | (simp; omega)) (by first | assumption | (go_simp; done) | (simp; done))
      obtain ⟨b4_0, b4_1, pb4, pt4, pf4⟩ := hP4
      have hs0 : s 9 = false := Bool.eq_false_iff.2 fun h => (by have := hQ4 h; simp [hsk] at this)
      obtain ⟨q4_0, q4_1⟩ := pf4 hs0
      subst q4_0
      subst q4_1
      clear hs0
      have kp4_0 := cell_of_row w' (w.heap.size + 2) 0 _ _ _ pb4
      have kp4_1 := cell_of_row w' (w.heap.size + 2) 1 _ _ _ pb4
      simp only [List.getElem?_toArray, List.getElem?_cons_zero, List.getElem?_cons_succ] at kp4_0 kp4_1
      have kq4 : ∀ o, w'.frozen? ⟨w.heap.size + 2, o, none⟩ = false := fun o => frozen_of_row w' _ o _ _ pb4
      have hPB4 := Lib.hid pb4
      clear pb4
      have hPT4 := Lib.hid pt4
      clear pt4
      have hPF4 := Lib.hid pf4
      clear pf4
      clear hdep
      refine StepG.mk rfl ?_; rw [ha0]; simp only [putL, Act.put, List.setIfInBounds_toArray, List.set_cons_zero, List.set_cons_succ]
      go_wp2_with fail
      refine HK.out _ _ ?_
      refine ⟨v24, v25, v26, v27, v28, v29, (.int .i64 n), v31, v32, (by rw [ha0]; simp only [putL, Act.put, List.setIfInBounds_toArray, List.set_cons_zero, List.set_cons_succ]), ?_, ?_, ?_, ?_, trivial⟩
      · obtain ⟨h24, h25, h26, h27, h28, h29, h30, h31, h32, _⟩ := hR.out
        exact Lib.hid ⟨fun h => h24 (by simpa using h), fun h => h25 (by simpa using h), fun h => h26 (by simpa using h), fun h => h27 (by simpa using h), fun h => h28 (by simpa using h), fun h => h29 (by simpa using h), fun _ => rfl, fun h => h31 (by simpa using h), fun h => h32 (by simpa using h), trivial⟩
      · exact hX
      · exact ⟨_, _, hPB4.out, fun h => hPT4.out (by simpa using h), fun h => ⟨rfl, rfl⟩⟩
      · exact fun h => (by have h1 := hQ4 (by simpa using h); simp [h1])
    case x2hs7 =>
      intro s a' w' hsk hdep hI K hK
      try dsimp only at hI hK
      obtain ⟨v24, v25, v26, v27, v28, v29, v30, v31, v32, hact, hR, hX, hP4, hQ4, _⟩ := hI
      subst hact
      have HK := Lib.hid hK
      clear hK
      have e29 : v29 = .int .i64 y := by obtain ⟨h24, h25, h26, h27, h28, h29, h30, h31, h32, _⟩ := hR.out; exact h29 (hdep ⟨5, .data⟩ (by simp) rfl)
      subst e29
      have e30 : v30 = .int .i64 n := by obtain ⟨h24, h25, h26, h27, h28, h29, h30, h31, h32, _⟩ := hR.out; exact h30 (hdep ⟨6, .data⟩ (by simp) rfl)
      subst e30
      have kc0 : w'.cell? ⟨g5, 0, none⟩ = some (.int .i64 z) := hX.cell (by first | (simp; done) | (simp; omega)) (by first | assumption | (go_simp; done) | (simp; done))
      have kc1 : w'.cell? ⟨g5, 1, none⟩ = some (.int .i64 y) := hX.cell (by first | (simp; done) | (simp; omega)) (by first | assumption | (go_simp; done) | (simp; done))
      obtain ⟨b4_0, b4_1, pb4, pt4, pf4⟩ := hP4
      have hs0 : s 9 = false := Bool.eq_false_iff.2 fun h => (by have := hQ4 h; simp [hsk] at this)
      obtain ⟨q4_0, q4_1⟩ := pf4 hs0
      subst q4_0
      subst q4_1
      clear hs0
      have kp4_0 := cell_of_row w' (w.heap.size + 2) 0 _ _ _ pb4
      have kp4_1 := cell_of_row w' (w.heap.size + 2) 1 _ _ _ pb4
      simp only [List.getElem?_toArray, List.getElem?_cons_zero, List.getElem?_cons_succ] at kp4_0 kp4_1
      have kq4 : ∀ o, w'.frozen? ⟨w.heap.size + 2, o, none⟩ = false := fun o => frozen_of_row w' _ o _ _ pb4
      have hPB4 := Lib.hid pb4
      clear pb4
      have hPT4 := Lib.hid pt4
      clear pt4
      have hPF4 := Lib.hid pf4
      clear pf4
      clear hdep
      refine StepG.mk rfl ?_; rw [ha0]; simp only [putL, Act.put, List.setIfInBounds_toArray, List.set_cons_zero, List.set_cons_succ]
      go_wp2_with fail
      refine ((refNearest _ _ _ (by omega) (by omega) (by omega) (by omega))).mono ?_
      rintro e wn ⟨rfl, rfl⟩
      go_wp2_with fail
      refine HK.out _ _ ?_
      refine ⟨v24, v25, v26, v27, v28, (.int .i64 y), (.int .i64 n), (.int .i64 (nearZ y n)), v32, (by rw [ha0]; simp only [putL, Act.put, List.setIfInBounds_toArray, List.set_cons_zero, List.set_cons_succ]), ?_, ?_, ?_, ?_, trivial⟩
      · obtain ⟨h24, h25, h26, h27, h28, h29, h30, h31, h32, _⟩ := hR.out
        exact Lib.hid ⟨fun h => h24 (by simpa using h), fun h => h25 (by simpa using h), fun h => h26 (by simpa using h), fun h => h27 (by simpa using h), fun h => h28 (by simpa using h), fun _ => rfl, fun _ => rfl, fun _ => rfl, fun h => h32 (by simpa using h), trivial⟩
      · exact hX
      · exact ⟨_, _, hPB4.out, fun h => hPT4.out (by simpa using h), fun h => ⟨rfl, rfl⟩⟩
      · exact fun h => (by have h1 := hQ4 (by simpa using h); simp [h1])
    case x2hs8 =>
      intro s a' w' hsk hdep hI K hK
      try dsimp only at hI hK
      obtain ⟨v24, v25, v26, v27, v28, v29, v30, v31, v32, hact, hR, hX, hP4, hQ4, _⟩ := hI
      subst hact
      have HK := Lib.hid hK
      clear hK
      have e27 : v27 = .int .i64 (nearZ z n) := by obtain ⟨h24, h25, h26, h27, h28, h29, h30, h31, h32, _⟩ := hR.out; exact h27 (hdep ⟨3, .data⟩ (by simp) rfl)
      subst e27
      have e31 : v31 = .int .i64 (nearZ y n) := by obtain ⟨h24, h25, h26, h27, h28, h29, h30, h31, h32, _⟩ := hR.out; exact h31 (hdep ⟨7, .data⟩ (by simp) rfl)
      subst e31
      have kc0 : w'.cell? ⟨g5, 0, none⟩ = some (.int .i64 z) := hX.cell (by first | (simp; done) | (simp; omega)) (by first | assumption | (go_simp; done) | (simp; done))
      have kc1 : w'.cell? ⟨g5, 1, none⟩ = some (.int .i64 y) := hX.cell (by first | (simp; done) | (simp; omega)) (by first | assumption | (go_simp; done) | (simp; done))
      obtain ⟨b4_0, b4_1, pb4, pt4, pf4⟩ := hP4
      have hs0 : s 9 = false := Bool.eq_false_iff.2 fun h => (by have := hQ4 h; simp [hsk] at this)
      obtain ⟨q4_0, q4_1⟩ := pf4 hs0
      subst q4_0
      subst q4_1
      clear hs0
      have kp4_0 := cell_of_row w' (w.heap.size + 2) 0 _ _ _ pb4
      have kp4_1 := cell_of_row w' (w.heap.size + 2) 1 _ _ _ pb4
      simp only [List.getElem?_toArray, List.getElem?_cons_zero, List.getElem?_cons_succ] at kp4_0 kp4_1
      have kq4 : ∀ o, w'.frozen? ⟨w.heap.size + 2, o, none⟩ = false := fun o => frozen_of_row w' _ o _ _ pb4
      have hPB4 := Lib.hid pb4
      clear pb4
      have hPT4 := Lib.hid pt4
      clear pt4
      have hPF4 := Lib.hid pf4
      clear pf4
      clear hdep
      refine StepG.mk rfl ?_; rw [ha0]; simp only [putL, Act.put, List.setIfInBounds_toArray, List.set_cons_zero, List.set_cons_succ]
      go_wp2_with fail
      refine HK.out _ _ ?_
      refine ⟨v24, v25, v26, (.int .i64 (nearZ z n)), v28, v29, v30, (.int .i64 (nearZ y n)), (.agg #[.int .i64 (nearZ z n), .int .i64 (nearZ y n)]), (by rw [ha0]; simp only [putL, Act.put, List.setIfInBounds_toArray, List.set_cons_zero, List.set_cons_succ]), ?_, ?_, ?_, ?_, trivial⟩
      · obtain ⟨h24, h25, h26, h27, h28, h29, h30, h31, h32, _⟩ := hR.out
        exact Lib.hid ⟨fun h => h24 (by simpa using h), fun h => h25 (by simpa using h), fun h => h26 (by simpa using h), fun _ => rfl, fun h => h28 (by simpa using h), fun h => h29 (by simpa using h), fun h => h30 (by simpa using h), fun _ => rfl, fun _ => rfl, trivial⟩
      · exact hX
      · exact ⟨_, _, hPB4.out, fun h => hPT4.out (by simpa using h), fun h => ⟨rfl, rfl⟩⟩
      · exact fun h => (by have h1 := hQ4 (by simpa using h); simp [h1])
    case x2hs9 =>
      intro s a' w' hsk hdep hI K hK
      try dsimp only at hI hK
      obtain ⟨v24, v25, v26, v27, v28, v29, v30, v31, v32, hact, hR, hX, hP4, hQ4, _⟩ := hI
      subst hact
      have HK := Lib.hid hK
      clear hK
      have e32 : v32 = .agg #[.int .i64 (nearZ z n), .int .i64 (nearZ y n)] := by obtain ⟨h24, h25, h26, h27, h28, h29, h30, h31, h32, _⟩ := hR.out; exact h32 (hdep ⟨8, .data⟩ (by simp) rfl)
      subst e32
      have kc0 : w'.cell? ⟨g5, 0, none⟩ = some (.int .i64 z) := hX.cell (by first | (simp; done) | (simp; omega)) (by first | assumption | (go_simp; done) | (simp; done))
      have kc1 : w'.cell? ⟨g5, 1, none⟩ = some (.int .i64 y) := hX.cell (by first | (simp; done) | (simp; omega)) (by first | assumption | (go_simp; done) | (simp; done))
      obtain ⟨b4_0, b4_1, pb4, pt4, pf4⟩ := hP4
      have hs0 : s 9 = false := hsk
      obtain ⟨q4_0, q4_1⟩ := pf4 hs0
      subst q4_0
      subst q4_1
      clear hs0
      have kp4_0 := cell_of_row w' (w.heap.size + 2) 0 _ _ _ pb4
      have kp4_1 := cell_of_row w' (w.heap.size + 2) 1 _ _ _ pb4
      simp only [List.getElem?_toArray, List.getElem?_cons_zero, List.getElem?_cons_succ] at kp4_0 kp4_1
      have kq4 : ∀ o, w'.frozen? ⟨w.heap.size + 2, o, none⟩ = false := fun o => frozen_of_row w' _ o _ _ pb4
      have hPB4 := Lib.hid pb4
      clear pb4
      have hPT4 := Lib.hid pt4
      clear pt4
      have hPF4 := Lib.hid pf4
      clear pf4
      have hd0 : s 0 = true := hdep ⟨0, .phase⟩ (by simp) rfl
      have hd1 : s 1 = true := hdep ⟨1, .phase⟩ (by simp) rfl
      have hd2 : s 2 = true := hdep ⟨2, .phase⟩ (by simp) rfl
      have hd3 : s 3 = true := hdep ⟨3, .phase⟩ (by simp) rfl
      have hd4 : s 4 = true := hdep ⟨4, .phase⟩ (by simp) rfl
      have hd5 : s 5 = true := hdep ⟨5, .phase⟩ (by simp) rfl
      have hd6 : s 6 = true := hdep ⟨6, .phase⟩ (by simp) rfl
      have hd7 : s 7 = true := hdep ⟨7, .chain⟩ (by simp) rfl
      have hd8 : s 8 = true := hdep ⟨8, .data⟩ (by simp) rfl
      clear hdep
      refine StepG.mk rfl ?_; rw [ha0]; simp only [putL, Act.put, List.setIfInBounds_toArray, List.set_cons_zero, List.set_cons_succ]
      go_wp2_with fail
      refine HK.out _ _ ?_
      refine ⟨v24, v25, v26, v27, v28, v29, v30, v31, (.agg #[.int .i64 (nearZ z n), .int .i64 (nearZ y n)]), (by rw [ha0]; simp only [putL, Act.put, List.setIfInBounds_toArray, List.set_cons_zero, List.set_cons_succ]), ?_, ?_, ?_, ?_, trivial⟩
      · obtain ⟨h24, h25, h26, h27, h28, h29, h30, h31, h32, _⟩ := hR.out
        exact Lib.hid ⟨fun h => h24 (by simpa using h), fun h => h25 (by simpa using h), fun h => h26 (by simpa using h), fun h => h27 (by simpa using h), fun h => h28 (by simpa using h), fun h => h29 (by simpa using h), fun h => h30 (by simpa using h), fun h => h31 (by simpa using h), fun _ => rfl, trivial⟩
      · exact ((hX.setOld (p := ⟨w.heap.size + 2, 0, none⟩) (by simp) _).setOld (p := ⟨w.heap.size + 2, 1, none⟩) (by simp) _)
      · exact ⟨_, _, blk_set2 hPB4.out, fun _ => ⟨rfl, rfl⟩, fun h => (by simp at h)⟩
      · exact fun _ => (by simp [hd0, hd1, hd2, hd3, hd4, hd5, hd6, hd7, hd8])
    intro s a' w5 hall hI
    try dsimp only at hI
    obtain ⟨v24, v25, v26, v27, v28, v29, v30, v31, v32, hact, hR, hXR, hP4, hQ4, _⟩ := hI
    subst hact
    obtain ⟨h24, h25, h26, h27, h28, h29, h30, h31, h32, _⟩ := hR.out
    clear hR
    have e24 := h24 (hall 0 (by decide))
    subst e24
    clear h24
    have e25 := h25 (hall 1 (by decide))
    subst e25
    clear h25
    have e26 := h26 (hall 2 (by decide))
    subst e26
    clear h26
    have e27 := h27 (hall 3 (by decide))
    subst e27
    clear h27
    have e28 := h28 (hall 4 (by decide))
    subst e28
    clear h28
    have e29 := h29 (hall 5 (by decide))
    subst e29
    clear h29
    have e30 := h30 (hall 6 (by decide))
    subst e30
    clear h30
    have e31 := h31 (hall 7 (by decide))
    subst e31
    clear h31
    have e32 := h32 (hall 8 (by decide))
    subst e32
    clear h32
    obtain ⟨c0, c1, pblkR4, hpt, _⟩ := hP4
    clear hQ4
    obtain ⟨es0, es1⟩ := hpt (hall 9 (by decide))
    subst es0
    subst es1
    clear hpt
    try clear pblk4
    have pblk4 := pblkR4
    clear pblkR4
    clear hall
    rw [ha0]; simp only [putL, Act.put, List.setIfInBounds_toArray, List.set_cons_zero, List.set_cons_succ]
    clear ha0
    have z5_0 : w.heap.size < w5.heap.size := by have := hXR.size; omega
    have z5_1 : w.heap.size + 1 < w5.heap.size := by have := hXR.size; omega
    have z5_2 : w.heap.size + 2 < w5.heap.size := by have := hXR.size; omega
    have c5_2_0 : w5.cell? ⟨w.heap.size + 2, 0, none⟩ = some (.int .i64 (nearZ z n)) := cell_of_row w5 _ 0 _ _ _ pblk4
    have c5_2_1 : w5.cell? ⟨w.heap.size + 2, 1, none⟩ = some (.int .i64 (nearZ y n)) := cell_of_row w5 _ 1 _ _ _ pblk4
    have f5_2 : ∀ o, w5.frozen? ⟨w.heap.size + 2, o, none⟩ = false := fun o => frozen_of_row w5 _ o _ _ pblk4
    have B5 : Below w.heap.size w w5 := hXR.below (by first | assumption | exact (by repeat (first | exact Below.refl _ _ | exact Nat.le_refl _ | refine Below.alloc ?_ ?_ _ | refine Below.setCell ?_ ?_ _ | refine Below.drew ?_ | refine bl_drewN ?_ _ | (assumption) | refine bl_call ?_ (by assumption) ?_ | omega | (simp <;> omega)))) (by first | omega | (simp <;> omega)) (by simp <;> omega)
    clear hXR
    clear z5_0 z5_1
    go_wp2
    exact bodyPost_ret (v := .agg #[.int .i64 (nearZ z n), .int .i64 (nearZ y n)]) (by simp [results, Tryd.results21, go_sem, *]) rfl ⟨rfl, (by repeat (first | exact Below.refl _ _ | exact Nat.le_refl _ | refine Below.alloc ?_ ?_ _ | refine Below.setCell ?_ ?_ _ | refine Below.drew ?_ | refine bl_drewN ?_ _ | (assumption) | refine bl_call ?_ (by assumption) ?_ | omega | (simp <;> omega)))⟩
end Go.Proofs.YtgocloilagcfoaaDoor
