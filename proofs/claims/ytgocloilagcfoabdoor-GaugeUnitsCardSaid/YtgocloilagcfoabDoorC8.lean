/- Divide returns the quotient and the rest, or the error. -/
import Derived.Test.YtgocloilagcfoabDoorC7
import Derived.Test.YtgocloilagcfoabDoorD1
namespace Go.Proofs.YtgocloilagcfoabDoor
open Go.RowKit
attribute [local go_sem ↓] Go.wp_at_zero Go.wp_at_succ

set_option maxRecDepth 100000 in
set_option maxHeartbeats 4000000 in
theorem Divide_yes (a b c d : Int) (w : World) (h1 : isN a b = true) (h2 : isN c d = true) (h3 : ¬ (c = 0 ∧ d = 0)) :
    Calls Tryd.prog 50 #[.agg #[.int .i64 a, .int .i64 b], .agg #[.int .i64 c, .int .i64 d]] w fun e w' => e = .returned (divV a b c d) ∧ Below w.heap.size w w' := by
  obtain ⟨x1, x2, x3, x4⟩ := (isN_iff a b).1 h1
  obtain ⟨y1, y2, y3, y4⟩ := (isN_iff c d).1 h2
  simp only [] at x1 x2 x3 x4 y1 y2 y3 y4
  have H1 := Lib.hid h1; clear h1
  have H2 := Lib.hid h2; clear h2
  have hne : ((c == 0) && (d == 0)) = false := by
    cases h : (c == 0) && (d == 0)
    · rfl
    · exfalso; apply h3; simpa using h
  have heq : ∀ wx : World, (binOp .eql 23 (.agg #[.int .i64 c, .int .i64 d]) (.agg #[.int .i64 0, .int .i64 0])).run Tryd.prog wx = .ok (.bool false) wx := by
    intro wx
    rw [← hne]
    by_cases hc : c = 0 <;> by_cases hd : d = 0 <;> simp [go_sem, hc, hd]
  clear hne
  obtain ⟨hn0, q1, q2, q3, q4⟩ := quo_bd x1 x2 x3 x4 y1 y2 y3 y4 h3
  obtain ⟨zb1, zb2, zb3, zb4, zb5, zb6⟩ := zA_bd x1 x2 x3 x4 y1 y2 y3 y4
  have n1 := fun wx => nearest_any (zA a b c d) (nm c d) wx (by omega) (by omega) (by omega) (by omega) hn0
  have n2 := fun wx => nearest_any (zB a b c d) (nm c d) wx (by omega) (by omega) (by omega) (by omega) hn0
  have eq1 : (quo a b c d).1 = nearZ (zA a b c d) (nm c d) := rfl
  have eq2 : (quo a b c d).2 = nearZ (zB a b c d) (nm c d) := rfl
  rw [← eq1] at n1
  rw [← eq2] at n2
  clear h3 hn0 eq1 eq2
  obtain ⟨Q1, hQ1⟩ : ∃ x, (quo a b c d).1 = x := ⟨_, rfl⟩
  obtain ⟨Q2, hQ2⟩ : ∃ x, (quo a b c d).2 = x := ⟨_, rfl⟩
  rw [hQ1] at n1 q1 q2
  rw [hQ2] at n2 q3 q4
  obtain ⟨pp1, pp2⟩ := mul_bd q1 q2 y1 y2
  obtain ⟨pp3, pp4⟩ := mul_bd q3 q4 y3 y4
  obtain ⟨pp5, pp6⟩ := mul_bd q1 q2 y3 y4
  obtain ⟨pp7, pp8⟩ := mul_bd q3 q4 y1 y2
  simp only [Int.reduceMul, Int.reduceNeg] at pp1 pp2 pp3 pp4 pp5 pp6 pp7 pp8
  have n3 := fun wx => product_wide Q1 Q2 c d wx q1 q2 q3 q4 y1 y2 y3 y4
  obtain ⟨Pa, hPa⟩ : ∃ x, Q1 * c + Q2 * d = x := ⟨_, rfl⟩
  obtain ⟨Pb, hPb⟩ : ∃ x, Q1 * d + Q2 * c + Q2 * d = x := ⟨_, rfl⟩
  have pa1 : -6000000000000000000 ≤ Pa ∧ Pa ≤ 6000000000000000000 := by omega
  have pb1 : -8000000000000000000 ≤ Pb ∧ Pb ≤ 8000000000000000000 := by omega
  obtain ⟨pa1, pa2⟩ := pa1
  obtain ⟨pb1, pb2⟩ := pb1
  rw [hPa, hPb] at n3
  have N1 := Lib.hid n1
  have N2 := Lib.hid n2
  have N3 := Lib.hid n3
  have HV := Lib.hid (divV_of hQ1 hQ2 hPa hPb)
  clear n1 n2 n3 hQ1 hQ2 hPa hPb pp1 pp2 pp3 pp4 pp5 pp6 pp7 pp8
  go_enter Tryd.func50, Tryd.ntmps50
  go_wp2_with fail
  refine (isNum _ _ _).mono ?_
  rintro e w1 ⟨rfl, hb1⟩
  have z1_0 : w.heap.size < w1.heap.size := by have := hb1.size; (try simp at this); omega
  have z1_1 : w.heap.size + 1 < w1.heap.size := by have := hb1.size; (try simp at this); omega
  have z1_2 : w.heap.size + 2 < w1.heap.size := by have := hb1.size; (try simp at this); omega
  have z1_3 : w.heap.size + 3 < w1.heap.size := by have := hb1.size; (try simp at this); omega
  have c1_0_0 : w1.cell? ⟨w.heap.size, 0, none⟩ = some (.int .i64 a) := keep_cell hb1 (by first | assumption | (go_simp; done) | (simp; done) | simp [*])
  have c1_0_1 : w1.cell? ⟨w.heap.size, 1, none⟩ = some (.int .i64 b) := keep_cell hb1 (by first | assumption | (go_simp; done) | (simp; done) | simp [*])
  have c1_1_0 : w1.cell? ⟨w.heap.size + 1, 0, none⟩ = some (.int .i64 c) := keep_cell hb1 (by first | assumption | (go_simp; done) | (simp; done) | simp [*])
  have c1_1_1 : w1.cell? ⟨w.heap.size + 1, 1, none⟩ = some (.int .i64 d) := keep_cell hb1 (by first | assumption | (go_simp; done) | (simp; done) | simp [*])
  have c1_2_0 : w1.cell? ⟨w.heap.size + 2, 0, none⟩ = some (.int .i64 0) := keep_cell hb1 (by first | assumption | (go_simp; done) | (simp; done) | simp [*])
  have c1_2_1 : w1.cell? ⟨w.heap.size + 2, 1, none⟩ = some (.int .i64 0) := keep_cell hb1 (by first | assumption | (go_simp; done) | (simp; done) | simp [*])
  have c1_3_0 : w1.cell? ⟨w.heap.size + 3, 0, none⟩ = some (.int .i64 0) := keep_cell hb1 (by first | assumption | (go_simp; done) | (simp; done) | simp [*])
  have c1_3_1 : w1.cell? ⟨w.heap.size + 3, 1, none⟩ = some (.int .i64 0) := keep_cell hb1 (by first | assumption | (go_simp; done) | (simp; done) | simp [*])
  have f1_2 : ∀ o, w1.frozen? ⟨w.heap.size + 2, o, none⟩ = false := fun o => (hb1.frozen (p := ⟨w.heap.size + 2, o, none⟩) (by first | assumption | (simp; done) | (simp; omega))).trans (by first | (simp; done) | (go_simp; done) | simp [*])
  have f1_3 : ∀ o, w1.frozen? ⟨w.heap.size + 3, o, none⟩ = false := fun o => (hb1.frozen (p := ⟨w.heap.size + 3, o, none⟩) (by first | assumption | (simp; done) | (simp; omega))).trans (by first | (simp; done) | (go_simp; done) | simp [*])
  have B1 : Below w.heap.size w w1 := bl_call (by repeat (first | exact Below.refl _ _ | exact Nat.le_refl _ | refine Below.alloc ?_ ?_ _ | refine Below.setCell ?_ ?_ _ | refine Below.drew ?_ | refine bl_drewN ?_ _ | (assumption) | refine bl_call ?_ (by assumption) ?_ | omega | (simp <;> omega))) hb1 (by first | assumption | (simp; done) | (simp; omega) | omega)
  clear hb1
  have hsz_1 := B1.size
  rw [H1.out]
  go_wp2_with fail
  refine (isNum _ _ _).mono ?_
  rintro e w2 ⟨rfl, hb2⟩
  have z2_0 : w.heap.size < w2.heap.size := by have := hb2.size; (try simp at this); omega
  have z2_1 : w.heap.size + 1 < w2.heap.size := by have := hb2.size; (try simp at this); omega
  have z2_2 : w.heap.size + 2 < w2.heap.size := by have := hb2.size; (try simp at this); omega
  have z2_3 : w.heap.size + 3 < w2.heap.size := by have := hb2.size; (try simp at this); omega
  have c2_0_0 : w2.cell? ⟨w.heap.size, 0, none⟩ = some (.int .i64 a) := keep_cell hb2 (by first | assumption | (go_simp; done) | (simp; done) | simp [*])
  have c2_0_1 : w2.cell? ⟨w.heap.size, 1, none⟩ = some (.int .i64 b) := keep_cell hb2 (by first | assumption | (go_simp; done) | (simp; done) | simp [*])
  have c2_1_0 : w2.cell? ⟨w.heap.size + 1, 0, none⟩ = some (.int .i64 c) := keep_cell hb2 (by first | assumption | (go_simp; done) | (simp; done) | simp [*])
  have c2_1_1 : w2.cell? ⟨w.heap.size + 1, 1, none⟩ = some (.int .i64 d) := keep_cell hb2 (by first | assumption | (go_simp; done) | (simp; done) | simp [*])
  have c2_2_0 : w2.cell? ⟨w.heap.size + 2, 0, none⟩ = some (.int .i64 0) := keep_cell hb2 (by first | assumption | (go_simp; done) | (simp; done) | simp [*])
  have c2_2_1 : w2.cell? ⟨w.heap.size + 2, 1, none⟩ = some (.int .i64 0) := keep_cell hb2 (by first | assumption | (go_simp; done) | (simp; done) | simp [*])
  have c2_3_0 : w2.cell? ⟨w.heap.size + 3, 0, none⟩ = some (.int .i64 0) := keep_cell hb2 (by first | assumption | (go_simp; done) | (simp; done) | simp [*])
  have c2_3_1 : w2.cell? ⟨w.heap.size + 3, 1, none⟩ = some (.int .i64 0) := keep_cell hb2 (by first | assumption | (go_simp; done) | (simp; done) | simp [*])
  have f2_2 : ∀ o, w2.frozen? ⟨w.heap.size + 2, o, none⟩ = false := fun o => (hb2.frozen (p := ⟨w.heap.size + 2, o, none⟩) (by first | assumption | (simp; done) | (simp; omega))).trans (by first | (simp; done) | (go_simp; done) | simp [*])
  have f2_3 : ∀ o, w2.frozen? ⟨w.heap.size + 3, o, none⟩ = false := fun o => (hb2.frozen (p := ⟨w.heap.size + 3, o, none⟩) (by first | assumption | (simp; done) | (simp; omega))).trans (by first | (simp; done) | (go_simp; done) | simp [*])
  have B2 : Below w.heap.size w w2 := bl_call (by repeat (first | exact Below.refl _ _ | exact Nat.le_refl _ | refine Below.alloc ?_ ?_ _ | refine Below.setCell ?_ ?_ _ | refine Below.drew ?_ | refine bl_drewN ?_ _ | (assumption) | refine bl_call ?_ (by assumption) ?_ | omega | (simp <;> omega))) hb2 (by first | assumption | (simp; done) | (simp; omega) | omega)
  clear hb2
  have hsz_2 := B2.size
  rw [H2.out]
  clear z1_0 z1_1 z1_2 z1_3 c1_0_0 c1_0_1 c1_1_0 c1_1_1 c1_2_0 c1_2_1 c1_3_0 c1_3_1 f1_2 f1_3 B1
  go_upto_region 3 with fail
  clear heq
  refine with_act fun a0 ha0 => ?_
  refine wp_region_inv (by kernel_rfl) (by kernel_rfl) (fun s a' w' => ∃ v26 v27 v28 v29 v30 v31 v7 v8 : Value, a' = putL a0 [(26, v26), (27, v27), (28, v28), (29, v29), (30, v30), (31, v31), (7, v7), (8, v8)] ∧ Hid ((s 0 = true → v26 = .agg #[.int .i64 a, .int .i64 b]) ∧ (s 1 = true → v27 = .agg #[.int .i64 c, .int .i64 d]) ∧ (s 2 = true → v28 = .agg #[.int .i64 (c + d), .int .i64 (-d)]) ∧ (s 3 = true → v29 = .agg #[.int .i64 (a * (c + d) + b * -d), .int .i64 (a * -d + b * (c + d) + b * -d)]) ∧ (s 4 = true → v30 = .agg #[.int .i64 c, .int .i64 d]) ∧ (s 5 = true → v31 = .int .i64 (c * c + c * d - d * d)) ∧ (s 8 = true → v8 = .int .i64 (c * c + c * d - d * d)) ∧ True) ∧ Below w2.heap.size w2 w' ∧ (s 6 = true → ∃ (g : Nat) (c0 c1 : Value), v7 = .pointer (some ⟨g, 0, none⟩) ∧ w2.heap.size ≤ g ∧ w'.heap[g]? = some (.cells #[c0, c1] 23 (0, 0)) ∧ (s 7 = true → c0 = .int .i64 (a * (c + d) + b * -d) ∧ c1 = .int .i64 (a * -d + b * (c + d) + b * -d))) ∧ (s 7 = true → s 6 = true) ∧ True) ?r1hzero ⟨?r1hs0, ?r1hs1, ?r1hs2, ?r1hs3, ?r1hs4, ?r1hs5, ?r1hs6, ?r1hs7, ?r1hs8, trivial⟩ ?r1hdone
  case r1hzero =>
    refine ⟨a0.tmps.getD 26 undef, a0.tmps.getD 27 undef, a0.tmps.getD 28 undef, a0.tmps.getD 29 undef, a0.tmps.getD 30 undef, a0.tmps.getD 31 undef, a0.tmps.getD 7 undef, a0.tmps.getD 8 undef, ?_, ?_, ?_, ?_, ?_, trivial⟩
    · simp only [putL, put_self]
    · exact Lib.hid ⟨fun h => (by simp at h), fun h => (by simp at h), fun h => (by simp at h), fun h => (by simp at h), fun h => (by simp at h), fun h => (by simp at h), fun h => (by simp at h), trivial⟩
    · exact (Below.refl _ _).drew
    · exact fun h => (by simp at h)
    · exact fun h => (by simp at h)
  case r1hs0 =>
    intro s a' w' hsk hdep hI K hK
    try dsimp only at hI hK
    obtain ⟨v26, v27, v28, v29, v30, v31, v7, v8, hact, hR, hB, hA7, hN7, _⟩ := hI
    subst hact
    have HK := Lib.hid hK
    clear hK
    have kc0 : w'.cell? ⟨w.heap.size, 0, none⟩ = some (.int .i64 a) := (hB.cell (p := ⟨w.heap.size, 0, none⟩) (by first | (simp; done) | omega | (simp; omega))).trans (by first | assumption | (simp; done) | (go_simp; done))
    have kc1 : w'.cell? ⟨w.heap.size, 1, none⟩ = some (.int .i64 b) := (hB.cell (p := ⟨w.heap.size, 1, none⟩) (by first | (simp; done) | omega | (simp; omega))).trans (by first | assumption | (simp; done) | (go_simp; done))
    have kc2 : w'.cell? ⟨w.heap.size + 1, 0, none⟩ = some (.int .i64 c) := (hB.cell (p := ⟨w.heap.size + 1, 0, none⟩) (by first | (simp; done) | omega | (simp; omega))).trans (by first | assumption | (simp; done) | (go_simp; done))
    have kc3 : w'.cell? ⟨w.heap.size + 1, 1, none⟩ = some (.int .i64 d) := (hB.cell (p := ⟨w.heap.size + 1, 1, none⟩) (by first | (simp; done) | omega | (simp; omega))).trans (by first | assumption | (simp; done) | (go_simp; done))
    clear hdep
    refine StepG.mk rfl ?_; rw [ha0]; simp only [putL, Act.put, List.setIfInBounds_toArray, List.set_cons_zero, List.set_cons_succ]
    go_wp2_with fail
    refine HK.out _ _ ?_
    refine ⟨(.agg #[.int .i64 a, .int .i64 b]), v27, v28, v29, v30, v31, v7, v8, (by rw [ha0]; simp only [putL, Act.put, List.setIfInBounds_toArray, List.set_cons_zero, List.set_cons_succ]), ?_, ?_, ?_, ?_, trivial⟩
    · obtain ⟨h26, h27, h28, h29, h30, h31, h8, _⟩ := hR.out
      exact Lib.hid ⟨fun _ => rfl, fun h => h27 (by simpa using h), fun h => h28 (by simpa using h), fun h => h29 (by simpa using h), fun h => h30 (by simpa using h), fun h => h31 (by simpa using h), fun h => h8 (by simpa using h), trivial⟩
    · exact hB
    · intro h; obtain ⟨g, c0, c1, e, hg, hblk, hst⟩ := hA7 (by simpa using h); exact ⟨g, c0, c1, e, hg, hblk, fun h => hst (by simpa using h)⟩
    · exact fun h => (by have h1 := hN7 (by simpa using h); simp [h1])
  case r1hs1 =>
    intro s a' w' hsk hdep hI K hK
    try dsimp only at hI hK
    obtain ⟨v26, v27, v28, v29, v30, v31, v7, v8, hact, hR, hB, hA7, hN7, _⟩ := hI
    subst hact
    have HK := Lib.hid hK
    clear hK
    have kc0 : w'.cell? ⟨w.heap.size, 0, none⟩ = some (.int .i64 a) := (hB.cell (p := ⟨w.heap.size, 0, none⟩) (by first | (simp; done) | omega | (simp; omega))).trans (by first | assumption | (simp; done) | (go_simp; done))
    have kc1 : w'.cell? ⟨w.heap.size, 1, none⟩ = some (.int .i64 b) := (hB.cell (p := ⟨w.heap.size, 1, none⟩) (by first | (simp; done) | omega | (simp; omega))).trans (by first | assumption | (simp; done) | (go_simp; done))
    have kc2 : w'.cell? ⟨w.heap.size + 1, 0, none⟩ = some (.int .i64 c) := (hB.cell (p := ⟨w.heap.size + 1, 0, none⟩) (by first | (simp; done) | omega | (simp; omega))).trans (by first | assumption | (simp; done) | (go_simp; done))
    have kc3 : w'.cell? ⟨w.heap.size + 1, 1, none⟩ = some (.int .i64 d) := (hB.cell (p := ⟨w.heap.size + 1, 1, none⟩) (by first | (simp; done) | omega | (simp; omega))).trans (by first | assumption | (simp; done) | (go_simp; done))
    clear hdep
    refine StepG.mk rfl ?_; rw [ha0]; simp only [putL, Act.put, List.setIfInBounds_toArray, List.set_cons_zero, List.set_cons_succ]
    go_wp2_with fail
    refine HK.out _ _ ?_
    refine ⟨v26, (.agg #[.int .i64 c, .int .i64 d]), v28, v29, v30, v31, v7, v8, (by rw [ha0]; simp only [putL, Act.put, List.setIfInBounds_toArray, List.set_cons_zero, List.set_cons_succ]), ?_, ?_, ?_, ?_, trivial⟩
    · obtain ⟨h26, h27, h28, h29, h30, h31, h8, _⟩ := hR.out
      exact Lib.hid ⟨fun h => h26 (by simpa using h), fun _ => rfl, fun h => h28 (by simpa using h), fun h => h29 (by simpa using h), fun h => h30 (by simpa using h), fun h => h31 (by simpa using h), fun h => h8 (by simpa using h), trivial⟩
    · exact hB
    · intro h; obtain ⟨g, c0, c1, e, hg, hblk, hst⟩ := hA7 (by simpa using h); exact ⟨g, c0, c1, e, hg, hblk, fun h => hst (by simpa using h)⟩
    · exact fun h => (by have h1 := hN7 (by simpa using h); simp [h1])
  case r1hs2 =>
    intro s a' w' hsk hdep hI K hK
    try dsimp only at hI hK
    obtain ⟨v26, v27, v28, v29, v30, v31, v7, v8, hact, hR, hB, hA7, hN7, _⟩ := hI
    subst hact
    have HK := Lib.hid hK
    clear hK
    have e27 : v27 = .agg #[.int .i64 c, .int .i64 d] := by obtain ⟨h26, h27, h28, h29, h30, h31, h8, _⟩ := hR.out; exact h27 (hdep ⟨1, .data⟩ (by simp) rfl)
    subst e27
    have kc0 : w'.cell? ⟨w.heap.size, 0, none⟩ = some (.int .i64 a) := (hB.cell (p := ⟨w.heap.size, 0, none⟩) (by first | (simp; done) | omega | (simp; omega))).trans (by first | assumption | (simp; done) | (go_simp; done))
    have kc1 : w'.cell? ⟨w.heap.size, 1, none⟩ = some (.int .i64 b) := (hB.cell (p := ⟨w.heap.size, 1, none⟩) (by first | (simp; done) | omega | (simp; omega))).trans (by first | assumption | (simp; done) | (go_simp; done))
    have kc2 : w'.cell? ⟨w.heap.size + 1, 0, none⟩ = some (.int .i64 c) := (hB.cell (p := ⟨w.heap.size + 1, 0, none⟩) (by first | (simp; done) | omega | (simp; omega))).trans (by first | assumption | (simp; done) | (go_simp; done))
    have kc3 : w'.cell? ⟨w.heap.size + 1, 1, none⟩ = some (.int .i64 d) := (hB.cell (p := ⟨w.heap.size + 1, 1, none⟩) (by first | (simp; done) | omega | (simp; omega))).trans (by first | assumption | (simp; done) | (go_simp; done))
    clear hdep
    refine StepG.mk rfl ?_; rw [ha0]; simp only [putL, Act.put, List.setIfInBounds_toArray, List.set_cons_zero, List.set_cons_succ]
    go_wp2_with fail
    refine (mate_any _ _ _ (by omega) (by omega) (by omega) (by omega)).mono ?_
    rintro e wn ⟨rfl, hb⟩
    go_wp2_with fail
    refine HK.out _ _ ?_
    refine ⟨v26, (.agg #[.int .i64 c, .int .i64 d]), (.agg #[.int .i64 (c + d), .int .i64 (-d)]), v29, v30, v31, v7, v8, (by rw [ha0]; simp only [putL, Act.put, List.setIfInBounds_toArray, List.set_cons_zero, List.set_cons_succ]), ?_, ?_, ?_, ?_, trivial⟩
    · obtain ⟨h26, h27, h28, h29, h30, h31, h8, _⟩ := hR.out
      exact Lib.hid ⟨fun h => h26 (by simpa using h), fun _ => rfl, fun _ => rfl, fun h => h29 (by simpa using h), fun h => h30 (by simpa using h), fun h => h31 (by simpa using h), fun h => h8 (by simpa using h), trivial⟩
    · exact bl_call hB hb hB.size
    · intro h; obtain ⟨g, c0, c1, e, hg, hblk, hst⟩ := hA7 (by simpa using h); exact ⟨g, c0, c1, e, hg, (hb.block g (blk_lt hblk)).trans hblk, fun h => hst (by simpa using h)⟩
    · exact fun h => (by have h1 := hN7 (by simpa using h); simp [h1])
  case r1hs3 =>
    intro s a' w' hsk hdep hI K hK
    try dsimp only at hI hK
    obtain ⟨v26, v27, v28, v29, v30, v31, v7, v8, hact, hR, hB, hA7, hN7, _⟩ := hI
    subst hact
    have HK := Lib.hid hK
    clear hK
    have e26 : v26 = .agg #[.int .i64 a, .int .i64 b] := by obtain ⟨h26, h27, h28, h29, h30, h31, h8, _⟩ := hR.out; exact h26 (hdep ⟨0, .data⟩ (by simp) rfl)
    subst e26
    have e28 : v28 = .agg #[.int .i64 (c + d), .int .i64 (-d)] := by obtain ⟨h26, h27, h28, h29, h30, h31, h8, _⟩ := hR.out; exact h28 (hdep ⟨2, .data⟩ (by simp) rfl)
    subst e28
    have kc0 : w'.cell? ⟨w.heap.size, 0, none⟩ = some (.int .i64 a) := (hB.cell (p := ⟨w.heap.size, 0, none⟩) (by first | (simp; done) | omega | (simp; omega))).trans (by first | assumption | (simp; done) | (go_simp; done))
    have kc1 : w'.cell? ⟨w.heap.size, 1, none⟩ = some (.int .i64 b) := (hB.cell (p := ⟨w.heap.size, 1, none⟩) (by first | (simp; done) | omega | (simp; omega))).trans (by first | assumption | (simp; done) | (go_simp; done))
    have kc2 : w'.cell? ⟨w.heap.size + 1, 0, none⟩ = some (.int .i64 c) := (hB.cell (p := ⟨w.heap.size + 1, 0, none⟩) (by first | (simp; done) | omega | (simp; omega))).trans (by first | assumption | (simp; done) | (go_simp; done))
    have kc3 : w'.cell? ⟨w.heap.size + 1, 1, none⟩ = some (.int .i64 d) := (hB.cell (p := ⟨w.heap.size + 1, 1, none⟩) (by first | (simp; done) | omega | (simp; omega))).trans (by first | assumption | (simp; done) | (go_simp; done))
    clear hdep
    refine StepG.mk rfl ?_; rw [ha0]; simp only [putL, Act.put, List.setIfInBounds_toArray, List.set_cons_zero, List.set_cons_succ]
    go_wp2_with fail
    refine (product_any _ _ _ _ _ (by omega) (by omega) (by omega) (by omega) (by omega) (by omega) (by omega) (by omega)).mono ?_
    rintro e wn ⟨rfl, hb⟩
    go_wp2_with fail
    refine HK.out _ _ ?_
    refine ⟨(.agg #[.int .i64 a, .int .i64 b]), v27, (.agg #[.int .i64 (c + d), .int .i64 (-d)]), (.agg #[.int .i64 (a * (c + d) + b * -d), .int .i64 (a * -d + b * (c + d) + b * -d)]), v30, v31, v7, v8, (by rw [ha0]; simp only [putL, Act.put, List.setIfInBounds_toArray, List.set_cons_zero, List.set_cons_succ]), ?_, ?_, ?_, ?_, trivial⟩
    · obtain ⟨h26, h27, h28, h29, h30, h31, h8, _⟩ := hR.out
      exact Lib.hid ⟨fun _ => rfl, fun h => h27 (by simpa using h), fun _ => rfl, fun _ => rfl, fun h => h30 (by simpa using h), fun h => h31 (by simpa using h), fun h => h8 (by simpa using h), trivial⟩
    · exact bl_call hB hb hB.size
    · intro h; obtain ⟨g, c0, c1, e, hg, hblk, hst⟩ := hA7 (by simpa using h); exact ⟨g, c0, c1, e, hg, (hb.block g (blk_lt hblk)).trans hblk, fun h => hst (by simpa using h)⟩
    · exact fun h => (by have h1 := hN7 (by simpa using h); simp [h1])
  case r1hs4 =>
    intro s a' w' hsk hdep hI K hK
    try dsimp only at hI hK
    obtain ⟨v26, v27, v28, v29, v30, v31, v7, v8, hact, hR, hB, hA7, hN7, _⟩ := hI
    subst hact
    have HK := Lib.hid hK
    clear hK
    have kc0 : w'.cell? ⟨w.heap.size, 0, none⟩ = some (.int .i64 a) := (hB.cell (p := ⟨w.heap.size, 0, none⟩) (by first | (simp; done) | omega | (simp; omega))).trans (by first | assumption | (simp; done) | (go_simp; done))
    have kc1 : w'.cell? ⟨w.heap.size, 1, none⟩ = some (.int .i64 b) := (hB.cell (p := ⟨w.heap.size, 1, none⟩) (by first | (simp; done) | omega | (simp; omega))).trans (by first | assumption | (simp; done) | (go_simp; done))
    have kc2 : w'.cell? ⟨w.heap.size + 1, 0, none⟩ = some (.int .i64 c) := (hB.cell (p := ⟨w.heap.size + 1, 0, none⟩) (by first | (simp; done) | omega | (simp; omega))).trans (by first | assumption | (simp; done) | (go_simp; done))
    have kc3 : w'.cell? ⟨w.heap.size + 1, 1, none⟩ = some (.int .i64 d) := (hB.cell (p := ⟨w.heap.size + 1, 1, none⟩) (by first | (simp; done) | omega | (simp; omega))).trans (by first | assumption | (simp; done) | (go_simp; done))
    clear hdep
    refine StepG.mk rfl ?_; rw [ha0]; simp only [putL, Act.put, List.setIfInBounds_toArray, List.set_cons_zero, List.set_cons_succ]
    go_wp2_with fail
    refine HK.out _ _ ?_
    refine ⟨v26, v27, v28, v29, (.agg #[.int .i64 c, .int .i64 d]), v31, v7, v8, (by rw [ha0]; simp only [putL, Act.put, List.setIfInBounds_toArray, List.set_cons_zero, List.set_cons_succ]), ?_, ?_, ?_, ?_, trivial⟩
    · obtain ⟨h26, h27, h28, h29, h30, h31, h8, _⟩ := hR.out
      exact Lib.hid ⟨fun h => h26 (by simpa using h), fun h => h27 (by simpa using h), fun h => h28 (by simpa using h), fun h => h29 (by simpa using h), fun _ => rfl, fun h => h31 (by simpa using h), fun h => h8 (by simpa using h), trivial⟩
    · exact hB
    · intro h; obtain ⟨g, c0, c1, e, hg, hblk, hst⟩ := hA7 (by simpa using h); exact ⟨g, c0, c1, e, hg, hblk, fun h => hst (by simpa using h)⟩
    · exact fun h => (by have h1 := hN7 (by simpa using h); simp [h1])
  case r1hs5 =>
    intro s a' w' hsk hdep hI K hK
    try dsimp only at hI hK
    obtain ⟨v26, v27, v28, v29, v30, v31, v7, v8, hact, hR, hB, hA7, hN7, _⟩ := hI
    subst hact
    have HK := Lib.hid hK
    clear hK
    have e30 : v30 = .agg #[.int .i64 c, .int .i64 d] := by obtain ⟨h26, h27, h28, h29, h30, h31, h8, _⟩ := hR.out; exact h30 (hdep ⟨4, .data⟩ (by simp) rfl)
    subst e30
    have kc0 : w'.cell? ⟨w.heap.size, 0, none⟩ = some (.int .i64 a) := (hB.cell (p := ⟨w.heap.size, 0, none⟩) (by first | (simp; done) | omega | (simp; omega))).trans (by first | assumption | (simp; done) | (go_simp; done))
    have kc1 : w'.cell? ⟨w.heap.size, 1, none⟩ = some (.int .i64 b) := (hB.cell (p := ⟨w.heap.size, 1, none⟩) (by first | (simp; done) | omega | (simp; omega))).trans (by first | assumption | (simp; done) | (go_simp; done))
    have kc2 : w'.cell? ⟨w.heap.size + 1, 0, none⟩ = some (.int .i64 c) := (hB.cell (p := ⟨w.heap.size + 1, 0, none⟩) (by first | (simp; done) | omega | (simp; omega))).trans (by first | assumption | (simp; done) | (go_simp; done))
    have kc3 : w'.cell? ⟨w.heap.size + 1, 1, none⟩ = some (.int .i64 d) := (hB.cell (p := ⟨w.heap.size + 1, 1, none⟩) (by first | (simp; done) | omega | (simp; omega))).trans (by first | assumption | (simp; done) | (go_simp; done))
    clear hdep
    refine StepG.mk rfl ?_; rw [ha0]; simp only [putL, Act.put, List.setIfInBounds_toArray, List.set_cons_zero, List.set_cons_succ]
    go_wp2_with fail
    refine (norm_any _ _ _ (by omega) (by omega) (by omega) (by omega)).mono ?_
    rintro e wn ⟨rfl, hb⟩
    go_wp2_with fail
    refine HK.out _ _ ?_
    refine ⟨v26, v27, v28, v29, (.agg #[.int .i64 c, .int .i64 d]), (.int .i64 (c * c + c * d - d * d)), v7, v8, (by rw [ha0]; simp only [putL, Act.put, List.setIfInBounds_toArray, List.set_cons_zero, List.set_cons_succ]), ?_, ?_, ?_, ?_, trivial⟩
    · obtain ⟨h26, h27, h28, h29, h30, h31, h8, _⟩ := hR.out
      exact Lib.hid ⟨fun h => h26 (by simpa using h), fun h => h27 (by simpa using h), fun h => h28 (by simpa using h), fun h => h29 (by simpa using h), fun _ => rfl, fun _ => rfl, fun h => h8 (by simpa using h), trivial⟩
    · exact bl_call hB hb hB.size
    · intro h; obtain ⟨g, c0, c1, e, hg, hblk, hst⟩ := hA7 (by simpa using h); exact ⟨g, c0, c1, e, hg, (hb.block g (blk_lt hblk)).trans hblk, fun h => hst (by simpa using h)⟩
    · exact fun h => (by have h1 := hN7 (by simpa using h); simp [h1])
  case r1hs6 =>
    intro s a' w' hsk hdep hI K hK
    try dsimp only at hI hK
    obtain ⟨v26, v27, v28, v29, v30, v31, v7, v8, hact, hR, hB, hA7, hN7, _⟩ := hI
    subst hact
    have HK := Lib.hid hK
    clear hK
    have kc0 : w'.cell? ⟨w.heap.size, 0, none⟩ = some (.int .i64 a) := (hB.cell (p := ⟨w.heap.size, 0, none⟩) (by first | (simp; done) | omega | (simp; omega))).trans (by first | assumption | (simp; done) | (go_simp; done))
    have kc1 : w'.cell? ⟨w.heap.size, 1, none⟩ = some (.int .i64 b) := (hB.cell (p := ⟨w.heap.size, 1, none⟩) (by first | (simp; done) | omega | (simp; omega))).trans (by first | assumption | (simp; done) | (go_simp; done))
    have kc2 : w'.cell? ⟨w.heap.size + 1, 0, none⟩ = some (.int .i64 c) := (hB.cell (p := ⟨w.heap.size + 1, 0, none⟩) (by first | (simp; done) | omega | (simp; omega))).trans (by first | assumption | (simp; done) | (go_simp; done))
    have kc3 : w'.cell? ⟨w.heap.size + 1, 1, none⟩ = some (.int .i64 d) := (hB.cell (p := ⟨w.heap.size + 1, 1, none⟩) (by first | (simp; done) | omega | (simp; omega))).trans (by first | assumption | (simp; done) | (go_simp; done))
    clear hdep
    refine StepG.mk rfl ?_; rw [ha0]; simp only [putL, Act.put, List.setIfInBounds_toArray, List.set_cons_zero, List.set_cons_succ]
    go_wp2_with fail
    refine HK.out _ _ ?_
    refine ⟨v26, v27, v28, v29, v30, v31, (.pointer (some ⟨w'.heap.size, 0, none⟩)), v8, (by rw [ha0]; simp only [putL, Act.put, List.setIfInBounds_toArray, List.set_cons_zero, List.set_cons_succ]), ?_, ?_, ?_, ?_, trivial⟩
    · obtain ⟨h26, h27, h28, h29, h30, h31, h8, _⟩ := hR.out
      exact Lib.hid ⟨fun h => h26 (by simpa using h), fun h => h27 (by simpa using h), fun h => h28 (by simpa using h), fun h => h29 (by simpa using h), fun h => h30 (by simpa using h), fun h => h31 (by simpa using h), fun h => h8 (by simpa using h), trivial⟩
    · exact hB.alloc hB.size _
    · exact fun _ => ⟨w'.heap.size, .int .i64 0, .int .i64 0, rfl, hB.size, blk_new w' _, fun h => (by have h1 := hN7 (by simpa using h); rw [h1] at hsk; cases hsk)⟩
    · exact fun _ => rfl
  case r1hs7 =>
    intro s a' w' hsk hdep hI K hK
    try dsimp only at hI hK
    obtain ⟨v26, v27, v28, v29, v30, v31, v7, v8, hact, hR, hB, hA7, hN7, _⟩ := hI
    subst hact
    have HK := Lib.hid hK
    clear hK
    have e29 : v29 = .agg #[.int .i64 (a * (c + d) + b * -d), .int .i64 (a * -d + b * (c + d) + b * -d)] := by obtain ⟨h26, h27, h28, h29, h30, h31, h8, _⟩ := hR.out; exact h29 (hdep ⟨3, .data⟩ (by simp) rfl)
    subst e29
    obtain ⟨g, c0, c1, ev, hg, hblk, hst⟩ := hA7 (hdep ⟨6, .data⟩ (by simp) rfl)
    subst ev
    have kc0 : w'.cell? ⟨w.heap.size, 0, none⟩ = some (.int .i64 a) := (hB.cell (p := ⟨w.heap.size, 0, none⟩) (by first | (simp; done) | omega | (simp; omega))).trans (by first | assumption | (simp; done) | (go_simp; done))
    have kc1 : w'.cell? ⟨w.heap.size, 1, none⟩ = some (.int .i64 b) := (hB.cell (p := ⟨w.heap.size, 1, none⟩) (by first | (simp; done) | omega | (simp; omega))).trans (by first | assumption | (simp; done) | (go_simp; done))
    have kc2 : w'.cell? ⟨w.heap.size + 1, 0, none⟩ = some (.int .i64 c) := (hB.cell (p := ⟨w.heap.size + 1, 0, none⟩) (by first | (simp; done) | omega | (simp; omega))).trans (by first | assumption | (simp; done) | (go_simp; done))
    have kc3 : w'.cell? ⟨w.heap.size + 1, 1, none⟩ = some (.int .i64 d) := (hB.cell (p := ⟨w.heap.size + 1, 1, none⟩) (by first | (simp; done) | omega | (simp; omega))).trans (by first | assumption | (simp; done) | (go_simp; done))
    have kb0 : w'.cell? ⟨g, 0, none⟩ = some c0 := cell_of_row w' g 0 _ _ _ hblk
    have kb1 : w'.cell? ⟨g, 1, none⟩ = some c1 := cell_of_row w' g 1 _ _ _ hblk
    have kf : ∀ o, w'.frozen? ⟨g, o, none⟩ = false := fun o => frozen_of_row w' g o _ _ hblk
    have hBlk := Lib.hid hblk
    clear hblk
    have hdepA : s 6 = true := hdep ⟨6, .data⟩ (by simp) rfl
    clear hdep
    refine StepG.mk rfl ?_; rw [ha0]; simp only [putL, Act.put, List.setIfInBounds_toArray, List.set_cons_zero, List.set_cons_succ]
    go_wp2_with fail
    refine HK.out _ _ ?_
    refine ⟨v26, v27, v28, (.agg #[.int .i64 (a * (c + d) + b * -d), .int .i64 (a * -d + b * (c + d) + b * -d)]), v30, v31, (.pointer (some ⟨g, 0, none⟩)), v8, (by rw [ha0]; simp only [putL, Act.put, List.setIfInBounds_toArray, List.set_cons_zero, List.set_cons_succ]), ?_, ?_, ?_, ?_, trivial⟩
    · obtain ⟨h26, h27, h28, h29, h30, h31, h8, _⟩ := hR.out
      exact Lib.hid ⟨fun h => h26 (by simpa using h), fun h => h27 (by simpa using h), fun h => h28 (by simpa using h), fun _ => rfl, fun h => h30 (by simpa using h), fun h => h31 (by simpa using h), fun h => h8 (by simpa using h), trivial⟩
    · exact ((hB.setCell (p := ⟨g, 0, none⟩) hg _).setCell (p := ⟨g, 1, none⟩) hg _)
    · exact fun _ => ⟨g, _, _, rfl, hg, blk_set2 hBlk.out, fun _ => ⟨rfl, rfl⟩⟩
    · exact fun _ => (by simp [hdepA])
  case r1hs8 =>
    intro s a' w' hsk hdep hI K hK
    try dsimp only at hI hK
    obtain ⟨v26, v27, v28, v29, v30, v31, v7, v8, hact, hR, hB, hA7, hN7, _⟩ := hI
    subst hact
    have HK := Lib.hid hK
    clear hK
    have e31 : v31 = .int .i64 (c * c + c * d - d * d) := by obtain ⟨h26, h27, h28, h29, h30, h31, h8, _⟩ := hR.out; exact h31 (hdep ⟨5, .data⟩ (by simp) rfl)
    subst e31
    have kc0 : w'.cell? ⟨w.heap.size, 0, none⟩ = some (.int .i64 a) := (hB.cell (p := ⟨w.heap.size, 0, none⟩) (by first | (simp; done) | omega | (simp; omega))).trans (by first | assumption | (simp; done) | (go_simp; done))
    have kc1 : w'.cell? ⟨w.heap.size, 1, none⟩ = some (.int .i64 b) := (hB.cell (p := ⟨w.heap.size, 1, none⟩) (by first | (simp; done) | omega | (simp; omega))).trans (by first | assumption | (simp; done) | (go_simp; done))
    have kc2 : w'.cell? ⟨w.heap.size + 1, 0, none⟩ = some (.int .i64 c) := (hB.cell (p := ⟨w.heap.size + 1, 0, none⟩) (by first | (simp; done) | omega | (simp; omega))).trans (by first | assumption | (simp; done) | (go_simp; done))
    have kc3 : w'.cell? ⟨w.heap.size + 1, 1, none⟩ = some (.int .i64 d) := (hB.cell (p := ⟨w.heap.size + 1, 1, none⟩) (by first | (simp; done) | omega | (simp; omega))).trans (by first | assumption | (simp; done) | (go_simp; done))
    clear hdep
    refine StepG.mk rfl ?_; rw [ha0]; simp only [putL, Act.put, List.setIfInBounds_toArray, List.set_cons_zero, List.set_cons_succ]
    go_wp2_with fail
    refine HK.out _ _ ?_
    refine ⟨v26, v27, v28, v29, v30, (.int .i64 (c * c + c * d - d * d)), v7, (.int .i64 (c * c + c * d - d * d)), (by rw [ha0]; simp only [putL, Act.put, List.setIfInBounds_toArray, List.set_cons_zero, List.set_cons_succ]), ?_, ?_, ?_, ?_, trivial⟩
    · obtain ⟨h26, h27, h28, h29, h30, h31, h8, _⟩ := hR.out
      exact Lib.hid ⟨fun h => h26 (by simpa using h), fun h => h27 (by simpa using h), fun h => h28 (by simpa using h), fun h => h29 (by simpa using h), fun h => h30 (by simpa using h), fun _ => rfl, fun _ => rfl, trivial⟩
    · exact hB
    · intro h; obtain ⟨g, c0, c1, e, hg, hblk, hst⟩ := hA7 (by simpa using h); exact ⟨g, c0, c1, e, hg, hblk, fun h => hst (by simpa using h)⟩
    · exact fun h => (by have h1 := hN7 (by simpa using h); simp [h1])
  intro s a' w3 hall hI
  try dsimp only at hI
  obtain ⟨v26, v27, v28, v29, v30, v31, v7, v8, hact, hR, hBR, hA7, hN7, _⟩ := hI
  subst hact
  obtain ⟨h26, h27, h28, h29, h30, h31, h8, _⟩ := hR.out
  clear hR
  have e26 := h26 (hall 0 (by decide))
  subst e26
  clear h26
  have e27 := h27 (hall 1 (by decide))
  subst e27
  clear h27
  have e28 := h28 (hall 2 (by decide))
  subst e28
  clear h28
  have e29 := h29 (hall 3 (by decide))
  subst e29
  clear h29
  have e30 := h30 (hall 4 (by decide))
  subst e30
  clear h30
  have e31 := h31 (hall 5 (by decide))
  subst e31
  clear h31
  have e8 := h8 (hall 8 (by decide))
  subst e8
  clear h8
  obtain ⟨g7, c0, c1, ev, hg7, hblk7, hst⟩ := hA7 (hall 6 (by decide))
  subst ev
  clear hA7
  obtain ⟨es0, es1⟩ := hst (hall 7 (by decide))
  subst es0
  subst es1
  clear hall
  rw [ha0]; simp only [putL, Act.put, List.setIfInBounds_toArray, List.set_cons_zero, List.set_cons_succ]
  clear ha0
  have hb3 := hBR
  have hb3' := hBR
  clear hBR
  have z3_0 : w.heap.size < w3.heap.size := by have := hb3.size; (try simp at this); omega
  have z3_1 : w.heap.size + 1 < w3.heap.size := by have := hb3.size; (try simp at this); omega
  have z3_2 : w.heap.size + 2 < w3.heap.size := by have := hb3.size; (try simp at this); omega
  have z3_3 : w.heap.size + 3 < w3.heap.size := by have := hb3.size; (try simp at this); omega
  have c3_0_0 : w3.cell? ⟨w.heap.size, 0, none⟩ = some (.int .i64 a) := keep_cell hb3 (by first | assumption | (go_simp; done) | (simp; done) | simp [*])
  have c3_0_1 : w3.cell? ⟨w.heap.size, 1, none⟩ = some (.int .i64 b) := keep_cell hb3 (by first | assumption | (go_simp; done) | (simp; done) | simp [*])
  have c3_1_0 : w3.cell? ⟨w.heap.size + 1, 0, none⟩ = some (.int .i64 c) := keep_cell hb3 (by first | assumption | (go_simp; done) | (simp; done) | simp [*])
  have c3_1_1 : w3.cell? ⟨w.heap.size + 1, 1, none⟩ = some (.int .i64 d) := keep_cell hb3 (by first | assumption | (go_simp; done) | (simp; done) | simp [*])
  have c3_2_0 : w3.cell? ⟨w.heap.size + 2, 0, none⟩ = some (.int .i64 0) := keep_cell hb3 (by first | assumption | (go_simp; done) | (simp; done) | simp [*])
  have c3_2_1 : w3.cell? ⟨w.heap.size + 2, 1, none⟩ = some (.int .i64 0) := keep_cell hb3 (by first | assumption | (go_simp; done) | (simp; done) | simp [*])
  have c3_3_0 : w3.cell? ⟨w.heap.size + 3, 0, none⟩ = some (.int .i64 0) := keep_cell hb3 (by first | assumption | (go_simp; done) | (simp; done) | simp [*])
  have c3_3_1 : w3.cell? ⟨w.heap.size + 3, 1, none⟩ = some (.int .i64 0) := keep_cell hb3 (by first | assumption | (go_simp; done) | (simp; done) | simp [*])
  have f3_2 : ∀ o, w3.frozen? ⟨w.heap.size + 2, o, none⟩ = false := fun o => (hb3.frozen (p := ⟨w.heap.size + 2, o, none⟩) (by first | assumption | (simp; done) | (simp; omega))).trans (by first | (simp; done) | (go_simp; done) | simp [*])
  have f3_3 : ∀ o, w3.frozen? ⟨w.heap.size + 3, o, none⟩ = false := fun o => (hb3.frozen (p := ⟨w.heap.size + 3, o, none⟩) (by first | assumption | (simp; done) | (simp; omega))).trans (by first | (simp; done) | (go_simp; done) | simp [*])
  have B3 : Below w.heap.size w w3 := bl_call (by repeat (first | exact Below.refl _ _ | exact Nat.le_refl _ | refine Below.alloc ?_ ?_ _ | refine Below.setCell ?_ ?_ _ | refine Below.drew ?_ | refine bl_drewN ?_ _ | (assumption) | refine bl_call ?_ (by assumption) ?_ | omega | (simp <;> omega))) hb3 (by first | assumption | (simp; done) | (simp; omega) | omega)
  clear hb3
  have hsz_3 := B3.size
  clear hb3'
  clear z2_0 z2_1 z2_2 c2_0_0 c2_0_1 c2_1_0 c2_1_1 c2_2_0 c2_2_1 c2_3_0 c2_3_1 f2_2 f2_3 B2
  have hg7' : w.heap.size + 3 < g7 := by omega
  have kg0 : w3.cell? ⟨g7, 0, none⟩ = some (.int .i64 (a * (c + d) + b * -d)) := cell_of_row w3 g7 0 _ _ _ hblk7
  have kg1 : w3.cell? ⟨g7, 1, none⟩ = some (.int .i64 (a * -d + b * (c + d) + b * -d)) := cell_of_row w3 g7 1 _ _ _ hblk7
  have hg7s : g7 < w3.heap.size := blk_lt hblk7
  clear hblk7 hg7 z2_3
  go_upto_region 4 with fail
  refine with_act fun a0 ha0 => ?_
  refine wp_region_inv (by kernel_rfl) (by kernel_rfl) (fun s a' w' => ∃ v32 v33 v34 v35 v36 v37 v38 v39 v40 v9 : Value, a' = putL a0 [(32, v32), (33, v33), (34, v34), (35, v35), (36, v36), (37, v37), (38, v38), (39, v39), (40, v40), (9, v9)] ∧ Hid ((s 0 = true → v32 = .pointer (some ⟨g7, 0, none⟩)) ∧ (s 1 = true → v33 = .int .i64 (a * (c + d) + b * -d)) ∧ (s 2 = true → v34 = .int .i64 (c * c + c * d - d * d)) ∧ (s 3 = true → v35 = .int .i64 Q1) ∧ (s 4 = true → v36 = .pointer (some ⟨g7, 1, none⟩)) ∧ (s 5 = true → v37 = .int .i64 (a * -d + b * (c + d) + b * -d)) ∧ (s 6 = true → v38 = .int .i64 (c * c + c * d - d * d)) ∧ (s 7 = true → v39 = .int .i64 Q2) ∧ (s 8 = true → v40 = .agg #[.int .i64 Q1, .int .i64 Q2]) ∧ True) ∧ Below w3.heap.size w3 w' ∧ (s 9 = true → ∃ (g : Nat) (c0 c1 : Value), v9 = .pointer (some ⟨g, 0, none⟩) ∧ w3.heap.size ≤ g ∧ w'.heap[g]? = some (.cells #[c0, c1] 23 (0, 0)) ∧ (s 10 = true → c0 = .int .i64 Q1 ∧ c1 = .int .i64 Q2)) ∧ (s 10 = true → s 9 = true) ∧ True) ?r2hzero ⟨?r2hs0, ?r2hs1, ?r2hs2, ?r2hs3, ?r2hs4, ?r2hs5, ?r2hs6, ?r2hs7, ?r2hs8, ?r2hs9, ?r2hs10, trivial⟩ ?r2hdone
  case r2hzero =>
    refine ⟨a0.tmps.getD 32 undef, a0.tmps.getD 33 undef, a0.tmps.getD 34 undef, a0.tmps.getD 35 undef, a0.tmps.getD 36 undef, a0.tmps.getD 37 undef, a0.tmps.getD 38 undef, a0.tmps.getD 39 undef, a0.tmps.getD 40 undef, a0.tmps.getD 9 undef, ?_, ?_, ?_, ?_, ?_, trivial⟩
    · simp only [putL, put_self]
    · exact Lib.hid ⟨fun h => (by simp at h), fun h => (by simp at h), fun h => (by simp at h), fun h => (by simp at h), fun h => (by simp at h), fun h => (by simp at h), fun h => (by simp at h), fun h => (by simp at h), fun h => (by simp at h), trivial⟩
    · exact (Below.refl _ _).drew
    · exact fun h => (by simp at h)
    · exact fun h => (by simp at h)
  case r2hs0 =>
    intro s a' w' hsk hdep hI K hK
    try dsimp only at hI hK
    obtain ⟨v32, v33, v34, v35, v36, v37, v38, v39, v40, v9, hact, hR, hB, hA9, hN9, _⟩ := hI
    subst hact
    have HK := Lib.hid hK
    clear hK
    have kc0 : w'.cell? ⟨g7, 0, none⟩ = some (.int .i64 (a * (c + d) + b * -d)) := (hB.cell (p := ⟨g7, 0, none⟩) (by first | (simp; done) | omega | (simp; omega))).trans (by first | assumption | (simp; done) | (go_simp; done))
    have kc1 : w'.cell? ⟨g7, 1, none⟩ = some (.int .i64 (a * -d + b * (c + d) + b * -d)) := (hB.cell (p := ⟨g7, 1, none⟩) (by first | (simp; done) | omega | (simp; omega))).trans (by first | assumption | (simp; done) | (go_simp; done))
    clear hdep
    refine StepG.mk rfl ?_; rw [ha0]; simp only [putL, Act.put, List.setIfInBounds_toArray, List.set_cons_zero, List.set_cons_succ]
    go_wp2_with fail
    refine HK.out _ _ ?_
    refine ⟨(.pointer (some ⟨g7, 0, none⟩)), v33, v34, v35, v36, v37, v38, v39, v40, v9, (by rw [ha0]; simp only [putL, Act.put, List.setIfInBounds_toArray, List.set_cons_zero, List.set_cons_succ]), ?_, ?_, ?_, ?_, trivial⟩
    · obtain ⟨h32, h33, h34, h35, h36, h37, h38, h39, h40, _⟩ := hR.out
      exact Lib.hid ⟨fun _ => rfl, fun h => h33 (by simpa using h), fun h => h34 (by simpa using h), fun h => h35 (by simpa using h), fun h => h36 (by simpa using h), fun h => h37 (by simpa using h), fun h => h38 (by simpa using h), fun h => h39 (by simpa using h), fun h => h40 (by simpa using h), trivial⟩
    · exact hB
    · intro h; obtain ⟨g, c0, c1, e, hg, hblk, hst⟩ := hA9 (by simpa using h); exact ⟨g, c0, c1, e, hg, hblk, fun h => hst (by simpa using h)⟩
    · exact fun h => (by have h1 := hN9 (by simpa using h); simp [h1])
  case r2hs1 =>
    intro s a' w' hsk hdep hI K hK
    try dsimp only at hI hK
    obtain ⟨v32, v33, v34, v35, v36, v37, v38, v39, v40, v9, hact, hR, hB, hA9, hN9, _⟩ := hI
    subst hact
    have HK := Lib.hid hK
    clear hK
    have e32 : v32 = .pointer (some ⟨g7, 0, none⟩) := by obtain ⟨h32, h33, h34, h35, h36, h37, h38, h39, h40, _⟩ := hR.out; exact h32 (hdep ⟨0, .data⟩ (by simp) rfl)
    subst e32
    have kc0 : w'.cell? ⟨g7, 0, none⟩ = some (.int .i64 (a * (c + d) + b * -d)) := (hB.cell (p := ⟨g7, 0, none⟩) (by first | (simp; done) | omega | (simp; omega))).trans (by first | assumption | (simp; done) | (go_simp; done))
    have kc1 : w'.cell? ⟨g7, 1, none⟩ = some (.int .i64 (a * -d + b * (c + d) + b * -d)) := (hB.cell (p := ⟨g7, 1, none⟩) (by first | (simp; done) | omega | (simp; omega))).trans (by first | assumption | (simp; done) | (go_simp; done))
    clear hdep
    refine StepG.mk rfl ?_; rw [ha0]; simp only [putL, Act.put, List.setIfInBounds_toArray, List.set_cons_zero, List.set_cons_succ]
    go_wp2_with fail
    refine HK.out _ _ ?_
    refine ⟨(.pointer (some ⟨g7, 0, none⟩)), (.int .i64 (a * (c + d) + b * -d)), v34, v35, v36, v37, v38, v39, v40, v9, (by rw [ha0]; simp only [putL, Act.put, List.setIfInBounds_toArray, List.set_cons_zero, List.set_cons_succ]), ?_, ?_, ?_, ?_, trivial⟩
    · obtain ⟨h32, h33, h34, h35, h36, h37, h38, h39, h40, _⟩ := hR.out
      exact Lib.hid ⟨fun _ => rfl, fun _ => rfl, fun h => h34 (by simpa using h), fun h => h35 (by simpa using h), fun h => h36 (by simpa using h), fun h => h37 (by simpa using h), fun h => h38 (by simpa using h), fun h => h39 (by simpa using h), fun h => h40 (by simpa using h), trivial⟩
    · exact hB
    · intro h; obtain ⟨g, c0, c1, e, hg, hblk, hst⟩ := hA9 (by simpa using h); exact ⟨g, c0, c1, e, hg, hblk, fun h => hst (by simpa using h)⟩
    · exact fun h => (by have h1 := hN9 (by simpa using h); simp [h1])
  case r2hs2 =>
    intro s a' w' hsk hdep hI K hK
    try dsimp only at hI hK
    obtain ⟨v32, v33, v34, v35, v36, v37, v38, v39, v40, v9, hact, hR, hB, hA9, hN9, _⟩ := hI
    subst hact
    have HK := Lib.hid hK
    clear hK
    have kc0 : w'.cell? ⟨g7, 0, none⟩ = some (.int .i64 (a * (c + d) + b * -d)) := (hB.cell (p := ⟨g7, 0, none⟩) (by first | (simp; done) | omega | (simp; omega))).trans (by first | assumption | (simp; done) | (go_simp; done))
    have kc1 : w'.cell? ⟨g7, 1, none⟩ = some (.int .i64 (a * -d + b * (c + d) + b * -d)) := (hB.cell (p := ⟨g7, 1, none⟩) (by first | (simp; done) | omega | (simp; omega))).trans (by first | assumption | (simp; done) | (go_simp; done))
    clear hdep
    refine StepG.mk rfl ?_; rw [ha0]; simp only [putL, Act.put, List.setIfInBounds_toArray, List.set_cons_zero, List.set_cons_succ]
    go_wp2_with fail
    refine HK.out _ _ ?_
    refine ⟨v32, v33, (.int .i64 (c * c + c * d - d * d)), v35, v36, v37, v38, v39, v40, v9, (by rw [ha0]; simp only [putL, Act.put, List.setIfInBounds_toArray, List.set_cons_zero, List.set_cons_succ]), ?_, ?_, ?_, ?_, trivial⟩
    · obtain ⟨h32, h33, h34, h35, h36, h37, h38, h39, h40, _⟩ := hR.out
      exact Lib.hid ⟨fun h => h32 (by simpa using h), fun h => h33 (by simpa using h), fun _ => rfl, fun h => h35 (by simpa using h), fun h => h36 (by simpa using h), fun h => h37 (by simpa using h), fun h => h38 (by simpa using h), fun h => h39 (by simpa using h), fun h => h40 (by simpa using h), trivial⟩
    · exact hB
    · intro h; obtain ⟨g, c0, c1, e, hg, hblk, hst⟩ := hA9 (by simpa using h); exact ⟨g, c0, c1, e, hg, hblk, fun h => hst (by simpa using h)⟩
    · exact fun h => (by have h1 := hN9 (by simpa using h); simp [h1])
  case r2hs3 =>
    intro s a' w' hsk hdep hI K hK
    try dsimp only at hI hK
    obtain ⟨v32, v33, v34, v35, v36, v37, v38, v39, v40, v9, hact, hR, hB, hA9, hN9, _⟩ := hI
    subst hact
    have HK := Lib.hid hK
    clear hK
    have e33 : v33 = .int .i64 (a * (c + d) + b * -d) := by obtain ⟨h32, h33, h34, h35, h36, h37, h38, h39, h40, _⟩ := hR.out; exact h33 (hdep ⟨1, .data⟩ (by simp) rfl)
    subst e33
    have e34 : v34 = .int .i64 (c * c + c * d - d * d) := by obtain ⟨h32, h33, h34, h35, h36, h37, h38, h39, h40, _⟩ := hR.out; exact h34 (hdep ⟨2, .data⟩ (by simp) rfl)
    subst e34
    have kc0 : w'.cell? ⟨g7, 0, none⟩ = some (.int .i64 (a * (c + d) + b * -d)) := (hB.cell (p := ⟨g7, 0, none⟩) (by first | (simp; done) | omega | (simp; omega))).trans (by first | assumption | (simp; done) | (go_simp; done))
    have kc1 : w'.cell? ⟨g7, 1, none⟩ = some (.int .i64 (a * -d + b * (c + d) + b * -d)) := (hB.cell (p := ⟨g7, 1, none⟩) (by first | (simp; done) | omega | (simp; omega))).trans (by first | assumption | (simp; done) | (go_simp; done))
    clear hdep
    refine StepG.mk rfl ?_; rw [ha0]; simp only [putL, Act.put, List.setIfInBounds_toArray, List.set_cons_zero, List.set_cons_succ]
    go_wp2_with fail
    refine (N1.out _).mono ?_
    rintro e wn ⟨rfl, rfl⟩
    go_wp2_with fail
    refine HK.out _ _ ?_
    refine ⟨v32, (.int .i64 (a * (c + d) + b * -d)), (.int .i64 (c * c + c * d - d * d)), (.int .i64 Q1), v36, v37, v38, v39, v40, v9, (by rw [ha0]; simp only [putL, Act.put, List.setIfInBounds_toArray, List.set_cons_zero, List.set_cons_succ]), ?_, ?_, ?_, ?_, trivial⟩
    · obtain ⟨h32, h33, h34, h35, h36, h37, h38, h39, h40, _⟩ := hR.out
      exact Lib.hid ⟨fun h => h32 (by simpa using h), fun _ => rfl, fun _ => rfl, fun _ => rfl, fun h => h36 (by simpa using h), fun h => h37 (by simpa using h), fun h => h38 (by simpa using h), fun h => h39 (by simpa using h), fun h => h40 (by simpa using h), trivial⟩
    · exact hB
    · intro h; obtain ⟨g, c0, c1, e, hg, hblk, hst⟩ := hA9 (by simpa using h); exact ⟨g, c0, c1, e, hg, hblk, fun h => hst (by simpa using h)⟩
    · exact fun h => (by have h1 := hN9 (by simpa using h); simp [h1])
  case r2hs4 =>
    intro s a' w' hsk hdep hI K hK
    try dsimp only at hI hK
    obtain ⟨v32, v33, v34, v35, v36, v37, v38, v39, v40, v9, hact, hR, hB, hA9, hN9, _⟩ := hI
    subst hact
    have HK := Lib.hid hK
    clear hK
    have kc0 : w'.cell? ⟨g7, 0, none⟩ = some (.int .i64 (a * (c + d) + b * -d)) := (hB.cell (p := ⟨g7, 0, none⟩) (by first | (simp; done) | omega | (simp; omega))).trans (by first | assumption | (simp; done) | (go_simp; done))
    have kc1 : w'.cell? ⟨g7, 1, none⟩ = some (.int .i64 (a * -d + b * (c + d) + b * -d)) := (hB.cell (p := ⟨g7, 1, none⟩) (by first | (simp; done) | omega | (simp; omega))).trans (by first | assumption | (simp; done) | (go_simp; done))
    clear hdep
    refine StepG.mk rfl ?_; rw [ha0]; simp only [putL, Act.put, List.setIfInBounds_toArray, List.set_cons_zero, List.set_cons_succ]
    go_wp2_with fail
    refine HK.out _ _ ?_
    refine ⟨v32, v33, v34, v35, (.pointer (some ⟨g7, 1, none⟩)), v37, v38, v39, v40, v9, (by rw [ha0]; simp only [putL, Act.put, List.setIfInBounds_toArray, List.set_cons_zero, List.set_cons_succ]), ?_, ?_, ?_, ?_, trivial⟩
    · obtain ⟨h32, h33, h34, h35, h36, h37, h38, h39, h40, _⟩ := hR.out
      exact Lib.hid ⟨fun h => h32 (by simpa using h), fun h => h33 (by simpa using h), fun h => h34 (by simpa using h), fun h => h35 (by simpa using h), fun _ => rfl, fun h => h37 (by simpa using h), fun h => h38 (by simpa using h), fun h => h39 (by simpa using h), fun h => h40 (by simpa using h), trivial⟩
    · exact hB
    · intro h; obtain ⟨g, c0, c1, e, hg, hblk, hst⟩ := hA9 (by simpa using h); exact ⟨g, c0, c1, e, hg, hblk, fun h => hst (by simpa using h)⟩
    · exact fun h => (by have h1 := hN9 (by simpa using h); simp [h1])
  case r2hs5 =>
    intro s a' w' hsk hdep hI K hK
    try dsimp only at hI hK
    obtain ⟨v32, v33, v34, v35, v36, v37, v38, v39, v40, v9, hact, hR, hB, hA9, hN9, _⟩ := hI
    subst hact
    have HK := Lib.hid hK
    clear hK
    have e36 : v36 = .pointer (some ⟨g7, 1, none⟩) := by obtain ⟨h32, h33, h34, h35, h36, h37, h38, h39, h40, _⟩ := hR.out; exact h36 (hdep ⟨4, .data⟩ (by simp) rfl)
    subst e36
    have kc0 : w'.cell? ⟨g7, 0, none⟩ = some (.int .i64 (a * (c + d) + b * -d)) := (hB.cell (p := ⟨g7, 0, none⟩) (by first | (simp; done) | omega | (simp; omega))).trans (by first | assumption | (simp; done) | (go_simp; done))
    have kc1 : w'.cell? ⟨g7, 1, none⟩ = some (.int .i64 (a * -d + b * (c + d) + b * -d)) := (hB.cell (p := ⟨g7, 1, none⟩) (by first | (simp; done) | omega | (simp; omega))).trans (by first | assumption | (simp; done) | (go_simp; done))
    clear hdep
    refine StepG.mk rfl ?_; rw [ha0]; simp only [putL, Act.put, List.setIfInBounds_toArray, List.set_cons_zero, List.set_cons_succ]
    go_wp2_with fail
    refine HK.out _ _ ?_
    refine ⟨v32, v33, v34, v35, (.pointer (some ⟨g7, 1, none⟩)), (.int .i64 (a * -d + b * (c + d) + b * -d)), v38, v39, v40, v9, (by rw [ha0]; simp only [putL, Act.put, List.setIfInBounds_toArray, List.set_cons_zero, List.set_cons_succ]), ?_, ?_, ?_, ?_, trivial⟩
    · obtain ⟨h32, h33, h34, h35, h36, h37, h38, h39, h40, _⟩ := hR.out
      exact Lib.hid ⟨fun h => h32 (by simpa using h), fun h => h33 (by simpa using h), fun h => h34 (by simpa using h), fun h => h35 (by simpa using h), fun _ => rfl, fun _ => rfl, fun h => h38 (by simpa using h), fun h => h39 (by simpa using h), fun h => h40 (by simpa using h), trivial⟩
    · exact hB
    · intro h; obtain ⟨g, c0, c1, e, hg, hblk, hst⟩ := hA9 (by simpa using h); exact ⟨g, c0, c1, e, hg, hblk, fun h => hst (by simpa using h)⟩
    · exact fun h => (by have h1 := hN9 (by simpa using h); simp [h1])
  case r2hs6 =>
    intro s a' w' hsk hdep hI K hK
    try dsimp only at hI hK
    obtain ⟨v32, v33, v34, v35, v36, v37, v38, v39, v40, v9, hact, hR, hB, hA9, hN9, _⟩ := hI
    subst hact
    have HK := Lib.hid hK
    clear hK
    have kc0 : w'.cell? ⟨g7, 0, none⟩ = some (.int .i64 (a * (c + d) + b * -d)) := (hB.cell (p := ⟨g7, 0, none⟩) (by first | (simp; done) | omega | (simp; omega))).trans (by first | assumption | (simp; done) | (go_simp; done))
    have kc1 : w'.cell? ⟨g7, 1, none⟩ = some (.int .i64 (a * -d + b * (c + d) + b * -d)) := (hB.cell (p := ⟨g7, 1, none⟩) (by first | (simp; done) | omega | (simp; omega))).trans (by first | assumption | (simp; done) | (go_simp; done))
    clear hdep
    refine StepG.mk rfl ?_; rw [ha0]; simp only [putL, Act.put, List.setIfInBounds_toArray, List.set_cons_zero, List.set_cons_succ]
    go_wp2_with fail
    refine HK.out _ _ ?_
    refine ⟨v32, v33, v34, v35, v36, v37, (.int .i64 (c * c + c * d - d * d)), v39, v40, v9, (by rw [ha0]; simp only [putL, Act.put, List.setIfInBounds_toArray, List.set_cons_zero, List.set_cons_succ]), ?_, ?_, ?_, ?_, trivial⟩
    · obtain ⟨h32, h33, h34, h35, h36, h37, h38, h39, h40, _⟩ := hR.out
      exact Lib.hid ⟨fun h => h32 (by simpa using h), fun h => h33 (by simpa using h), fun h => h34 (by simpa using h), fun h => h35 (by simpa using h), fun h => h36 (by simpa using h), fun h => h37 (by simpa using h), fun _ => rfl, fun h => h39 (by simpa using h), fun h => h40 (by simpa using h), trivial⟩
    · exact hB
    · intro h; obtain ⟨g, c0, c1, e, hg, hblk, hst⟩ := hA9 (by simpa using h); exact ⟨g, c0, c1, e, hg, hblk, fun h => hst (by simpa using h)⟩
    · exact fun h => (by have h1 := hN9 (by simpa using h); simp [h1])
  case r2hs7 =>
    intro s a' w' hsk hdep hI K hK
    try dsimp only at hI hK
    obtain ⟨v32, v33, v34, v35, v36, v37, v38, v39, v40, v9, hact, hR, hB, hA9, hN9, _⟩ := hI
    subst hact
    have HK := Lib.hid hK
    clear hK
    have e37 : v37 = .int .i64 (a * -d + b * (c + d) + b * -d) := by obtain ⟨h32, h33, h34, h35, h36, h37, h38, h39, h40, _⟩ := hR.out; exact h37 (hdep ⟨5, .data⟩ (by simp) rfl)
    subst e37
    have e38 : v38 = .int .i64 (c * c + c * d - d * d) := by obtain ⟨h32, h33, h34, h35, h36, h37, h38, h39, h40, _⟩ := hR.out; exact h38 (hdep ⟨6, .data⟩ (by simp) rfl)
    subst e38
    have kc0 : w'.cell? ⟨g7, 0, none⟩ = some (.int .i64 (a * (c + d) + b * -d)) := (hB.cell (p := ⟨g7, 0, none⟩) (by first | (simp; done) | omega | (simp; omega))).trans (by first | assumption | (simp; done) | (go_simp; done))
    have kc1 : w'.cell? ⟨g7, 1, none⟩ = some (.int .i64 (a * -d + b * (c + d) + b * -d)) := (hB.cell (p := ⟨g7, 1, none⟩) (by first | (simp; done) | omega | (simp; omega))).trans (by first | assumption | (simp; done) | (go_simp; done))
    clear hdep
    refine StepG.mk rfl ?_; rw [ha0]; simp only [putL, Act.put, List.setIfInBounds_toArray, List.set_cons_zero, List.set_cons_succ]
    go_wp2_with fail
    refine (N2.out _).mono ?_
    rintro e wn ⟨rfl, rfl⟩
    go_wp2_with fail
    refine HK.out _ _ ?_
    refine ⟨v32, v33, v34, v35, v36, (.int .i64 (a * -d + b * (c + d) + b * -d)), (.int .i64 (c * c + c * d - d * d)), (.int .i64 Q2), v40, v9, (by rw [ha0]; simp only [putL, Act.put, List.setIfInBounds_toArray, List.set_cons_zero, List.set_cons_succ]), ?_, ?_, ?_, ?_, trivial⟩
    · obtain ⟨h32, h33, h34, h35, h36, h37, h38, h39, h40, _⟩ := hR.out
      exact Lib.hid ⟨fun h => h32 (by simpa using h), fun h => h33 (by simpa using h), fun h => h34 (by simpa using h), fun h => h35 (by simpa using h), fun h => h36 (by simpa using h), fun _ => rfl, fun _ => rfl, fun _ => rfl, fun h => h40 (by simpa using h), trivial⟩
    · exact hB
    · intro h; obtain ⟨g, c0, c1, e, hg, hblk, hst⟩ := hA9 (by simpa using h); exact ⟨g, c0, c1, e, hg, hblk, fun h => hst (by simpa using h)⟩
    · exact fun h => (by have h1 := hN9 (by simpa using h); simp [h1])
  case r2hs8 =>
    intro s a' w' hsk hdep hI K hK
    try dsimp only at hI hK
    obtain ⟨v32, v33, v34, v35, v36, v37, v38, v39, v40, v9, hact, hR, hB, hA9, hN9, _⟩ := hI
    subst hact
    have HK := Lib.hid hK
    clear hK
    have e35 : v35 = .int .i64 Q1 := by obtain ⟨h32, h33, h34, h35, h36, h37, h38, h39, h40, _⟩ := hR.out; exact h35 (hdep ⟨3, .data⟩ (by simp) rfl)
    subst e35
    have e39 : v39 = .int .i64 Q2 := by obtain ⟨h32, h33, h34, h35, h36, h37, h38, h39, h40, _⟩ := hR.out; exact h39 (hdep ⟨7, .data⟩ (by simp) rfl)
    subst e39
    have kc0 : w'.cell? ⟨g7, 0, none⟩ = some (.int .i64 (a * (c + d) + b * -d)) := (hB.cell (p := ⟨g7, 0, none⟩) (by first | (simp; done) | omega | (simp; omega))).trans (by first | assumption | (simp; done) | (go_simp; done))
    have kc1 : w'.cell? ⟨g7, 1, none⟩ = some (.int .i64 (a * -d + b * (c + d) + b * -d)) := (hB.cell (p := ⟨g7, 1, none⟩) (by first | (simp; done) | omega | (simp; omega))).trans (by first | assumption | (simp; done) | (go_simp; done))
    clear hdep
    refine StepG.mk rfl ?_; rw [ha0]; simp only [putL, Act.put, List.setIfInBounds_toArray, List.set_cons_zero, List.set_cons_succ]
    go_wp2_with fail
    refine HK.out _ _ ?_
    refine ⟨v32, v33, v34, (.int .i64 Q1), v36, v37, v38, (.int .i64 Q2), (.agg #[.int .i64 Q1, .int .i64 Q2]), v9, (by rw [ha0]; simp only [putL, Act.put, List.setIfInBounds_toArray, List.set_cons_zero, List.set_cons_succ]), ?_, ?_, ?_, ?_, trivial⟩
    · obtain ⟨h32, h33, h34, h35, h36, h37, h38, h39, h40, _⟩ := hR.out
      exact Lib.hid ⟨fun h => h32 (by simpa using h), fun h => h33 (by simpa using h), fun h => h34 (by simpa using h), fun _ => rfl, fun h => h36 (by simpa using h), fun h => h37 (by simpa using h), fun h => h38 (by simpa using h), fun _ => rfl, fun _ => rfl, trivial⟩
    · exact hB
    · intro h; obtain ⟨g, c0, c1, e, hg, hblk, hst⟩ := hA9 (by simpa using h); exact ⟨g, c0, c1, e, hg, hblk, fun h => hst (by simpa using h)⟩
    · exact fun h => (by have h1 := hN9 (by simpa using h); simp [h1])
  case r2hs9 =>
    intro s a' w' hsk hdep hI K hK
    try dsimp only at hI hK
    obtain ⟨v32, v33, v34, v35, v36, v37, v38, v39, v40, v9, hact, hR, hB, hA9, hN9, _⟩ := hI
    subst hact
    have HK := Lib.hid hK
    clear hK
    have kc0 : w'.cell? ⟨g7, 0, none⟩ = some (.int .i64 (a * (c + d) + b * -d)) := (hB.cell (p := ⟨g7, 0, none⟩) (by first | (simp; done) | omega | (simp; omega))).trans (by first | assumption | (simp; done) | (go_simp; done))
    have kc1 : w'.cell? ⟨g7, 1, none⟩ = some (.int .i64 (a * -d + b * (c + d) + b * -d)) := (hB.cell (p := ⟨g7, 1, none⟩) (by first | (simp; done) | omega | (simp; omega))).trans (by first | assumption | (simp; done) | (go_simp; done))
    clear hdep
    refine StepG.mk rfl ?_; rw [ha0]; simp only [putL, Act.put, List.setIfInBounds_toArray, List.set_cons_zero, List.set_cons_succ]
    go_wp2_with fail
    refine HK.out _ _ ?_
    refine ⟨v32, v33, v34, v35, v36, v37, v38, v39, v40, (.pointer (some ⟨w'.heap.size, 0, none⟩)), (by rw [ha0]; simp only [putL, Act.put, List.setIfInBounds_toArray, List.set_cons_zero, List.set_cons_succ]), ?_, ?_, ?_, ?_, trivial⟩
    · obtain ⟨h32, h33, h34, h35, h36, h37, h38, h39, h40, _⟩ := hR.out
      exact Lib.hid ⟨fun h => h32 (by simpa using h), fun h => h33 (by simpa using h), fun h => h34 (by simpa using h), fun h => h35 (by simpa using h), fun h => h36 (by simpa using h), fun h => h37 (by simpa using h), fun h => h38 (by simpa using h), fun h => h39 (by simpa using h), fun h => h40 (by simpa using h), trivial⟩
    · exact hB.alloc hB.size _
    · exact fun _ => ⟨w'.heap.size, .int .i64 0, .int .i64 0, rfl, hB.size, blk_new w' _, fun h => (by have h1 := hN9 (by simpa using h); rw [h1] at hsk; cases hsk)⟩
    · exact fun _ => rfl
  case r2hs10 =>
    intro s a' w' hsk hdep hI K hK
    try dsimp only at hI hK
    obtain ⟨v32, v33, v34, v35, v36, v37, v38, v39, v40, v9, hact, hR, hB, hA9, hN9, _⟩ := hI
    subst hact
    have HK := Lib.hid hK
    clear hK
    have e40 : v40 = .agg #[.int .i64 Q1, .int .i64 Q2] := by obtain ⟨h32, h33, h34, h35, h36, h37, h38, h39, h40, _⟩ := hR.out; exact h40 (hdep ⟨8, .data⟩ (by simp) rfl)
    subst e40
    obtain ⟨g, c0, c1, ev, hg, hblk, hst⟩ := hA9 (hdep ⟨9, .data⟩ (by simp) rfl)
    subst ev
    have kc0 : w'.cell? ⟨g7, 0, none⟩ = some (.int .i64 (a * (c + d) + b * -d)) := (hB.cell (p := ⟨g7, 0, none⟩) (by first | (simp; done) | omega | (simp; omega))).trans (by first | assumption | (simp; done) | (go_simp; done))
    have kc1 : w'.cell? ⟨g7, 1, none⟩ = some (.int .i64 (a * -d + b * (c + d) + b * -d)) := (hB.cell (p := ⟨g7, 1, none⟩) (by first | (simp; done) | omega | (simp; omega))).trans (by first | assumption | (simp; done) | (go_simp; done))
    have kb0 : w'.cell? ⟨g, 0, none⟩ = some c0 := cell_of_row w' g 0 _ _ _ hblk
    have kb1 : w'.cell? ⟨g, 1, none⟩ = some c1 := cell_of_row w' g 1 _ _ _ hblk
    have kf : ∀ o, w'.frozen? ⟨g, o, none⟩ = false := fun o => frozen_of_row w' g o _ _ hblk
    have hBlk := Lib.hid hblk
    clear hblk
    have hdepA : s 9 = true := hdep ⟨9, .data⟩ (by simp) rfl
    clear hdep
    refine StepG.mk rfl ?_; rw [ha0]; simp only [putL, Act.put, List.setIfInBounds_toArray, List.set_cons_zero, List.set_cons_succ]
    go_wp2_with fail
    refine HK.out _ _ ?_
    refine ⟨v32, v33, v34, v35, v36, v37, v38, v39, (.agg #[.int .i64 Q1, .int .i64 Q2]), (.pointer (some ⟨g, 0, none⟩)), (by rw [ha0]; simp only [putL, Act.put, List.setIfInBounds_toArray, List.set_cons_zero, List.set_cons_succ]), ?_, ?_, ?_, ?_, trivial⟩
    · obtain ⟨h32, h33, h34, h35, h36, h37, h38, h39, h40, _⟩ := hR.out
      exact Lib.hid ⟨fun h => h32 (by simpa using h), fun h => h33 (by simpa using h), fun h => h34 (by simpa using h), fun h => h35 (by simpa using h), fun h => h36 (by simpa using h), fun h => h37 (by simpa using h), fun h => h38 (by simpa using h), fun h => h39 (by simpa using h), fun _ => rfl, trivial⟩
    · exact ((hB.setCell (p := ⟨g, 0, none⟩) hg _).setCell (p := ⟨g, 1, none⟩) hg _)
    · exact fun _ => ⟨g, _, _, rfl, hg, blk_set2 hBlk.out, fun _ => ⟨rfl, rfl⟩⟩
    · exact fun _ => (by simp [hdepA])
  intro s a' w4 hall hI
  try dsimp only at hI
  obtain ⟨v32, v33, v34, v35, v36, v37, v38, v39, v40, v9, hact, hR, hBR, hA9, hN9, _⟩ := hI
  subst hact
  obtain ⟨h32, h33, h34, h35, h36, h37, h38, h39, h40, _⟩ := hR.out
  clear hR
  have e32 := h32 (hall 0 (by decide))
  subst e32
  clear h32
  have e33 := h33 (hall 1 (by decide))
  subst e33
  clear h33
  have e34 := h34 (hall 2 (by decide))
  subst e34
  clear h34
  have e35 := h35 (hall 3 (by decide))
  subst e35
  clear h35
  have e36 := h36 (hall 4 (by decide))
  subst e36
  clear h36
  have e37 := h37 (hall 5 (by decide))
  subst e37
  clear h37
  have e38 := h38 (hall 6 (by decide))
  subst e38
  clear h38
  have e39 := h39 (hall 7 (by decide))
  subst e39
  clear h39
  have e40 := h40 (hall 8 (by decide))
  subst e40
  clear h40
  obtain ⟨g9, c0, c1, ev, hg9, hblk9, hst⟩ := hA9 (hall 9 (by decide))
  subst ev
  clear hA9
  obtain ⟨es0, es1⟩ := hst (hall 10 (by decide))
  subst es0
  subst es1
  clear hall
  rw [ha0]; simp only [putL, Act.put, List.setIfInBounds_toArray, List.set_cons_zero, List.set_cons_succ]
  clear ha0
  have hb4 := hBR
  have hb4' := hBR
  clear hBR
  have z4_0 : w.heap.size < w4.heap.size := by have := hb4.size; (try simp at this); omega
  have z4_1 : w.heap.size + 1 < w4.heap.size := by have := hb4.size; (try simp at this); omega
  have z4_2 : w.heap.size + 2 < w4.heap.size := by have := hb4.size; (try simp at this); omega
  have z4_3 : w.heap.size + 3 < w4.heap.size := by have := hb4.size; (try simp at this); omega
  have c4_0_0 : w4.cell? ⟨w.heap.size, 0, none⟩ = some (.int .i64 a) := keep_cell hb4 (by first | assumption | (go_simp; done) | (simp; done) | simp [*])
  have c4_0_1 : w4.cell? ⟨w.heap.size, 1, none⟩ = some (.int .i64 b) := keep_cell hb4 (by first | assumption | (go_simp; done) | (simp; done) | simp [*])
  have c4_1_0 : w4.cell? ⟨w.heap.size + 1, 0, none⟩ = some (.int .i64 c) := keep_cell hb4 (by first | assumption | (go_simp; done) | (simp; done) | simp [*])
  have c4_1_1 : w4.cell? ⟨w.heap.size + 1, 1, none⟩ = some (.int .i64 d) := keep_cell hb4 (by first | assumption | (go_simp; done) | (simp; done) | simp [*])
  have c4_2_0 : w4.cell? ⟨w.heap.size + 2, 0, none⟩ = some (.int .i64 0) := keep_cell hb4 (by first | assumption | (go_simp; done) | (simp; done) | simp [*])
  have c4_2_1 : w4.cell? ⟨w.heap.size + 2, 1, none⟩ = some (.int .i64 0) := keep_cell hb4 (by first | assumption | (go_simp; done) | (simp; done) | simp [*])
  have c4_3_0 : w4.cell? ⟨w.heap.size + 3, 0, none⟩ = some (.int .i64 0) := keep_cell hb4 (by first | assumption | (go_simp; done) | (simp; done) | simp [*])
  have c4_3_1 : w4.cell? ⟨w.heap.size + 3, 1, none⟩ = some (.int .i64 0) := keep_cell hb4 (by first | assumption | (go_simp; done) | (simp; done) | simp [*])
  have f4_2 : ∀ o, w4.frozen? ⟨w.heap.size + 2, o, none⟩ = false := fun o => (hb4.frozen (p := ⟨w.heap.size + 2, o, none⟩) (by first | assumption | (simp; done) | (simp; omega))).trans (by first | (simp; done) | (go_simp; done) | simp [*])
  have f4_3 : ∀ o, w4.frozen? ⟨w.heap.size + 3, o, none⟩ = false := fun o => (hb4.frozen (p := ⟨w.heap.size + 3, o, none⟩) (by first | assumption | (simp; done) | (simp; omega))).trans (by first | (simp; done) | (go_simp; done) | simp [*])
  have B4 : Below w.heap.size w w4 := bl_call (by repeat (first | exact Below.refl _ _ | exact Nat.le_refl _ | refine Below.alloc ?_ ?_ _ | refine Below.setCell ?_ ?_ _ | refine Below.drew ?_ | refine bl_drewN ?_ _ | (assumption) | refine bl_call ?_ (by assumption) ?_ | omega | (simp <;> omega))) hb4 (by first | assumption | (simp; done) | (simp; omega) | omega)
  clear hb4
  have hsz_4 := B4.size
  clear hb4'
  clear z3_0 z3_1 z3_2 c3_0_0 c3_0_1 c3_1_0 c3_1_1 c3_2_0 c3_2_1 c3_3_0 c3_3_1 f3_2 f3_3 B3 kg0 kg1
  have hg9' : w.heap.size + 3 < g9 := by omega
  have kq0 : w4.cell? ⟨g9, 0, none⟩ = some (.int .i64 Q1) := cell_of_row w4 g9 0 _ _ _ hblk9
  have kq1 : w4.cell? ⟨g9, 1, none⟩ = some (.int .i64 Q2) := cell_of_row w4 g9 1 _ _ _ hblk9
  have hg9s : g9 < w4.heap.size := blk_lt hblk9
  clear hblk9 hg9 z3_3 hg7' hg7s
  go_upto_region 5 with fail
  refine with_act fun a0 ha0 => ?_
  refine wp_region_inv (by kernel_rfl) (by kernel_rfl) (fun s a' w' => ∃ v41 v42 v43 v44 v45 v46 v10 : Value, a' = putL a0 [(41, v41), (42, v42), (43, v43), (44, v44), (45, v45), (46, v46), (10, v10)] ∧ Hid ((s 0 = true → v41 = .agg #[.int .i64 a, .int .i64 b]) ∧ (s 1 = true → v42 = .agg #[.int .i64 Q1, .int .i64 Q2]) ∧ (s 2 = true → v43 = .agg #[.int .i64 c, .int .i64 d]) ∧ (s 3 = true → v44 = .agg #[.int .i64 Pa, .int .i64 Pb]) ∧ (s 4 = true → v45 = .agg #[.int .i64 (-Pa), .int .i64 (-Pb)]) ∧ (s 5 = true → v46 = .agg #[.int .i64 (a + -Pa), .int .i64 (b + -Pb)]) ∧ True) ∧ Below w4.heap.size w4 w' ∧ (s 6 = true → ∃ (g : Nat) (c0 c1 : Value), v10 = .pointer (some ⟨g, 0, none⟩) ∧ w4.heap.size ≤ g ∧ w'.heap[g]? = some (.cells #[c0, c1] 23 (0, 0)) ∧ (s 7 = true → c0 = .int .i64 (a + -Pa) ∧ c1 = .int .i64 (b + -Pb))) ∧ (s 7 = true → s 6 = true) ∧ True) ?r3hzero ⟨?r3hs0, ?r3hs1, ?r3hs2, ?r3hs3, ?r3hs4, ?r3hs5, ?r3hs6, ?r3hs7, trivial⟩ ?r3hdone
  case r3hzero =>
    refine ⟨a0.tmps.getD 41 undef, a0.tmps.getD 42 undef, a0.tmps.getD 43 undef, a0.tmps.getD 44 undef, a0.tmps.getD 45 undef, a0.tmps.getD 46 undef, a0.tmps.getD 10 undef, ?_, ?_, ?_, ?_, ?_, trivial⟩
    · simp only [putL, put_self]
    · exact Lib.hid ⟨fun h => (by simp at h), fun h => (by simp at h), fun h => (by simp at h), fun h => (by simp at h), fun h => (by simp at h), fun h => (by simp at h), trivial⟩
    · exact (Below.refl _ _).drew
    · exact fun h => (by simp at h)
    · exact fun h => (by simp at h)
  case r3hs0 =>
    intro s a' w' hsk hdep hI K hK
    try dsimp only at hI hK
    obtain ⟨v41, v42, v43, v44, v45, v46, v10, hact, hR, hB, hA10, hN10, _⟩ := hI
    subst hact
    have HK := Lib.hid hK
    clear hK
    have kc0 : w'.cell? ⟨w.heap.size, 0, none⟩ = some (.int .i64 a) := (hB.cell (p := ⟨w.heap.size, 0, none⟩) (by first | (simp; done) | omega | (simp; omega))).trans (by first | assumption | (simp; done) | (go_simp; done))
    have kc1 : w'.cell? ⟨w.heap.size, 1, none⟩ = some (.int .i64 b) := (hB.cell (p := ⟨w.heap.size, 1, none⟩) (by first | (simp; done) | omega | (simp; omega))).trans (by first | assumption | (simp; done) | (go_simp; done))
    have kc2 : w'.cell? ⟨w.heap.size + 1, 0, none⟩ = some (.int .i64 c) := (hB.cell (p := ⟨w.heap.size + 1, 0, none⟩) (by first | (simp; done) | omega | (simp; omega))).trans (by first | assumption | (simp; done) | (go_simp; done))
    have kc3 : w'.cell? ⟨w.heap.size + 1, 1, none⟩ = some (.int .i64 d) := (hB.cell (p := ⟨w.heap.size + 1, 1, none⟩) (by first | (simp; done) | omega | (simp; omega))).trans (by first | assumption | (simp; done) | (go_simp; done))
    have kc4 : w'.cell? ⟨g9, 0, none⟩ = some (.int .i64 Q1) := (hB.cell (p := ⟨g9, 0, none⟩) (by first | (simp; done) | omega | (simp; omega))).trans (by first | assumption | (simp; done) | (go_simp; done))
    have kc5 : w'.cell? ⟨g9, 1, none⟩ = some (.int .i64 Q2) := (hB.cell (p := ⟨g9, 1, none⟩) (by first | (simp; done) | omega | (simp; omega))).trans (by first | assumption | (simp; done) | (go_simp; done))
    clear hdep
    refine StepG.mk rfl ?_; rw [ha0]; simp only [putL, Act.put, List.setIfInBounds_toArray, List.set_cons_zero, List.set_cons_succ]
    go_wp2_with fail
    refine HK.out _ _ ?_
    refine ⟨(.agg #[.int .i64 a, .int .i64 b]), v42, v43, v44, v45, v46, v10, (by rw [ha0]; simp only [putL, Act.put, List.setIfInBounds_toArray, List.set_cons_zero, List.set_cons_succ]), ?_, ?_, ?_, ?_, trivial⟩
    · obtain ⟨h41, h42, h43, h44, h45, h46, _⟩ := hR.out
      exact Lib.hid ⟨fun _ => rfl, fun h => h42 (by simpa using h), fun h => h43 (by simpa using h), fun h => h44 (by simpa using h), fun h => h45 (by simpa using h), fun h => h46 (by simpa using h), trivial⟩
    · exact hB
    · intro h; obtain ⟨g, c0, c1, e, hg, hblk, hst⟩ := hA10 (by simpa using h); exact ⟨g, c0, c1, e, hg, hblk, fun h => hst (by simpa using h)⟩
    · exact fun h => (by have h1 := hN10 (by simpa using h); simp [h1])
  case r3hs1 =>
    intro s a' w' hsk hdep hI K hK
    try dsimp only at hI hK
    obtain ⟨v41, v42, v43, v44, v45, v46, v10, hact, hR, hB, hA10, hN10, _⟩ := hI
    subst hact
    have HK := Lib.hid hK
    clear hK
    have kc0 : w'.cell? ⟨w.heap.size, 0, none⟩ = some (.int .i64 a) := (hB.cell (p := ⟨w.heap.size, 0, none⟩) (by first | (simp; done) | omega | (simp; omega))).trans (by first | assumption | (simp; done) | (go_simp; done))
    have kc1 : w'.cell? ⟨w.heap.size, 1, none⟩ = some (.int .i64 b) := (hB.cell (p := ⟨w.heap.size, 1, none⟩) (by first | (simp; done) | omega | (simp; omega))).trans (by first | assumption | (simp; done) | (go_simp; done))
    have kc2 : w'.cell? ⟨w.heap.size + 1, 0, none⟩ = some (.int .i64 c) := (hB.cell (p := ⟨w.heap.size + 1, 0, none⟩) (by first | (simp; done) | omega | (simp; omega))).trans (by first | assumption | (simp; done) | (go_simp; done))
    have kc3 : w'.cell? ⟨w.heap.size + 1, 1, none⟩ = some (.int .i64 d) := (hB.cell (p := ⟨w.heap.size + 1, 1, none⟩) (by first | (simp; done) | omega | (simp; omega))).trans (by first | assumption | (simp; done) | (go_simp; done))
    have kc4 : w'.cell? ⟨g9, 0, none⟩ = some (.int .i64 Q1) := (hB.cell (p := ⟨g9, 0, none⟩) (by first | (simp; done) | omega | (simp; omega))).trans (by first | assumption | (simp; done) | (go_simp; done))
    have kc5 : w'.cell? ⟨g9, 1, none⟩ = some (.int .i64 Q2) := (hB.cell (p := ⟨g9, 1, none⟩) (by first | (simp; done) | omega | (simp; omega))).trans (by first | assumption | (simp; done) | (go_simp; done))
    clear hdep
    refine StepG.mk rfl ?_; rw [ha0]; simp only [putL, Act.put, List.setIfInBounds_toArray, List.set_cons_zero, List.set_cons_succ]
    go_wp2_with fail
    refine HK.out _ _ ?_
    refine ⟨v41, (.agg #[.int .i64 Q1, .int .i64 Q2]), v43, v44, v45, v46, v10, (by rw [ha0]; simp only [putL, Act.put, List.setIfInBounds_toArray, List.set_cons_zero, List.set_cons_succ]), ?_, ?_, ?_, ?_, trivial⟩
    · obtain ⟨h41, h42, h43, h44, h45, h46, _⟩ := hR.out
      exact Lib.hid ⟨fun h => h41 (by simpa using h), fun _ => rfl, fun h => h43 (by simpa using h), fun h => h44 (by simpa using h), fun h => h45 (by simpa using h), fun h => h46 (by simpa using h), trivial⟩
    · exact hB
    · intro h; obtain ⟨g, c0, c1, e, hg, hblk, hst⟩ := hA10 (by simpa using h); exact ⟨g, c0, c1, e, hg, hblk, fun h => hst (by simpa using h)⟩
    · exact fun h => (by have h1 := hN10 (by simpa using h); simp [h1])
  case r3hs2 =>
    intro s a' w' hsk hdep hI K hK
    try dsimp only at hI hK
    obtain ⟨v41, v42, v43, v44, v45, v46, v10, hact, hR, hB, hA10, hN10, _⟩ := hI
    subst hact
    have HK := Lib.hid hK
    clear hK
    have kc0 : w'.cell? ⟨w.heap.size, 0, none⟩ = some (.int .i64 a) := (hB.cell (p := ⟨w.heap.size, 0, none⟩) (by first | (simp; done) | omega | (simp; omega))).trans (by first | assumption | (simp; done) | (go_simp; done))
    have kc1 : w'.cell? ⟨w.heap.size, 1, none⟩ = some (.int .i64 b) := (hB.cell (p := ⟨w.heap.size, 1, none⟩) (by first | (simp; done) | omega | (simp; omega))).trans (by first | assumption | (simp; done) | (go_simp; done))
    have kc2 : w'.cell? ⟨w.heap.size + 1, 0, none⟩ = some (.int .i64 c) := (hB.cell (p := ⟨w.heap.size + 1, 0, none⟩) (by first | (simp; done) | omega | (simp; omega))).trans (by first | assumption | (simp; done) | (go_simp; done))
    have kc3 : w'.cell? ⟨w.heap.size + 1, 1, none⟩ = some (.int .i64 d) := (hB.cell (p := ⟨w.heap.size + 1, 1, none⟩) (by first | (simp; done) | omega | (simp; omega))).trans (by first | assumption | (simp; done) | (go_simp; done))
    have kc4 : w'.cell? ⟨g9, 0, none⟩ = some (.int .i64 Q1) := (hB.cell (p := ⟨g9, 0, none⟩) (by first | (simp; done) | omega | (simp; omega))).trans (by first | assumption | (simp; done) | (go_simp; done))
    have kc5 : w'.cell? ⟨g9, 1, none⟩ = some (.int .i64 Q2) := (hB.cell (p := ⟨g9, 1, none⟩) (by first | (simp; done) | omega | (simp; omega))).trans (by first | assumption | (simp; done) | (go_simp; done))
    clear hdep
    refine StepG.mk rfl ?_; rw [ha0]; simp only [putL, Act.put, List.setIfInBounds_toArray, List.set_cons_zero, List.set_cons_succ]
    go_wp2_with fail
    refine HK.out _ _ ?_
    refine ⟨v41, v42, (.agg #[.int .i64 c, .int .i64 d]), v44, v45, v46, v10, (by rw [ha0]; simp only [putL, Act.put, List.setIfInBounds_toArray, List.set_cons_zero, List.set_cons_succ]), ?_, ?_, ?_, ?_, trivial⟩
    · obtain ⟨h41, h42, h43, h44, h45, h46, _⟩ := hR.out
      exact Lib.hid ⟨fun h => h41 (by simpa using h), fun h => h42 (by simpa using h), fun _ => rfl, fun h => h44 (by simpa using h), fun h => h45 (by simpa using h), fun h => h46 (by simpa using h), trivial⟩
    · exact hB
    · intro h; obtain ⟨g, c0, c1, e, hg, hblk, hst⟩ := hA10 (by simpa using h); exact ⟨g, c0, c1, e, hg, hblk, fun h => hst (by simpa using h)⟩
    · exact fun h => (by have h1 := hN10 (by simpa using h); simp [h1])
  case r3hs3 =>
    intro s a' w' hsk hdep hI K hK
    try dsimp only at hI hK
    obtain ⟨v41, v42, v43, v44, v45, v46, v10, hact, hR, hB, hA10, hN10, _⟩ := hI
    subst hact
    have HK := Lib.hid hK
    clear hK
    have e42 : v42 = .agg #[.int .i64 Q1, .int .i64 Q2] := by obtain ⟨h41, h42, h43, h44, h45, h46, _⟩ := hR.out; exact h42 (hdep ⟨1, .data⟩ (by simp) rfl)
    subst e42
    have e43 : v43 = .agg #[.int .i64 c, .int .i64 d] := by obtain ⟨h41, h42, h43, h44, h45, h46, _⟩ := hR.out; exact h43 (hdep ⟨2, .data⟩ (by simp) rfl)
    subst e43
    have kc0 : w'.cell? ⟨w.heap.size, 0, none⟩ = some (.int .i64 a) := (hB.cell (p := ⟨w.heap.size, 0, none⟩) (by first | (simp; done) | omega | (simp; omega))).trans (by first | assumption | (simp; done) | (go_simp; done))
    have kc1 : w'.cell? ⟨w.heap.size, 1, none⟩ = some (.int .i64 b) := (hB.cell (p := ⟨w.heap.size, 1, none⟩) (by first | (simp; done) | omega | (simp; omega))).trans (by first | assumption | (simp; done) | (go_simp; done))
    have kc2 : w'.cell? ⟨w.heap.size + 1, 0, none⟩ = some (.int .i64 c) := (hB.cell (p := ⟨w.heap.size + 1, 0, none⟩) (by first | (simp; done) | omega | (simp; omega))).trans (by first | assumption | (simp; done) | (go_simp; done))
    have kc3 : w'.cell? ⟨w.heap.size + 1, 1, none⟩ = some (.int .i64 d) := (hB.cell (p := ⟨w.heap.size + 1, 1, none⟩) (by first | (simp; done) | omega | (simp; omega))).trans (by first | assumption | (simp; done) | (go_simp; done))
    have kc4 : w'.cell? ⟨g9, 0, none⟩ = some (.int .i64 Q1) := (hB.cell (p := ⟨g9, 0, none⟩) (by first | (simp; done) | omega | (simp; omega))).trans (by first | assumption | (simp; done) | (go_simp; done))
    have kc5 : w'.cell? ⟨g9, 1, none⟩ = some (.int .i64 Q2) := (hB.cell (p := ⟨g9, 1, none⟩) (by first | (simp; done) | omega | (simp; omega))).trans (by first | assumption | (simp; done) | (go_simp; done))
    clear hdep
    refine StepG.mk rfl ?_; rw [ha0]; simp only [putL, Act.put, List.setIfInBounds_toArray, List.set_cons_zero, List.set_cons_succ]
    go_wp2_with fail
    refine (N3.out _).mono ?_
    rintro e wn ⟨rfl, hb⟩
    go_wp2_with fail
    refine HK.out _ _ ?_
    refine ⟨v41, (.agg #[.int .i64 Q1, .int .i64 Q2]), (.agg #[.int .i64 c, .int .i64 d]), (.agg #[.int .i64 Pa, .int .i64 Pb]), v45, v46, v10, (by rw [ha0]; simp only [putL, Act.put, List.setIfInBounds_toArray, List.set_cons_zero, List.set_cons_succ]), ?_, ?_, ?_, ?_, trivial⟩
    · obtain ⟨h41, h42, h43, h44, h45, h46, _⟩ := hR.out
      exact Lib.hid ⟨fun h => h41 (by simpa using h), fun _ => rfl, fun _ => rfl, fun _ => rfl, fun h => h45 (by simpa using h), fun h => h46 (by simpa using h), trivial⟩
    · exact bl_call hB hb hB.size
    · intro h; obtain ⟨g, c0, c1, e, hg, hblk, hst⟩ := hA10 (by simpa using h); exact ⟨g, c0, c1, e, hg, (hb.block g (blk_lt hblk)).trans hblk, fun h => hst (by simpa using h)⟩
    · exact fun h => (by have h1 := hN10 (by simpa using h); simp [h1])
  case r3hs4 =>
    intro s a' w' hsk hdep hI K hK
    try dsimp only at hI hK
    obtain ⟨v41, v42, v43, v44, v45, v46, v10, hact, hR, hB, hA10, hN10, _⟩ := hI
    subst hact
    have HK := Lib.hid hK
    clear hK
    have e44 : v44 = .agg #[.int .i64 Pa, .int .i64 Pb] := by obtain ⟨h41, h42, h43, h44, h45, h46, _⟩ := hR.out; exact h44 (hdep ⟨3, .data⟩ (by simp) rfl)
    subst e44
    have kc0 : w'.cell? ⟨w.heap.size, 0, none⟩ = some (.int .i64 a) := (hB.cell (p := ⟨w.heap.size, 0, none⟩) (by first | (simp; done) | omega | (simp; omega))).trans (by first | assumption | (simp; done) | (go_simp; done))
    have kc1 : w'.cell? ⟨w.heap.size, 1, none⟩ = some (.int .i64 b) := (hB.cell (p := ⟨w.heap.size, 1, none⟩) (by first | (simp; done) | omega | (simp; omega))).trans (by first | assumption | (simp; done) | (go_simp; done))
    have kc2 : w'.cell? ⟨w.heap.size + 1, 0, none⟩ = some (.int .i64 c) := (hB.cell (p := ⟨w.heap.size + 1, 0, none⟩) (by first | (simp; done) | omega | (simp; omega))).trans (by first | assumption | (simp; done) | (go_simp; done))
    have kc3 : w'.cell? ⟨w.heap.size + 1, 1, none⟩ = some (.int .i64 d) := (hB.cell (p := ⟨w.heap.size + 1, 1, none⟩) (by first | (simp; done) | omega | (simp; omega))).trans (by first | assumption | (simp; done) | (go_simp; done))
    have kc4 : w'.cell? ⟨g9, 0, none⟩ = some (.int .i64 Q1) := (hB.cell (p := ⟨g9, 0, none⟩) (by first | (simp; done) | omega | (simp; omega))).trans (by first | assumption | (simp; done) | (go_simp; done))
    have kc5 : w'.cell? ⟨g9, 1, none⟩ = some (.int .i64 Q2) := (hB.cell (p := ⟨g9, 1, none⟩) (by first | (simp; done) | omega | (simp; omega))).trans (by first | assumption | (simp; done) | (go_simp; done))
    clear hdep
    refine StepG.mk rfl ?_; rw [ha0]; simp only [putL, Act.put, List.setIfInBounds_toArray, List.set_cons_zero, List.set_cons_succ]
    go_wp2_with fail
    refine (times_any _ _ _ _ (by omega) (by omega) (by omega) (by omega)).mono ?_
    rintro e wn ⟨rfl, hb⟩
    go_wp2_with fail
    refine HK.out _ _ ?_
    refine ⟨v41, v42, v43, (.agg #[.int .i64 Pa, .int .i64 Pb]), (.agg #[.int .i64 (-Pa), .int .i64 (-Pb)]), v46, v10, (by rw [ha0]; simp only [putL, Act.put, List.setIfInBounds_toArray, List.set_cons_zero, List.set_cons_succ]), ?_, ?_, ?_, ?_, trivial⟩
    · obtain ⟨h41, h42, h43, h44, h45, h46, _⟩ := hR.out
      exact Lib.hid ⟨fun h => h41 (by simpa using h), fun h => h42 (by simpa using h), fun h => h43 (by simpa using h), fun _ => rfl, fun _ => rfl, fun h => h46 (by simpa using h), trivial⟩
    · exact bl_call hB hb hB.size
    · intro h; obtain ⟨g, c0, c1, e, hg, hblk, hst⟩ := hA10 (by simpa using h); exact ⟨g, c0, c1, e, hg, (hb.block g (blk_lt hblk)).trans hblk, fun h => hst (by simpa using h)⟩
    · exact fun h => (by have h1 := hN10 (by simpa using h); simp [h1])
  case r3hs5 =>
    intro s a' w' hsk hdep hI K hK
    try dsimp only at hI hK
    obtain ⟨v41, v42, v43, v44, v45, v46, v10, hact, hR, hB, hA10, hN10, _⟩ := hI
    subst hact
    have HK := Lib.hid hK
    clear hK
    have e41 : v41 = .agg #[.int .i64 a, .int .i64 b] := by obtain ⟨h41, h42, h43, h44, h45, h46, _⟩ := hR.out; exact h41 (hdep ⟨0, .data⟩ (by simp) rfl)
    subst e41
    have e45 : v45 = .agg #[.int .i64 (-Pa), .int .i64 (-Pb)] := by obtain ⟨h41, h42, h43, h44, h45, h46, _⟩ := hR.out; exact h45 (hdep ⟨4, .data⟩ (by simp) rfl)
    subst e45
    have kc0 : w'.cell? ⟨w.heap.size, 0, none⟩ = some (.int .i64 a) := (hB.cell (p := ⟨w.heap.size, 0, none⟩) (by first | (simp; done) | omega | (simp; omega))).trans (by first | assumption | (simp; done) | (go_simp; done))
    have kc1 : w'.cell? ⟨w.heap.size, 1, none⟩ = some (.int .i64 b) := (hB.cell (p := ⟨w.heap.size, 1, none⟩) (by first | (simp; done) | omega | (simp; omega))).trans (by first | assumption | (simp; done) | (go_simp; done))
    have kc2 : w'.cell? ⟨w.heap.size + 1, 0, none⟩ = some (.int .i64 c) := (hB.cell (p := ⟨w.heap.size + 1, 0, none⟩) (by first | (simp; done) | omega | (simp; omega))).trans (by first | assumption | (simp; done) | (go_simp; done))
    have kc3 : w'.cell? ⟨w.heap.size + 1, 1, none⟩ = some (.int .i64 d) := (hB.cell (p := ⟨w.heap.size + 1, 1, none⟩) (by first | (simp; done) | omega | (simp; omega))).trans (by first | assumption | (simp; done) | (go_simp; done))
    have kc4 : w'.cell? ⟨g9, 0, none⟩ = some (.int .i64 Q1) := (hB.cell (p := ⟨g9, 0, none⟩) (by first | (simp; done) | omega | (simp; omega))).trans (by first | assumption | (simp; done) | (go_simp; done))
    have kc5 : w'.cell? ⟨g9, 1, none⟩ = some (.int .i64 Q2) := (hB.cell (p := ⟨g9, 1, none⟩) (by first | (simp; done) | omega | (simp; omega))).trans (by first | assumption | (simp; done) | (go_simp; done))
    clear hdep
    refine StepG.mk rfl ?_; rw [ha0]; simp only [putL, Act.put, List.setIfInBounds_toArray, List.set_cons_zero, List.set_cons_succ]
    go_wp2_with fail
    refine (plus_any _ _ _ _ _ (by omega) (by omega) (by omega) (by omega)).mono ?_
    rintro e wn ⟨rfl, hb⟩
    go_wp2_with fail
    refine HK.out _ _ ?_
    refine ⟨(.agg #[.int .i64 a, .int .i64 b]), v42, v43, v44, (.agg #[.int .i64 (-Pa), .int .i64 (-Pb)]), (.agg #[.int .i64 (a + -Pa), .int .i64 (b + -Pb)]), v10, (by rw [ha0]; simp only [putL, Act.put, List.setIfInBounds_toArray, List.set_cons_zero, List.set_cons_succ]), ?_, ?_, ?_, ?_, trivial⟩
    · obtain ⟨h41, h42, h43, h44, h45, h46, _⟩ := hR.out
      exact Lib.hid ⟨fun _ => rfl, fun h => h42 (by simpa using h), fun h => h43 (by simpa using h), fun h => h44 (by simpa using h), fun _ => rfl, fun _ => rfl, trivial⟩
    · exact bl_call hB hb hB.size
    · intro h; obtain ⟨g, c0, c1, e, hg, hblk, hst⟩ := hA10 (by simpa using h); exact ⟨g, c0, c1, e, hg, (hb.block g (blk_lt hblk)).trans hblk, fun h => hst (by simpa using h)⟩
    · exact fun h => (by have h1 := hN10 (by simpa using h); simp [h1])
  case r3hs6 =>
    intro s a' w' hsk hdep hI K hK
    try dsimp only at hI hK
    obtain ⟨v41, v42, v43, v44, v45, v46, v10, hact, hR, hB, hA10, hN10, _⟩ := hI
    subst hact
    have HK := Lib.hid hK
    clear hK
    have kc0 : w'.cell? ⟨w.heap.size, 0, none⟩ = some (.int .i64 a) := (hB.cell (p := ⟨w.heap.size, 0, none⟩) (by first | (simp; done) | omega | (simp; omega))).trans (by first | assumption | (simp; done) | (go_simp; done))
    have kc1 : w'.cell? ⟨w.heap.size, 1, none⟩ = some (.int .i64 b) := (hB.cell (p := ⟨w.heap.size, 1, none⟩) (by first | (simp; done) | omega | (simp; omega))).trans (by first | assumption | (simp; done) | (go_simp; done))
    have kc2 : w'.cell? ⟨w.heap.size + 1, 0, none⟩ = some (.int .i64 c) := (hB.cell (p := ⟨w.heap.size + 1, 0, none⟩) (by first | (simp; done) | omega | (simp; omega))).trans (by first | assumption | (simp; done) | (go_simp; done))
    have kc3 : w'.cell? ⟨w.heap.size + 1, 1, none⟩ = some (.int .i64 d) := (hB.cell (p := ⟨w.heap.size + 1, 1, none⟩) (by first | (simp; done) | omega | (simp; omega))).trans (by first | assumption | (simp; done) | (go_simp; done))
    have kc4 : w'.cell? ⟨g9, 0, none⟩ = some (.int .i64 Q1) := (hB.cell (p := ⟨g9, 0, none⟩) (by first | (simp; done) | omega | (simp; omega))).trans (by first | assumption | (simp; done) | (go_simp; done))
    have kc5 : w'.cell? ⟨g9, 1, none⟩ = some (.int .i64 Q2) := (hB.cell (p := ⟨g9, 1, none⟩) (by first | (simp; done) | omega | (simp; omega))).trans (by first | assumption | (simp; done) | (go_simp; done))
    clear hdep
    refine StepG.mk rfl ?_; rw [ha0]; simp only [putL, Act.put, List.setIfInBounds_toArray, List.set_cons_zero, List.set_cons_succ]
    go_wp2_with fail
    refine HK.out _ _ ?_
    refine ⟨v41, v42, v43, v44, v45, v46, (.pointer (some ⟨w'.heap.size, 0, none⟩)), (by rw [ha0]; simp only [putL, Act.put, List.setIfInBounds_toArray, List.set_cons_zero, List.set_cons_succ]), ?_, ?_, ?_, ?_, trivial⟩
    · obtain ⟨h41, h42, h43, h44, h45, h46, _⟩ := hR.out
      exact Lib.hid ⟨fun h => h41 (by simpa using h), fun h => h42 (by simpa using h), fun h => h43 (by simpa using h), fun h => h44 (by simpa using h), fun h => h45 (by simpa using h), fun h => h46 (by simpa using h), trivial⟩
    · exact hB.alloc hB.size _
    · exact fun _ => ⟨w'.heap.size, .int .i64 0, .int .i64 0, rfl, hB.size, blk_new w' _, fun h => (by have h1 := hN10 (by simpa using h); rw [h1] at hsk; cases hsk)⟩
    · exact fun _ => rfl
  case r3hs7 =>
    intro s a' w' hsk hdep hI K hK
    try dsimp only at hI hK
    obtain ⟨v41, v42, v43, v44, v45, v46, v10, hact, hR, hB, hA10, hN10, _⟩ := hI
    subst hact
    have HK := Lib.hid hK
    clear hK
    have e46 : v46 = .agg #[.int .i64 (a + -Pa), .int .i64 (b + -Pb)] := by obtain ⟨h41, h42, h43, h44, h45, h46, _⟩ := hR.out; exact h46 (hdep ⟨5, .data⟩ (by simp) rfl)
    subst e46
    obtain ⟨g, c0, c1, ev, hg, hblk, hst⟩ := hA10 (hdep ⟨6, .data⟩ (by simp) rfl)
    subst ev
    have kc0 : w'.cell? ⟨w.heap.size, 0, none⟩ = some (.int .i64 a) := (hB.cell (p := ⟨w.heap.size, 0, none⟩) (by first | (simp; done) | omega | (simp; omega))).trans (by first | assumption | (simp; done) | (go_simp; done))
    have kc1 : w'.cell? ⟨w.heap.size, 1, none⟩ = some (.int .i64 b) := (hB.cell (p := ⟨w.heap.size, 1, none⟩) (by first | (simp; done) | omega | (simp; omega))).trans (by first | assumption | (simp; done) | (go_simp; done))
    have kc2 : w'.cell? ⟨w.heap.size + 1, 0, none⟩ = some (.int .i64 c) := (hB.cell (p := ⟨w.heap.size + 1, 0, none⟩) (by first | (simp; done) | omega | (simp; omega))).trans (by first | assumption | (simp; done) | (go_simp; done))
    have kc3 : w'.cell? ⟨w.heap.size + 1, 1, none⟩ = some (.int .i64 d) := (hB.cell (p := ⟨w.heap.size + 1, 1, none⟩) (by first | (simp; done) | omega | (simp; omega))).trans (by first | assumption | (simp; done) | (go_simp; done))
    have kc4 : w'.cell? ⟨g9, 0, none⟩ = some (.int .i64 Q1) := (hB.cell (p := ⟨g9, 0, none⟩) (by first | (simp; done) | omega | (simp; omega))).trans (by first | assumption | (simp; done) | (go_simp; done))
    have kc5 : w'.cell? ⟨g9, 1, none⟩ = some (.int .i64 Q2) := (hB.cell (p := ⟨g9, 1, none⟩) (by first | (simp; done) | omega | (simp; omega))).trans (by first | assumption | (simp; done) | (go_simp; done))
    have kb0 : w'.cell? ⟨g, 0, none⟩ = some c0 := cell_of_row w' g 0 _ _ _ hblk
    have kb1 : w'.cell? ⟨g, 1, none⟩ = some c1 := cell_of_row w' g 1 _ _ _ hblk
    have kf : ∀ o, w'.frozen? ⟨g, o, none⟩ = false := fun o => frozen_of_row w' g o _ _ hblk
    have hBlk := Lib.hid hblk
    clear hblk
    have hdepA : s 6 = true := hdep ⟨6, .data⟩ (by simp) rfl
    clear hdep
    refine StepG.mk rfl ?_; rw [ha0]; simp only [putL, Act.put, List.setIfInBounds_toArray, List.set_cons_zero, List.set_cons_succ]
    go_wp2_with fail
    refine HK.out _ _ ?_
    refine ⟨v41, v42, v43, v44, v45, (.agg #[.int .i64 (a + -Pa), .int .i64 (b + -Pb)]), (.pointer (some ⟨g, 0, none⟩)), (by rw [ha0]; simp only [putL, Act.put, List.setIfInBounds_toArray, List.set_cons_zero, List.set_cons_succ]), ?_, ?_, ?_, ?_, trivial⟩
    · obtain ⟨h41, h42, h43, h44, h45, h46, _⟩ := hR.out
      exact Lib.hid ⟨fun h => h41 (by simpa using h), fun h => h42 (by simpa using h), fun h => h43 (by simpa using h), fun h => h44 (by simpa using h), fun h => h45 (by simpa using h), fun _ => rfl, trivial⟩
    · exact ((hB.setCell (p := ⟨g, 0, none⟩) hg _).setCell (p := ⟨g, 1, none⟩) hg _)
    · exact fun _ => ⟨g, _, _, rfl, hg, blk_set2 hBlk.out, fun _ => ⟨rfl, rfl⟩⟩
    · exact fun _ => (by simp [hdepA])
  intro s a' w5 hall hI
  try dsimp only at hI
  obtain ⟨v41, v42, v43, v44, v45, v46, v10, hact, hR, hBR, hA10, hN10, _⟩ := hI
  subst hact
  obtain ⟨h41, h42, h43, h44, h45, h46, _⟩ := hR.out
  clear hR
  have e41 := h41 (hall 0 (by decide))
  subst e41
  clear h41
  have e42 := h42 (hall 1 (by decide))
  subst e42
  clear h42
  have e43 := h43 (hall 2 (by decide))
  subst e43
  clear h43
  have e44 := h44 (hall 3 (by decide))
  subst e44
  clear h44
  have e45 := h45 (hall 4 (by decide))
  subst e45
  clear h45
  have e46 := h46 (hall 5 (by decide))
  subst e46
  clear h46
  obtain ⟨g10, c0, c1, ev, hg10, hblk10, hst⟩ := hA10 (hall 6 (by decide))
  subst ev
  clear hA10
  obtain ⟨es0, es1⟩ := hst (hall 7 (by decide))
  subst es0
  subst es1
  clear hall
  rw [ha0]; simp only [putL, Act.put, List.setIfInBounds_toArray, List.set_cons_zero, List.set_cons_succ]
  clear ha0
  have hb5 := hBR
  have hb5' := hBR
  clear hBR
  have z5_0 : w.heap.size < w5.heap.size := by have := hb5.size; (try simp at this); omega
  have z5_1 : w.heap.size + 1 < w5.heap.size := by have := hb5.size; (try simp at this); omega
  have z5_2 : w.heap.size + 2 < w5.heap.size := by have := hb5.size; (try simp at this); omega
  have z5_3 : w.heap.size + 3 < w5.heap.size := by have := hb5.size; (try simp at this); omega
  have c5_2_0 : w5.cell? ⟨w.heap.size + 2, 0, none⟩ = some (.int .i64 0) := keep_cell hb5 (by first | assumption | (go_simp; done) | (simp; done) | simp [*])
  have c5_2_1 : w5.cell? ⟨w.heap.size + 2, 1, none⟩ = some (.int .i64 0) := keep_cell hb5 (by first | assumption | (go_simp; done) | (simp; done) | simp [*])
  have c5_3_0 : w5.cell? ⟨w.heap.size + 3, 0, none⟩ = some (.int .i64 0) := keep_cell hb5 (by first | assumption | (go_simp; done) | (simp; done) | simp [*])
  have c5_3_1 : w5.cell? ⟨w.heap.size + 3, 1, none⟩ = some (.int .i64 0) := keep_cell hb5 (by first | assumption | (go_simp; done) | (simp; done) | simp [*])
  have f5_2 : ∀ o, w5.frozen? ⟨w.heap.size + 2, o, none⟩ = false := fun o => (hb5.frozen (p := ⟨w.heap.size + 2, o, none⟩) (by first | assumption | (simp; done) | (simp; omega))).trans (by first | (simp; done) | (go_simp; done) | simp [*])
  have f5_3 : ∀ o, w5.frozen? ⟨w.heap.size + 3, o, none⟩ = false := fun o => (hb5.frozen (p := ⟨w.heap.size + 3, o, none⟩) (by first | assumption | (simp; done) | (simp; omega))).trans (by first | (simp; done) | (go_simp; done) | simp [*])
  have B5 : Below w.heap.size w w5 := bl_call (by repeat (first | exact Below.refl _ _ | exact Nat.le_refl _ | refine Below.alloc ?_ ?_ _ | refine Below.setCell ?_ ?_ _ | refine Below.drew ?_ | refine bl_drewN ?_ _ | (assumption) | refine bl_call ?_ (by assumption) ?_ | omega | (simp <;> omega))) hb5 (by first | assumption | (simp; done) | (simp; omega) | omega)
  clear hb5
  have hsz_5 := B5.size
  clear z4_0 z4_1 z4_2 c4_0_0 c4_0_1 c4_1_0 c4_1_1 c4_2_0 c4_2_1 c4_3_0 c4_3_1 f4_2 f4_3 B4
  have hg10' : w.heap.size + 3 < g10 := by omega
  have hgne : g9 ≠ g10 := by omega
  have kq0' : w5.cell? ⟨g9, 0, none⟩ = some (.int .i64 Q1) := (hb5'.cell (p := ⟨g9, 0, none⟩) hg9s).trans kq0
  have kq1' : w5.cell? ⟨g9, 1, none⟩ = some (.int .i64 Q2) := (hb5'.cell (p := ⟨g9, 1, none⟩) hg9s).trans kq1
  have kr0 : w5.cell? ⟨g10, 0, none⟩ = some (.int .i64 (a + -Pa)) := cell_of_row w5 g10 0 _ _ _ hblk10
  have kr1 : w5.cell? ⟨g10, 1, none⟩ = some (.int .i64 (b + -Pb)) := cell_of_row w5 g10 1 _ _ _ hblk10
  have hg10s : g10 < w5.heap.size := blk_lt hblk10
  have hg9t : g9 < w5.heap.size := by have := hb5'.size; omega
  clear hblk10 hg10 z4_3 kq0 kq1 hg9s hb5'
  cases hn1 : isN Q1 Q2
  · rw [hn1, Bool.false_and] at HV
    have HN1 := Lib.hid hn1; clear hn1
    go_wp2_with fail
    refine (isNum _ _ _).mono ?_
    rintro e w6 ⟨rfl, hb6⟩
    have z6_0 : w.heap.size < w6.heap.size := by have := hb6.size; (try simp at this); omega
    have z6_1 : w.heap.size + 1 < w6.heap.size := by have := hb6.size; (try simp at this); omega
    have z6_2 : w.heap.size + 2 < w6.heap.size := by have := hb6.size; (try simp at this); omega
    have z6_3 : w.heap.size + 3 < w6.heap.size := by have := hb6.size; (try simp at this); omega
    have c6_2_0 : w6.cell? ⟨w.heap.size + 2, 0, none⟩ = some (.int .i64 0) := keep_cell hb6 (by first | assumption | (go_simp; done) | (simp; done) | simp [*])
    have c6_2_1 : w6.cell? ⟨w.heap.size + 2, 1, none⟩ = some (.int .i64 0) := keep_cell hb6 (by first | assumption | (go_simp; done) | (simp; done) | simp [*])
    have c6_3_0 : w6.cell? ⟨w.heap.size + 3, 0, none⟩ = some (.int .i64 0) := keep_cell hb6 (by first | assumption | (go_simp; done) | (simp; done) | simp [*])
    have c6_3_1 : w6.cell? ⟨w.heap.size + 3, 1, none⟩ = some (.int .i64 0) := keep_cell hb6 (by first | assumption | (go_simp; done) | (simp; done) | simp [*])
    have f6_2 : ∀ o, w6.frozen? ⟨w.heap.size + 2, o, none⟩ = false := fun o => (hb6.frozen (p := ⟨w.heap.size + 2, o, none⟩) (by first | assumption | (simp; done) | (simp; omega))).trans (by first | (simp; done) | (go_simp; done) | simp [*])
    have f6_3 : ∀ o, w6.frozen? ⟨w.heap.size + 3, o, none⟩ = false := fun o => (hb6.frozen (p := ⟨w.heap.size + 3, o, none⟩) (by first | assumption | (simp; done) | (simp; omega))).trans (by first | (simp; done) | (go_simp; done) | simp [*])
    have B6 : Below w.heap.size w w6 := bl_call (by repeat (first | exact Below.refl _ _ | exact Nat.le_refl _ | refine Below.alloc ?_ ?_ _ | refine Below.setCell ?_ ?_ _ | refine Below.drew ?_ | refine bl_drewN ?_ _ | (assumption) | refine bl_call ?_ (by assumption) ?_ | omega | (simp <;> omega))) hb6 (by first | assumption | (simp; done) | (simp; omega) | omega)
    clear hb6
    have hsz_6 := B6.size
    rw [HN1.out]
    go_wp2_with fail
    exact bodyPost_ret (v := .tuple #[.agg #[.int .i64 0, .int .i64 0], .agg #[.int .i64 0, .int .i64 0], .int .i64 5]) (by simp [results, Tryd.results50, go_sem, *]) rfl ⟨by rw [HV.out]; rfl, (by repeat (first | exact Below.refl _ _ | exact Nat.le_refl _ | refine Below.alloc ?_ ?_ _ | refine Below.setCell ?_ ?_ _ | refine Below.drew ?_ | refine bl_drewN ?_ _ | (assumption) | refine bl_call ?_ (by assumption) ?_ | omega | (simp <;> omega)))⟩
  · rw [hn1, Bool.true_and] at HV
    have HN1 := Lib.hid hn1; clear hn1
    cases hn2 : isN (a + -Pa) (b + -Pb)
    · rw [hn2] at HV
      have HN2 := Lib.hid hn2; clear hn2
      go_wp2_with fail
      refine (isNum _ _ _).mono ?_
      rintro e w6 ⟨rfl, hb6⟩
      have z6_0 : w.heap.size < w6.heap.size := by have := hb6.size; (try simp at this); omega
      have z6_1 : w.heap.size + 1 < w6.heap.size := by have := hb6.size; (try simp at this); omega
      have z6_2 : w.heap.size + 2 < w6.heap.size := by have := hb6.size; (try simp at this); omega
      have z6_3 : w.heap.size + 3 < w6.heap.size := by have := hb6.size; (try simp at this); omega
      have c6_2_0 : w6.cell? ⟨w.heap.size + 2, 0, none⟩ = some (.int .i64 0) := keep_cell hb6 (by first | assumption | (go_simp; done) | (simp; done) | simp [*])
      have c6_2_1 : w6.cell? ⟨w.heap.size + 2, 1, none⟩ = some (.int .i64 0) := keep_cell hb6 (by first | assumption | (go_simp; done) | (simp; done) | simp [*])
      have c6_3_0 : w6.cell? ⟨w.heap.size + 3, 0, none⟩ = some (.int .i64 0) := keep_cell hb6 (by first | assumption | (go_simp; done) | (simp; done) | simp [*])
      have c6_3_1 : w6.cell? ⟨w.heap.size + 3, 1, none⟩ = some (.int .i64 0) := keep_cell hb6 (by first | assumption | (go_simp; done) | (simp; done) | simp [*])
      have f6_2 : ∀ o, w6.frozen? ⟨w.heap.size + 2, o, none⟩ = false := fun o => (hb6.frozen (p := ⟨w.heap.size + 2, o, none⟩) (by first | assumption | (simp; done) | (simp; omega))).trans (by first | (simp; done) | (go_simp; done) | simp [*])
      have f6_3 : ∀ o, w6.frozen? ⟨w.heap.size + 3, o, none⟩ = false := fun o => (hb6.frozen (p := ⟨w.heap.size + 3, o, none⟩) (by first | assumption | (simp; done) | (simp; omega))).trans (by first | (simp; done) | (go_simp; done) | simp [*])
      have kg106_0 : w6.cell? ⟨g10, 0, none⟩ = some (.int .i64 (a + -Pa)) := keep_cell hb6 (by first | assumption | (go_simp; done) | (simp; done) | simp [*])
      have hsg106 : g10 < w6.heap.size := by have := hb6.size; (try simp at this); omega
      have kg106_1 : w6.cell? ⟨g10, 1, none⟩ = some (.int .i64 (b + -Pb)) := keep_cell hb6 (by first | assumption | (go_simp; done) | (simp; done) | simp [*])
      have B6 : Below w.heap.size w w6 := bl_call (by repeat (first | exact Below.refl _ _ | exact Nat.le_refl _ | refine Below.alloc ?_ ?_ _ | refine Below.setCell ?_ ?_ _ | refine Below.drew ?_ | refine bl_drewN ?_ _ | (assumption) | refine bl_call ?_ (by assumption) ?_ | omega | (simp <;> omega))) hb6 (by first | assumption | (simp; done) | (simp; omega) | omega)
      clear hb6
      have hsz_6 := B6.size
      rw [HN1.out]
      go_wp2_with fail
      refine (isNum _ _ _).mono ?_
      rintro e w7 ⟨rfl, hb7⟩
      have z7_0 : w.heap.size < w7.heap.size := by have := hb7.size; (try simp at this); omega
      have z7_1 : w.heap.size + 1 < w7.heap.size := by have := hb7.size; (try simp at this); omega
      have z7_2 : w.heap.size + 2 < w7.heap.size := by have := hb7.size; (try simp at this); omega
      have z7_3 : w.heap.size + 3 < w7.heap.size := by have := hb7.size; (try simp at this); omega
      have c7_2_0 : w7.cell? ⟨w.heap.size + 2, 0, none⟩ = some (.int .i64 0) := keep_cell hb7 (by first | assumption | (go_simp; done) | (simp; done) | simp [*])
      have c7_2_1 : w7.cell? ⟨w.heap.size + 2, 1, none⟩ = some (.int .i64 0) := keep_cell hb7 (by first | assumption | (go_simp; done) | (simp; done) | simp [*])
      have c7_3_0 : w7.cell? ⟨w.heap.size + 3, 0, none⟩ = some (.int .i64 0) := keep_cell hb7 (by first | assumption | (go_simp; done) | (simp; done) | simp [*])
      have c7_3_1 : w7.cell? ⟨w.heap.size + 3, 1, none⟩ = some (.int .i64 0) := keep_cell hb7 (by first | assumption | (go_simp; done) | (simp; done) | simp [*])
      have f7_2 : ∀ o, w7.frozen? ⟨w.heap.size + 2, o, none⟩ = false := fun o => (hb7.frozen (p := ⟨w.heap.size + 2, o, none⟩) (by first | assumption | (simp; done) | (simp; omega))).trans (by first | (simp; done) | (go_simp; done) | simp [*])
      have f7_3 : ∀ o, w7.frozen? ⟨w.heap.size + 3, o, none⟩ = false := fun o => (hb7.frozen (p := ⟨w.heap.size + 3, o, none⟩) (by first | assumption | (simp; done) | (simp; omega))).trans (by first | (simp; done) | (go_simp; done) | simp [*])
      have B7 : Below w.heap.size w w7 := bl_call (by repeat (first | exact Below.refl _ _ | exact Nat.le_refl _ | refine Below.alloc ?_ ?_ _ | refine Below.setCell ?_ ?_ _ | refine Below.drew ?_ | refine bl_drewN ?_ _ | (assumption) | refine bl_call ?_ (by assumption) ?_ | omega | (simp <;> omega))) hb7 (by first | assumption | (simp; done) | (simp; omega) | omega)
      clear hb7
      have hsz_7 := B7.size
      rw [HN2.out]
      go_wp2_with fail
      exact bodyPost_ret (v := .tuple #[.agg #[.int .i64 0, .int .i64 0], .agg #[.int .i64 0, .int .i64 0], .int .i64 5]) (by simp [results, Tryd.results50, go_sem, *]) rfl ⟨by rw [HV.out]; rfl, (by repeat (first | exact Below.refl _ _ | exact Nat.le_refl _ | refine Below.alloc ?_ ?_ _ | refine Below.setCell ?_ ?_ _ | refine Below.drew ?_ | refine bl_drewN ?_ _ | (assumption) | refine bl_call ?_ (by assumption) ?_ | omega | (simp <;> omega)))⟩
    · rw [hn2] at HV
      have HN2 := Lib.hid hn2; clear hn2
      go_wp2_with fail
      refine (isNum _ _ _).mono ?_
      rintro e w6 ⟨rfl, hb6⟩
      have z6_0 : w.heap.size < w6.heap.size := by have := hb6.size; (try simp at this); omega
      have z6_1 : w.heap.size + 1 < w6.heap.size := by have := hb6.size; (try simp at this); omega
      have z6_2 : w.heap.size + 2 < w6.heap.size := by have := hb6.size; (try simp at this); omega
      have z6_3 : w.heap.size + 3 < w6.heap.size := by have := hb6.size; (try simp at this); omega
      have c6_2_0 : w6.cell? ⟨w.heap.size + 2, 0, none⟩ = some (.int .i64 0) := keep_cell hb6 (by first | assumption | (go_simp; done) | (simp; done) | simp [*])
      have c6_2_1 : w6.cell? ⟨w.heap.size + 2, 1, none⟩ = some (.int .i64 0) := keep_cell hb6 (by first | assumption | (go_simp; done) | (simp; done) | simp [*])
      have c6_3_0 : w6.cell? ⟨w.heap.size + 3, 0, none⟩ = some (.int .i64 0) := keep_cell hb6 (by first | assumption | (go_simp; done) | (simp; done) | simp [*])
      have c6_3_1 : w6.cell? ⟨w.heap.size + 3, 1, none⟩ = some (.int .i64 0) := keep_cell hb6 (by first | assumption | (go_simp; done) | (simp; done) | simp [*])
      have f6_2 : ∀ o, w6.frozen? ⟨w.heap.size + 2, o, none⟩ = false := fun o => (hb6.frozen (p := ⟨w.heap.size + 2, o, none⟩) (by first | assumption | (simp; done) | (simp; omega))).trans (by first | (simp; done) | (go_simp; done) | simp [*])
      have f6_3 : ∀ o, w6.frozen? ⟨w.heap.size + 3, o, none⟩ = false := fun o => (hb6.frozen (p := ⟨w.heap.size + 3, o, none⟩) (by first | assumption | (simp; done) | (simp; omega))).trans (by first | (simp; done) | (go_simp; done) | simp [*])
      have kg106_0 : w6.cell? ⟨g10, 0, none⟩ = some (.int .i64 (a + -Pa)) := keep_cell hb6 (by first | assumption | (go_simp; done) | (simp; done) | simp [*])
      have hsg106 : g10 < w6.heap.size := by have := hb6.size; (try simp at this); omega
      have kg106_1 : w6.cell? ⟨g10, 1, none⟩ = some (.int .i64 (b + -Pb)) := keep_cell hb6 (by first | assumption | (go_simp; done) | (simp; done) | simp [*])
      have kg96_0 : w6.cell? ⟨g9, 0, none⟩ = some (.int .i64 Q1) := keep_cell hb6 (by first | assumption | (go_simp; done) | (simp; done) | simp [*])
      have hsg96 : g9 < w6.heap.size := by have := hb6.size; (try simp at this); omega
      have kg96_1 : w6.cell? ⟨g9, 1, none⟩ = some (.int .i64 Q2) := keep_cell hb6 (by first | assumption | (go_simp; done) | (simp; done) | simp [*])
      have B6 : Below w.heap.size w w6 := bl_call (by repeat (first | exact Below.refl _ _ | exact Nat.le_refl _ | refine Below.alloc ?_ ?_ _ | refine Below.setCell ?_ ?_ _ | refine Below.drew ?_ | refine bl_drewN ?_ _ | (assumption) | refine bl_call ?_ (by assumption) ?_ | omega | (simp <;> omega))) hb6 (by first | assumption | (simp; done) | (simp; omega) | omega)
      clear hb6
      have hsz_6 := B6.size
      rw [HN1.out]
      go_wp2_with fail
      refine (isNum _ _ _).mono ?_
      rintro e w7 ⟨rfl, hb7⟩
      have z7_0 : w.heap.size < w7.heap.size := by have := hb7.size; (try simp at this); omega
      have z7_1 : w.heap.size + 1 < w7.heap.size := by have := hb7.size; (try simp at this); omega
      have z7_2 : w.heap.size + 2 < w7.heap.size := by have := hb7.size; (try simp at this); omega
      have z7_3 : w.heap.size + 3 < w7.heap.size := by have := hb7.size; (try simp at this); omega
      have c7_2_0 : w7.cell? ⟨w.heap.size + 2, 0, none⟩ = some (.int .i64 0) := keep_cell hb7 (by first | assumption | (go_simp; done) | (simp; done) | simp [*])
      have c7_2_1 : w7.cell? ⟨w.heap.size + 2, 1, none⟩ = some (.int .i64 0) := keep_cell hb7 (by first | assumption | (go_simp; done) | (simp; done) | simp [*])
      have c7_3_0 : w7.cell? ⟨w.heap.size + 3, 0, none⟩ = some (.int .i64 0) := keep_cell hb7 (by first | assumption | (go_simp; done) | (simp; done) | simp [*])
      have c7_3_1 : w7.cell? ⟨w.heap.size + 3, 1, none⟩ = some (.int .i64 0) := keep_cell hb7 (by first | assumption | (go_simp; done) | (simp; done) | simp [*])
      have f7_2 : ∀ o, w7.frozen? ⟨w.heap.size + 2, o, none⟩ = false := fun o => (hb7.frozen (p := ⟨w.heap.size + 2, o, none⟩) (by first | assumption | (simp; done) | (simp; omega))).trans (by first | (simp; done) | (go_simp; done) | simp [*])
      have f7_3 : ∀ o, w7.frozen? ⟨w.heap.size + 3, o, none⟩ = false := fun o => (hb7.frozen (p := ⟨w.heap.size + 3, o, none⟩) (by first | assumption | (simp; done) | (simp; omega))).trans (by first | (simp; done) | (go_simp; done) | simp [*])
      have kg107_0 : w7.cell? ⟨g10, 0, none⟩ = some (.int .i64 (a + -Pa)) := keep_cell hb7 (by first | assumption | (go_simp; done) | (simp; done) | simp [*])
      have hsg107 : g10 < w7.heap.size := by have := hb7.size; (try simp at this); omega
      have kg107_1 : w7.cell? ⟨g10, 1, none⟩ = some (.int .i64 (b + -Pb)) := keep_cell hb7 (by first | assumption | (go_simp; done) | (simp; done) | simp [*])
      have kg97_0 : w7.cell? ⟨g9, 0, none⟩ = some (.int .i64 Q1) := keep_cell hb7 (by first | assumption | (go_simp; done) | (simp; done) | simp [*])
      have hsg97 : g9 < w7.heap.size := by have := hb7.size; (try simp at this); omega
      have kg97_1 : w7.cell? ⟨g9, 1, none⟩ = some (.int .i64 Q2) := keep_cell hb7 (by first | assumption | (go_simp; done) | (simp; done) | simp [*])
      have B7 : Below w.heap.size w w7 := bl_call (by repeat (first | exact Below.refl _ _ | exact Nat.le_refl _ | refine Below.alloc ?_ ?_ _ | refine Below.setCell ?_ ?_ _ | refine Below.drew ?_ | refine bl_drewN ?_ _ | (assumption) | refine bl_call ?_ (by assumption) ?_ | omega | (simp <;> omega))) hb7 (by first | assumption | (simp; done) | (simp; omega) | omega)
      clear hb7
      have hsz_7 := B7.size
      rw [HN2.out]
      go_wp2_with fail
      go_region
      all_goals go_wp2_with fail
      all_goals exact bodyPost_ret (v := .tuple #[.agg #[.int .i64 Q1, .int .i64 Q2], .agg #[.int .i64 (a + -Pa), .int .i64 (b + -Pb)], .int .i64 0]) (by simp [results, Tryd.results50, go_sem, *]) rfl ⟨by rw [HV.out]; rfl, (by repeat (first | exact Below.refl _ _ | exact Nat.le_refl _ | refine Below.alloc ?_ ?_ _ | refine Below.setCell ?_ ?_ _ | refine Below.drew ?_ | refine bl_drewN ?_ _ | (assumption) | refine bl_call ?_ (by assumption) ?_ | omega | (simp <;> omega)))⟩
end Go.Proofs.YtgocloilagcfoabDoor
