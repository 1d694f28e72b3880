/- GaugeDivides: for every two numbers the law returns true. -/
import Derived.Test.YtgocloilagcfoaaDoorL1
import Derived.Test.YtgocloilagcfoaaDoorR2
import Derived.Test.YtgocloilagcfoaaDoorF1
namespace Go.Proofs.YtgocloilagcfoaaDoor
open Go.RowKit
attribute [local go_sem ↓] Go.wp_at_zero Go.wp_at_succ

set_option maxRecDepth 100000 in
set_option maxHeartbeats 4000000 in
theorem GaugeDivides_walk (a b c d : Int) (w : World) (_ : -9223372036854775808 ≤ a ∧ a ≤ 9223372036854775807) (_ : -9223372036854775808 ≤ b ∧ b ≤ 9223372036854775807) (_ : -9223372036854775808 ≤ c ∧ c ≤ 9223372036854775807) (_ : -9223372036854775808 ≤ d ∧ d ≤ 9223372036854775807) :
    Calls Tryd.prog 4 #[.agg #[.int .i64 a, .int .i64 b], .agg #[.int .i64 c, .int .i64 d]] w fun e w' => e = .returned (.bool true) ∧ Below w.heap.size w w' := by
  by_cases h1 : isN a b = true
  · by_cases h2 : isN c d = true
    · by_cases h3 : c = 0 ∧ d = 0
      · obtain ⟨rfl, rfl⟩ := h3
        have HC := Lib.hid (fun wx => Divide_no a b 0 0 wx (.inr ⟨rfl, rfl⟩))
        have H1 := Lib.hid h1; clear h1
        have H2 := Lib.hid h2; clear h2
        go_enter Tryd.func4, Tryd.ntmps4
        go_wp2_with fail
        refine (HC.out _).mono ?_
        rintro e w1 ⟨rfl, hb1⟩
        have z1_0 : w.heap.size < w1.heap.size := by have := hb1.size; (try simp at this); omega
        have z1_1 : w.heap.size + 1 < w1.heap.size := by have := hb1.size; (try simp at this); omega
        have cew_heap_size1_0 : w1.cell? ⟨w.heap.size, 0, none⟩ = some (.int .i64 a) := keep_cell hb1 (by first | assumption | (go_simp; done) | (simp; done) | simp [*])
        have zew_heap_size1 : w.heap.size < w1.heap.size := block_lt_of_cell cew_heap_size1_0
        have cew_heap_size1_1 : w1.cell? ⟨w.heap.size, 1, none⟩ = some (.int .i64 b) := keep_cell hb1 (by first | assumption | (go_simp; done) | (simp; done) | simp [*])
        have cew_heap_size_11_0 : w1.cell? ⟨w.heap.size + 1, 0, none⟩ = some (.int .i64 0) := keep_cell hb1 (by first | assumption | (go_simp; done) | (simp; done) | simp [*])
        have zew_heap_size_11 : w.heap.size + 1 < w1.heap.size := block_lt_of_cell cew_heap_size_11_0
        have cew_heap_size_11_1 : w1.cell? ⟨w.heap.size + 1, 1, none⟩ = some (.int .i64 0) := keep_cell hb1 (by first | assumption | (go_simp; done) | (simp; done) | simp [*])
        have B1 : Below w.heap.size w w1 := bl_call (by repeat (first | exact Below.refl _ _ | exact Nat.le_refl _ | refine Below.alloc ?_ ?_ _ | refine Below.setCell ?_ ?_ _ | refine Below.drew ?_ | refine bl_drewN ?_ _ | (assumption) | refine bl_call ?_ (by assumption) ?_ | omega | (simp <;> omega))) hb1 (by first | assumption | (simp; done) | (simp; omega) | omega)
        clear hb1
        have hsz_1 := B1.size
        go_wp2_with fail
        refine (refNumber _ _ _).mono ?_
        rintro e w2 ⟨rfl, hb2⟩
        have z2_0 : w.heap.size < w2.heap.size := by have := hb2.size; (try simp at this); omega
        have z2_1 : w.heap.size + 1 < w2.heap.size := by have := hb2.size; (try simp at this); omega
        have cew_heap_size2_0 : w2.cell? ⟨w.heap.size, 0, none⟩ = some (.int .i64 a) := keep_cell hb2 (by first | assumption | (go_simp; done) | (simp; done) | simp [*])
        have zew_heap_size2 : w.heap.size < w2.heap.size := block_lt_of_cell cew_heap_size2_0
        have cew_heap_size2_1 : w2.cell? ⟨w.heap.size, 1, none⟩ = some (.int .i64 b) := keep_cell hb2 (by first | assumption | (go_simp; done) | (simp; done) | simp [*])
        have cew_heap_size_12_0 : w2.cell? ⟨w.heap.size + 1, 0, none⟩ = some (.int .i64 0) := keep_cell hb2 (by first | assumption | (go_simp; done) | (simp; done) | simp [*])
        have zew_heap_size_12 : w.heap.size + 1 < w2.heap.size := block_lt_of_cell cew_heap_size_12_0
        have cew_heap_size_12_1 : w2.cell? ⟨w.heap.size + 1, 1, none⟩ = some (.int .i64 0) := keep_cell hb2 (by first | assumption | (go_simp; done) | (simp; done) | simp [*])
        have cew1_heap_size2_0 : w2.cell? ⟨w1.heap.size, 0, none⟩ = some (.int .i64 0) := keep_cell hb2 (by first | assumption | (go_simp; done) | (simp; done) | simp [*])
        have zew1_heap_size2 : w1.heap.size < w2.heap.size := block_lt_of_cell cew1_heap_size2_0
        have cew1_heap_size2_1 : w2.cell? ⟨w1.heap.size, 1, none⟩ = some (.int .i64 0) := keep_cell hb2 (by first | assumption | (go_simp; done) | (simp; done) | simp [*])
        have cew1_heap_size_12_0 : w2.cell? ⟨w1.heap.size + 1, 0, none⟩ = some (.int .i64 0) := keep_cell hb2 (by first | assumption | (go_simp; done) | (simp; done) | simp [*])
        have zew1_heap_size_12 : w1.heap.size + 1 < w2.heap.size := block_lt_of_cell cew1_heap_size_12_0
        have cew1_heap_size_12_1 : w2.cell? ⟨w1.heap.size + 1, 1, none⟩ = some (.int .i64 0) := keep_cell hb2 (by first | assumption | (go_simp; done) | (simp; done) | simp [*])
        have B2 : Below w.heap.size w w2 := bl_call (by repeat (first | exact Below.refl _ _ | exact Nat.le_refl _ | refine Below.alloc ?_ ?_ _ | refine Below.setCell ?_ ?_ _ | refine Below.drew ?_ | refine bl_drewN ?_ _ | (assumption) | refine bl_call ?_ (by assumption) ?_ | omega | (simp <;> omega))) hb2 (by first | assumption | (simp; done) | (simp; omega) | omega)
        clear hb2
        have hsz_2 := B2.size
        rw [H1.out]
        go_wp2_with fail
        refine (refNumber _ _ _).mono ?_
        rintro e w3 ⟨rfl, hb3⟩
        have z3_0 : w.heap.size < w3.heap.size := by have := hb3.size; (try simp at this); omega
        have z3_1 : w.heap.size + 1 < w3.heap.size := by have := hb3.size; (try simp at this); omega
        have cew_heap_size3_0 : w3.cell? ⟨w.heap.size, 0, none⟩ = some (.int .i64 a) := keep_cell hb3 (by first | assumption | (go_simp; done) | (simp; done) | simp [*])
        have zew_heap_size3 : w.heap.size < w3.heap.size := block_lt_of_cell cew_heap_size3_0
        have cew_heap_size3_1 : w3.cell? ⟨w.heap.size, 1, none⟩ = some (.int .i64 b) := keep_cell hb3 (by first | assumption | (go_simp; done) | (simp; done) | simp [*])
        have cew_heap_size_13_0 : w3.cell? ⟨w.heap.size + 1, 0, none⟩ = some (.int .i64 0) := keep_cell hb3 (by first | assumption | (go_simp; done) | (simp; done) | simp [*])
        have zew_heap_size_13 : w.heap.size + 1 < w3.heap.size := block_lt_of_cell cew_heap_size_13_0
        have cew_heap_size_13_1 : w3.cell? ⟨w.heap.size + 1, 1, none⟩ = some (.int .i64 0) := keep_cell hb3 (by first | assumption | (go_simp; done) | (simp; done) | simp [*])
        have cew1_heap_size3_0 : w3.cell? ⟨w1.heap.size, 0, none⟩ = some (.int .i64 0) := keep_cell hb3 (by first | assumption | (go_simp; done) | (simp; done) | simp [*])
        have zew1_heap_size3 : w1.heap.size < w3.heap.size := block_lt_of_cell cew1_heap_size3_0
        have cew1_heap_size3_1 : w3.cell? ⟨w1.heap.size, 1, none⟩ = some (.int .i64 0) := keep_cell hb3 (by first | assumption | (go_simp; done) | (simp; done) | simp [*])
        have cew1_heap_size_13_0 : w3.cell? ⟨w1.heap.size + 1, 0, none⟩ = some (.int .i64 0) := keep_cell hb3 (by first | assumption | (go_simp; done) | (simp; done) | simp [*])
        have zew1_heap_size_13 : w1.heap.size + 1 < w3.heap.size := block_lt_of_cell cew1_heap_size_13_0
        have cew1_heap_size_13_1 : w3.cell? ⟨w1.heap.size + 1, 1, none⟩ = some (.int .i64 0) := keep_cell hb3 (by first | assumption | (go_simp; done) | (simp; done) | simp [*])
        have B3 : Below w.heap.size w w3 := bl_call (by repeat (first | exact Below.refl _ _ | exact Nat.le_refl _ | refine Below.alloc ?_ ?_ _ | refine Below.setCell ?_ ?_ _ | refine Below.drew ?_ | refine bl_drewN ?_ _ | (assumption) | refine bl_call ?_ (by assumption) ?_ | omega | (simp <;> omega))) hb3 (by first | assumption | (simp; done) | (simp; omega) | omega)
        clear hb3
        have hsz_3 := B3.size
        rw [H2.out]
        go_wp2_with fail
        refine (awake_any _).mono ?_
        rintro e w4 ⟨rfl, hb4⟩
        have z4_0 : w.heap.size < w4.heap.size := by have := hb4.size; (try simp at this); omega
        have z4_1 : w.heap.size + 1 < w4.heap.size := by have := hb4.size; (try simp at this); omega
        have cew_heap_size4_0 : w4.cell? ⟨w.heap.size, 0, none⟩ = some (.int .i64 a) := keep_cell hb4 (by first | assumption | (go_simp; done) | (simp; done) | simp [*])
        have zew_heap_size4 : w.heap.size < w4.heap.size := block_lt_of_cell cew_heap_size4_0
        have cew_heap_size4_1 : w4.cell? ⟨w.heap.size, 1, none⟩ = some (.int .i64 b) := keep_cell hb4 (by first | assumption | (go_simp; done) | (simp; done) | simp [*])
        have cew_heap_size_14_0 : w4.cell? ⟨w.heap.size + 1, 0, none⟩ = some (.int .i64 0) := keep_cell hb4 (by first | assumption | (go_simp; done) | (simp; done) | simp [*])
        have zew_heap_size_14 : w.heap.size + 1 < w4.heap.size := block_lt_of_cell cew_heap_size_14_0
        have cew_heap_size_14_1 : w4.cell? ⟨w.heap.size + 1, 1, none⟩ = some (.int .i64 0) := keep_cell hb4 (by first | assumption | (go_simp; done) | (simp; done) | simp [*])
        have cew1_heap_size4_0 : w4.cell? ⟨w1.heap.size, 0, none⟩ = some (.int .i64 0) := keep_cell hb4 (by first | assumption | (go_simp; done) | (simp; done) | simp [*])
        have zew1_heap_size4 : w1.heap.size < w4.heap.size := block_lt_of_cell cew1_heap_size4_0
        have cew1_heap_size4_1 : w4.cell? ⟨w1.heap.size, 1, none⟩ = some (.int .i64 0) := keep_cell hb4 (by first | assumption | (go_simp; done) | (simp; done) | simp [*])
        have cew1_heap_size_14_0 : w4.cell? ⟨w1.heap.size + 1, 0, none⟩ = some (.int .i64 0) := keep_cell hb4 (by first | assumption | (go_simp; done) | (simp; done) | simp [*])
        have zew1_heap_size_14 : w1.heap.size + 1 < w4.heap.size := block_lt_of_cell cew1_heap_size_14_0
        have cew1_heap_size_14_1 : w4.cell? ⟨w1.heap.size + 1, 1, none⟩ = some (.int .i64 0) := keep_cell hb4 (by first | assumption | (go_simp; done) | (simp; done) | simp [*])
        have B4 : Below w.heap.size w w4 := bl_call (by repeat (first | exact Below.refl _ _ | exact Nat.le_refl _ | refine Below.alloc ?_ ?_ _ | refine Below.setCell ?_ ?_ _ | refine Below.drew ?_ | refine bl_drewN ?_ _ | (assumption) | refine bl_call ?_ (by assumption) ?_ | omega | (simp <;> omega))) hb4 (by first | assumption | (simp; done) | (simp; omega) | omega)
        clear hb4
        have hsz_4 := B4.size
        go_wp2_with fail
        go_ret
        exact ⟨rfl, (by repeat (first | exact Below.refl _ _ | exact Nat.le_refl _ | refine Below.alloc ?_ ?_ _ | refine Below.setCell ?_ ?_ _ | refine Below.drew ?_ | refine bl_drewN ?_ _ | (assumption) | refine bl_call ?_ (by assumption) ?_ | omega | (simp <;> omega)))⟩
      · have hD := fun wx => Divide_yes a b c d wx h1 h2 h3
        obtain ⟨x1, x2, x3, x4⟩ := (isN_iff a b).1 h1
        obtain ⟨y1, y2, y3, y4⟩ := (isN_iff c d).1 h2
        simp only [] at x1 x2 x3 x4 y1 y2 y3 y4
        have hQ := fun wx => refQuotient a b c d wx x1 x2 x3 x4 y1 y2 y3 y4 h3
        obtain ⟨hn0, q1, q2, q3, q4⟩ := quo_bd x1 x2 x3 x4 y1 y2 y3 y4 h3
        have hdv : divV a b c d = if isN (quo a b c d).1 (quo a b c d).2 && isN (a - ((quo a b c d).1 * c + (quo a b c d).2 * d)) (b - ((quo a b c d).1 * d + (quo a b c d).2 * c + (quo a b c d).2 * d)) then .tuple #[.agg #[.int .i64 (quo a b c d).1, .int .i64 (quo a b c d).2], .agg #[.int .i64 (a - ((quo a b c d).1 * c + (quo a b c d).2 * d)), .int .i64 (b - ((quo a b c d).1 * d + (quo a b c d).2 * c + (quo a b c d).2 * d))], .int .i64 0]
          else .tuple #[.agg #[.int .i64 0, .int .i64 0], .agg #[.int .i64 0, .int .i64 0], .int .i64 5] := rfl
        rw [hdv] at hD
        clear hdv
        obtain ⟨⟨Q1, Q2⟩, hq⟩ : ∃ q, quo a b c d = q := ⟨_, rfl⟩
        rw [hq] at hD hQ q1 q2 q3 q4
        dsimp only at hD hQ q1 q2 q3 q4
        have hT := fun wx => refTimes Q1 Q2 c d wx q1 q2 q3 q4 y1 y2 y3 y4
        obtain ⟨pp1, pp2⟩ := mul_bd q1 q2 y1 y2
        obtain ⟨pp3, pp4⟩ := mul_bd q3 q4 y3 y4
        obtain ⟨pp5, pp6⟩ := mul_bd q1 q2 y3 y4
        obtain ⟨pp7, pp8⟩ := mul_bd q3 q4 y1 y2
        simp only [Int.reduceMul, Int.reduceNeg] at pp1 pp2 pp3 pp4 pp5 pp6 pp7 pp8
        obtain ⟨m1, e1⟩ : ∃ x, Q1 * c = x := ⟨_, rfl⟩
        obtain ⟨m2, e2⟩ : ∃ x, Q2 * d = x := ⟨_, rfl⟩
        obtain ⟨m3, e3⟩ : ∃ x, Q1 * d = x := ⟨_, rfl⟩
        obtain ⟨m4, e4⟩ : ∃ x, Q2 * c = x := ⟨_, rfl⟩
        rw [e1, e2, e3, e4] at hD hT
        rw [e1] at pp1 pp2
        rw [e2] at pp3 pp4
        rw [e3] at pp5 pp6
        rw [e4] at pp7 pp8
        clear e1 e2 e3 e4 hq
        obtain ⟨R1, hr1⟩ : ∃ x, a - (m1 + m2) = x := ⟨_, rfl⟩
        obtain ⟨R2, hr2⟩ : ∃ x, b - (m3 + m4 + m2) = x := ⟨_, rfl⟩
        have hM := fun wx => refMinus a b (m1 + m2) (m3 + m4 + m2) wx (by omega) (by omega) (by omega) (by omega)
        rw [hr1, hr2] at hD hM
        clear hr1 hr2 pp1 pp2 pp3 pp4 pp5 pp6 pp7 pp8
        have HQ := Lib.hid hQ
        have HT := Lib.hid hT
        have HM := Lib.hid hM
        have H1 := Lib.hid h1; clear h1
        have H2 := Lib.hid h2; clear h2
        clear hQ hT hM
        have hy : ¬ c = 0 ∨ (c = 0 ∧ ¬ d = 0) := by omega
        clear h3
        by_cases k1 : isN Q1 Q2 = true
        · have K1 := Lib.hid k1
          by_cases k2 : isN R1 R2 = true
          · have HC := Lib.hid (fun wx => by have := hD wx; rw [if_pos (by rw [k1, k2]; rfl)] at this; exact this)
            have K2 := Lib.hid k2; clear k2
            clear hD k1
            rcases hy with hy | ⟨rfl, hy⟩
            ·
              go_enter Tryd.func4, Tryd.ntmps4
              go_wp2_with fail
              refine (HC.out _).mono ?_
              rintro e w1 ⟨rfl, hb1⟩
              have z1_0 : w.heap.size < w1.heap.size := by have := hb1.size; (try simp at this); omega
              have z1_1 : w.heap.size + 1 < w1.heap.size := by have := hb1.size; (try simp at this); omega
              have cew_heap_size1_0 : w1.cell? ⟨w.heap.size, 0, none⟩ = some (.int .i64 a) := keep_cell hb1 (by first | assumption | (go_simp; done) | (simp; done) | simp [*])
              have zew_heap_size1 : w.heap.size < w1.heap.size := block_lt_of_cell cew_heap_size1_0
              have cew_heap_size1_1 : w1.cell? ⟨w.heap.size, 1, none⟩ = some (.int .i64 b) := keep_cell hb1 (by first | assumption | (go_simp; done) | (simp; done) | simp [*])
              have cew_heap_size_11_0 : w1.cell? ⟨w.heap.size + 1, 0, none⟩ = some (.int .i64 c) := keep_cell hb1 (by first | assumption | (go_simp; done) | (simp; done) | simp [*])
              have zew_heap_size_11 : w.heap.size + 1 < w1.heap.size := block_lt_of_cell cew_heap_size_11_0
              have cew_heap_size_11_1 : w1.cell? ⟨w.heap.size + 1, 1, none⟩ = some (.int .i64 d) := keep_cell hb1 (by first | assumption | (go_simp; done) | (simp; done) | simp [*])
              have B1 : Below w.heap.size w w1 := bl_call (by repeat (first | exact Below.refl _ _ | exact Nat.le_refl _ | refine Below.alloc ?_ ?_ _ | refine Below.setCell ?_ ?_ _ | refine Below.drew ?_ | refine bl_drewN ?_ _ | (assumption) | refine bl_call ?_ (by assumption) ?_ | omega | (simp <;> omega))) hb1 (by first | assumption | (simp; done) | (simp; omega) | omega)
              clear hb1
              have hsz_1 := B1.size
              go_wp2_with fail
              refine (refNumber _ _ _).mono ?_
              rintro e w2 ⟨rfl, hb2⟩
              have z2_0 : w.heap.size < w2.heap.size := by have := hb2.size; (try simp at this); omega
              have z2_1 : w.heap.size + 1 < w2.heap.size := by have := hb2.size; (try simp at this); omega
              have cew_heap_size2_0 : w2.cell? ⟨w.heap.size, 0, none⟩ = some (.int .i64 a) := keep_cell hb2 (by first | assumption | (go_simp; done) | (simp; done) | simp [*])
              have zew_heap_size2 : w.heap.size < w2.heap.size := block_lt_of_cell cew_heap_size2_0
              have cew_heap_size2_1 : w2.cell? ⟨w.heap.size, 1, none⟩ = some (.int .i64 b) := keep_cell hb2 (by first | assumption | (go_simp; done) | (simp; done) | simp [*])
              have cew_heap_size_12_0 : w2.cell? ⟨w.heap.size + 1, 0, none⟩ = some (.int .i64 c) := keep_cell hb2 (by first | assumption | (go_simp; done) | (simp; done) | simp [*])
              have zew_heap_size_12 : w.heap.size + 1 < w2.heap.size := block_lt_of_cell cew_heap_size_12_0
              have cew_heap_size_12_1 : w2.cell? ⟨w.heap.size + 1, 1, none⟩ = some (.int .i64 d) := keep_cell hb2 (by first | assumption | (go_simp; done) | (simp; done) | simp [*])
              have cew1_heap_size2_0 : w2.cell? ⟨w1.heap.size, 0, none⟩ = some (.int .i64 Q1) := keep_cell hb2 (by first | assumption | (go_simp; done) | (simp; done) | simp [*])
              have zew1_heap_size2 : w1.heap.size < w2.heap.size := block_lt_of_cell cew1_heap_size2_0
              have cew1_heap_size2_1 : w2.cell? ⟨w1.heap.size, 1, none⟩ = some (.int .i64 Q2) := keep_cell hb2 (by first | assumption | (go_simp; done) | (simp; done) | simp [*])
              have cew1_heap_size_12_0 : w2.cell? ⟨w1.heap.size + 1, 0, none⟩ = some (.int .i64 R1) := keep_cell hb2 (by first | assumption | (go_simp; done) | (simp; done) | simp [*])
              have zew1_heap_size_12 : w1.heap.size + 1 < w2.heap.size := block_lt_of_cell cew1_heap_size_12_0
              have cew1_heap_size_12_1 : w2.cell? ⟨w1.heap.size + 1, 1, none⟩ = some (.int .i64 R2) := keep_cell hb2 (by first | assumption | (go_simp; done) | (simp; done) | simp [*])
              have B2 : Below w.heap.size w w2 := bl_call (by repeat (first | exact Below.refl _ _ | exact Nat.le_refl _ | refine Below.alloc ?_ ?_ _ | refine Below.setCell ?_ ?_ _ | refine Below.drew ?_ | refine bl_drewN ?_ _ | (assumption) | refine bl_call ?_ (by assumption) ?_ | omega | (simp <;> omega))) hb2 (by first | assumption | (simp; done) | (simp; omega) | omega)
              clear hb2
              have hsz_2 := B2.size
              rw [H1.out]
              go_wp2_with fail
              refine (refNumber _ _ _).mono ?_
              rintro e w3 ⟨rfl, hb3⟩
              have z3_0 : w.heap.size < w3.heap.size := by have := hb3.size; (try simp at this); omega
              have z3_1 : w.heap.size + 1 < w3.heap.size := by have := hb3.size; (try simp at this); omega
              have cew_heap_size3_0 : w3.cell? ⟨w.heap.size, 0, none⟩ = some (.int .i64 a) := keep_cell hb3 (by first | assumption | (go_simp; done) | (simp; done) | simp [*])
              have zew_heap_size3 : w.heap.size < w3.heap.size := block_lt_of_cell cew_heap_size3_0
              have cew_heap_size3_1 : w3.cell? ⟨w.heap.size, 1, none⟩ = some (.int .i64 b) := keep_cell hb3 (by first | assumption | (go_simp; done) | (simp; done) | simp [*])
              have cew_heap_size_13_0 : w3.cell? ⟨w.heap.size + 1, 0, none⟩ = some (.int .i64 c) := keep_cell hb3 (by first | assumption | (go_simp; done) | (simp; done) | simp [*])
              have zew_heap_size_13 : w.heap.size + 1 < w3.heap.size := block_lt_of_cell cew_heap_size_13_0
              have cew_heap_size_13_1 : w3.cell? ⟨w.heap.size + 1, 1, none⟩ = some (.int .i64 d) := keep_cell hb3 (by first | assumption | (go_simp; done) | (simp; done) | simp [*])
              have cew1_heap_size3_0 : w3.cell? ⟨w1.heap.size, 0, none⟩ = some (.int .i64 Q1) := keep_cell hb3 (by first | assumption | (go_simp; done) | (simp; done) | simp [*])
              have zew1_heap_size3 : w1.heap.size < w3.heap.size := block_lt_of_cell cew1_heap_size3_0
              have cew1_heap_size3_1 : w3.cell? ⟨w1.heap.size, 1, none⟩ = some (.int .i64 Q2) := keep_cell hb3 (by first | assumption | (go_simp; done) | (simp; done) | simp [*])
              have cew1_heap_size_13_0 : w3.cell? ⟨w1.heap.size + 1, 0, none⟩ = some (.int .i64 R1) := keep_cell hb3 (by first | assumption | (go_simp; done) | (simp; done) | simp [*])
              have zew1_heap_size_13 : w1.heap.size + 1 < w3.heap.size := block_lt_of_cell cew1_heap_size_13_0
              have cew1_heap_size_13_1 : w3.cell? ⟨w1.heap.size + 1, 1, none⟩ = some (.int .i64 R2) := keep_cell hb3 (by first | assumption | (go_simp; done) | (simp; done) | simp [*])
              have B3 : Below w.heap.size w w3 := bl_call (by repeat (first | exact Below.refl _ _ | exact Nat.le_refl _ | refine Below.alloc ?_ ?_ _ | refine Below.setCell ?_ ?_ _ | refine Below.drew ?_ | refine bl_drewN ?_ _ | (assumption) | refine bl_call ?_ (by assumption) ?_ | omega | (simp <;> omega))) hb3 (by first | assumption | (simp; done) | (simp; omega) | omega)
              clear hb3
              have hsz_3 := B3.size
              rw [H2.out]
              go_wp2_with fail
              refine (HQ.out _).mono ?_
              rintro e w4 ⟨rfl, hb4⟩
              have z4_0 : w.heap.size < w4.heap.size := by have := hb4.size; (try simp at this); omega
              have z4_1 : w.heap.size + 1 < w4.heap.size := by have := hb4.size; (try simp at this); omega
              have cew_heap_size4_0 : w4.cell? ⟨w.heap.size, 0, none⟩ = some (.int .i64 a) := keep_cell hb4 (by first | assumption | (go_simp; done) | (simp; done) | simp [*])
              have zew_heap_size4 : w.heap.size < w4.heap.size := block_lt_of_cell cew_heap_size4_0
              have cew_heap_size4_1 : w4.cell? ⟨w.heap.size, 1, none⟩ = some (.int .i64 b) := keep_cell hb4 (by first | assumption | (go_simp; done) | (simp; done) | simp [*])
              have cew_heap_size_14_0 : w4.cell? ⟨w.heap.size + 1, 0, none⟩ = some (.int .i64 c) := keep_cell hb4 (by first | assumption | (go_simp; done) | (simp; done) | simp [*])
              have zew_heap_size_14 : w.heap.size + 1 < w4.heap.size := block_lt_of_cell cew_heap_size_14_0
              have cew_heap_size_14_1 : w4.cell? ⟨w.heap.size + 1, 1, none⟩ = some (.int .i64 d) := keep_cell hb4 (by first | assumption | (go_simp; done) | (simp; done) | simp [*])
              have cew1_heap_size4_0 : w4.cell? ⟨w1.heap.size, 0, none⟩ = some (.int .i64 Q1) := keep_cell hb4 (by first | assumption | (go_simp; done) | (simp; done) | simp [*])
              have zew1_heap_size4 : w1.heap.size < w4.heap.size := block_lt_of_cell cew1_heap_size4_0
              have cew1_heap_size4_1 : w4.cell? ⟨w1.heap.size, 1, none⟩ = some (.int .i64 Q2) := keep_cell hb4 (by first | assumption | (go_simp; done) | (simp; done) | simp [*])
              have cew1_heap_size_14_0 : w4.cell? ⟨w1.heap.size + 1, 0, none⟩ = some (.int .i64 R1) := keep_cell hb4 (by first | assumption | (go_simp; done) | (simp; done) | simp [*])
              have zew1_heap_size_14 : w1.heap.size + 1 < w4.heap.size := block_lt_of_cell cew1_heap_size_14_0
              have cew1_heap_size_14_1 : w4.cell? ⟨w1.heap.size + 1, 1, none⟩ = some (.int .i64 R2) := keep_cell hb4 (by first | assumption | (go_simp; done) | (simp; done) | simp [*])
              have B4 : Below w.heap.size w w4 := bl_call (by repeat (first | exact Below.refl _ _ | exact Nat.le_refl _ | refine Below.alloc ?_ ?_ _ | refine Below.setCell ?_ ?_ _ | refine Below.drew ?_ | refine bl_drewN ?_ _ | (assumption) | refine bl_call ?_ (by assumption) ?_ | omega | (simp <;> omega))) hb4 (by first | assumption | (simp; done) | (simp; omega) | omega)
              clear hb4
              have hsz_4 := B4.size
              go_wp2_with fail
              refine (refNumber _ _ _).mono ?_
              rintro e w5 ⟨rfl, hb5⟩
              have z5_0 : w.heap.size < w5.heap.size := by have := hb5.size; (try simp at this); omega
              have z5_1 : w.heap.size + 1 < w5.heap.size := by have := hb5.size; (try simp at this); omega
              have cew_heap_size5_0 : w5.cell? ⟨w.heap.size, 0, none⟩ = some (.int .i64 a) := keep_cell hb5 (by first | assumption | (go_simp; done) | (simp; done) | simp [*])
              have zew_heap_size5 : w.heap.size < w5.heap.size := block_lt_of_cell cew_heap_size5_0
              have cew_heap_size5_1 : w5.cell? ⟨w.heap.size, 1, none⟩ = some (.int .i64 b) := keep_cell hb5 (by first | assumption | (go_simp; done) | (simp; done) | simp [*])
              have cew_heap_size_15_0 : w5.cell? ⟨w.heap.size + 1, 0, none⟩ = some (.int .i64 c) := keep_cell hb5 (by first | assumption | (go_simp; done) | (simp; done) | simp [*])
              have zew_heap_size_15 : w.heap.size + 1 < w5.heap.size := block_lt_of_cell cew_heap_size_15_0
              have cew_heap_size_15_1 : w5.cell? ⟨w.heap.size + 1, 1, none⟩ = some (.int .i64 d) := keep_cell hb5 (by first | assumption | (go_simp; done) | (simp; done) | simp [*])
              have cew1_heap_size5_0 : w5.cell? ⟨w1.heap.size, 0, none⟩ = some (.int .i64 Q1) := keep_cell hb5 (by first | assumption | (go_simp; done) | (simp; done) | simp [*])
              have zew1_heap_size5 : w1.heap.size < w5.heap.size := block_lt_of_cell cew1_heap_size5_0
              have cew1_heap_size5_1 : w5.cell? ⟨w1.heap.size, 1, none⟩ = some (.int .i64 Q2) := keep_cell hb5 (by first | assumption | (go_simp; done) | (simp; done) | simp [*])
              have cew1_heap_size_15_0 : w5.cell? ⟨w1.heap.size + 1, 0, none⟩ = some (.int .i64 R1) := keep_cell hb5 (by first | assumption | (go_simp; done) | (simp; done) | simp [*])
              have zew1_heap_size_15 : w1.heap.size + 1 < w5.heap.size := block_lt_of_cell cew1_heap_size_15_0
              have cew1_heap_size_15_1 : w5.cell? ⟨w1.heap.size + 1, 1, none⟩ = some (.int .i64 R2) := keep_cell hb5 (by first | assumption | (go_simp; done) | (simp; done) | simp [*])
              have cew4_heap_size5_0 : w5.cell? ⟨w4.heap.size, 0, none⟩ = some (.int .i64 Q1) := keep_cell hb5 (by first | assumption | (go_simp; done) | (simp; done) | simp [*])
              have zew4_heap_size5 : w4.heap.size < w5.heap.size := block_lt_of_cell cew4_heap_size5_0
              have cew4_heap_size5_1 : w5.cell? ⟨w4.heap.size, 1, none⟩ = some (.int .i64 Q2) := keep_cell hb5 (by first | assumption | (go_simp; done) | (simp; done) | simp [*])
              have B5 : Below w.heap.size w w5 := bl_call (by repeat (first | exact Below.refl _ _ | exact Nat.le_refl _ | refine Below.alloc ?_ ?_ _ | refine Below.setCell ?_ ?_ _ | refine Below.drew ?_ | refine bl_drewN ?_ _ | (assumption) | refine bl_call ?_ (by assumption) ?_ | omega | (simp <;> omega))) hb5 (by first | assumption | (simp; done) | (simp; omega) | omega)
              clear hb5
              have hsz_5 := B5.size
              rw [K1.out]
              go_upto_region 6 with fail
              refine with_act fun a0 ha0 => ?_
              refine wp_region_inv (by kernel_rfl) (by kernel_rfl) (fun s a' w' => ∃ v50 v51 v52 v53 v54 v9 : Value, a' = putL a0 [(50, v50), (51, v51), (52, v52), (53, v53), (54, v54), (9, v9)] ∧ Hid ((s 0 = true → v50 = .agg #[.int .i64 a, .int .i64 b]) ∧ (s 1 = true → v51 = .agg #[.int .i64 Q1, .int .i64 Q2]) ∧ (s 2 = true → v52 = .agg #[.int .i64 c, .int .i64 d]) ∧ (s 3 = true → v53 = .agg #[.int .i64 (m1 + m2), .int .i64 (m3 + m4 + m2)]) ∧ (s 4 = true → v54 = .agg #[.int .i64 R1, .int .i64 R2]) ∧ True) ∧ BelX [] w5 w' ∧ (s 5 = true → ∃ (g : Nat) (c0 c1 : Value), v9 = .pointer (some ⟨g, 0, none⟩) ∧ w5.heap.size ≤ g ∧ w'.heap[g]? = some (.cells #[c0, c1] 23 (0, 0)) ∧ (s 6 = true → c0 = .int .i64 R1 ∧ c1 = .int .i64 R2)) ∧ (s 6 = true → s 5 = true) ∧ True) ?x1hzero ⟨?x1hs0, ?x1hs1, ?x1hs2, ?x1hs3, ?x1hs4, ?x1hs5, ?x1hs6, trivial⟩ ?x1hdone
              case x1hzero =>
                refine ⟨a0.tmps.getD 50 undef, a0.tmps.getD 51 undef, a0.tmps.getD 52 undef, a0.tmps.getD 53 undef, a0.tmps.getD 54 undef, a0.tmps.getD 9 undef, ?_, ?_, ?_, ?_, ?_, trivial⟩
                · simp only [putL, put_self]
                · exact Lib.hid ⟨fun h => (by simp at h), fun h => (by simp at h), fun h => (by simp at h), fun h => (by simp at h), fun h => (by simp at h), trivial⟩
                · exact BelX.start _ _
                · exact fun h => (by simp at h)
                · exact fun h => (by simp at h)
              case x1hs0 =>
                intro s a' w' hsk hdep hI K hK
                try dsimp only at hI hK
                obtain ⟨v50, v51, v52, v53, v54, v9, hact, hR, hX, hA9, hN9, _⟩ := hI
                subst hact
                have HK := Lib.hid hK
                clear hK
                have kc0 : w'.cell? ⟨w.heap.size, 0, none⟩ = some (.int .i64 a) := hX.cell (by first | (simp; done) | (simp; omega)) (by first | assumption | (go_simp; done) | (simp; done))
                have kc1 : w'.cell? ⟨w.heap.size, 1, none⟩ = some (.int .i64 b) := hX.cell (by first | (simp; done) | (simp; omega)) (by first | assumption | (go_simp; done) | (simp; done))
                have kc2 : w'.cell? ⟨w.heap.size + 1, 0, none⟩ = some (.int .i64 c) := hX.cell (by first | (simp; done) | (simp; omega)) (by first | assumption | (go_simp; done) | (simp; done))
                have kc3 : w'.cell? ⟨w.heap.size + 1, 1, none⟩ = some (.int .i64 d) := hX.cell (by first | (simp; done) | (simp; omega)) (by first | assumption | (go_simp; done) | (simp; done))
                have kc4 : w'.cell? ⟨w1.heap.size, 0, none⟩ = some (.int .i64 Q1) := hX.cell (by first | (simp; done) | (simp; omega)) (by first | assumption | (go_simp; done) | (simp; done))
                have kc5 : w'.cell? ⟨w1.heap.size, 1, none⟩ = some (.int .i64 Q2) := hX.cell (by first | (simp; done) | (simp; omega)) (by first | assumption | (go_simp; done) | (simp; done))
                have kc6 : w'.cell? ⟨w1.heap.size + 1, 0, none⟩ = some (.int .i64 R1) := hX.cell (by first | (simp; done) | (simp; omega)) (by first | assumption | (go_simp; done) | (simp; done))
                have kc7 : w'.cell? ⟨w1.heap.size + 1, 1, none⟩ = some (.int .i64 R2) := hX.cell (by first | (simp; done) | (simp; omega)) (by first | assumption | (go_simp; done) | (simp; done))
                have kc8 : w'.cell? ⟨w4.heap.size, 0, none⟩ = some (.int .i64 Q1) := hX.cell (by first | (simp; done) | (simp; omega)) (by first | assumption | (go_simp; done) | (simp; done))
                have kc9 : w'.cell? ⟨w4.heap.size, 1, none⟩ = some (.int .i64 Q2) := hX.cell (by first | (simp; done) | (simp; omega)) (by first | assumption | (go_simp; done) | (simp; done))
                clear hdep
                refine StepG.mk rfl ?_; rw [ha0]; simp only [putL, Act.put, List.setIfInBounds_toArray, List.set_cons_zero, List.set_cons_succ]
                go_wp2_with fail
                refine HK.out _ _ ?_
                refine ⟨(.agg #[.int .i64 a, .int .i64 b]), v51, v52, v53, v54, v9, (by rw [ha0]; simp only [putL, Act.put, List.setIfInBounds_toArray, List.set_cons_zero, List.set_cons_succ]), ?_, ?_, ?_, ?_, trivial⟩
                · obtain ⟨h50, h51, h52, h53, h54, _⟩ := hR.out
                  exact Lib.hid ⟨fun _ => rfl, fun h => h51 (by simpa using h), fun h => h52 (by simpa using h), fun h => h53 (by simpa using h), fun h => h54 (by simpa using h), trivial⟩
                · exact hX
                · intro h; obtain ⟨g, c0, c1, e, hg, hblk, hst⟩ := hA9 (by simpa using h); exact ⟨g, c0, c1, e, hg, hblk, fun h => hst (by simpa using h)⟩
                · exact fun h => (by have h1 := hN9 (by simpa using h); simp [h1])
              case x1hs1 =>
                intro s a' w' hsk hdep hI K hK
                try dsimp only at hI hK
                obtain ⟨v50, v51, v52, v53, v54, v9, hact, hR, hX, hA9, hN9, _⟩ := hI
                subst hact
                have HK := Lib.hid hK
                clear hK
                have kc0 : w'.cell? ⟨w.heap.size, 0, none⟩ = some (.int .i64 a) := hX.cell (by first | (simp; done) | (simp; omega)) (by first | assumption | (go_simp; done) | (simp; done))
                have kc1 : w'.cell? ⟨w.heap.size, 1, none⟩ = some (.int .i64 b) := hX.cell (by first | (simp; done) | (simp; omega)) (by first | assumption | (go_simp; done) | (simp; done))
                have kc2 : w'.cell? ⟨w.heap.size + 1, 0, none⟩ = some (.int .i64 c) := hX.cell (by first | (simp; done) | (simp; omega)) (by first | assumption | (go_simp; done) | (simp; done))
                have kc3 : w'.cell? ⟨w.heap.size + 1, 1, none⟩ = some (.int .i64 d) := hX.cell (by first | (simp; done) | (simp; omega)) (by first | assumption | (go_simp; done) | (simp; done))
                have kc4 : w'.cell? ⟨w1.heap.size, 0, none⟩ = some (.int .i64 Q1) := hX.cell (by first | (simp; done) | (simp; omega)) (by first | assumption | (go_simp; done) | (simp; done))
                have kc5 : w'.cell? ⟨w1.heap.size, 1, none⟩ = some (.int .i64 Q2) := hX.cell (by first | (simp; done) | (simp; omega)) (by first | assumption | (go_simp; done) | (simp; done))
                have kc6 : w'.cell? ⟨w1.heap.size + 1, 0, none⟩ = some (.int .i64 R1) := hX.cell (by first | (simp; done) | (simp; omega)) (by first | assumption | (go_simp; done) | (simp; done))
                have kc7 : w'.cell? ⟨w1.heap.size + 1, 1, none⟩ = some (.int .i64 R2) := hX.cell (by first | (simp; done) | (simp; omega)) (by first | assumption | (go_simp; done) | (simp; done))
                have kc8 : w'.cell? ⟨w4.heap.size, 0, none⟩ = some (.int .i64 Q1) := hX.cell (by first | (simp; done) | (simp; omega)) (by first | assumption | (go_simp; done) | (simp; done))
                have kc9 : w'.cell? ⟨w4.heap.size, 1, none⟩ = some (.int .i64 Q2) := hX.cell (by first | (simp; done) | (simp; omega)) (by first | assumption | (go_simp; done) | (simp; done))
                clear hdep
                refine StepG.mk rfl ?_; rw [ha0]; simp only [putL, Act.put, List.setIfInBounds_toArray, List.set_cons_zero, List.set_cons_succ]
                go_wp2_with fail
                refine HK.out _ _ ?_
                refine ⟨v50, (.agg #[.int .i64 Q1, .int .i64 Q2]), v52, v53, v54, v9, (by rw [ha0]; simp only [putL, Act.put, List.setIfInBounds_toArray, List.set_cons_zero, List.set_cons_succ]), ?_, ?_, ?_, ?_, trivial⟩
                · obtain ⟨h50, h51, h52, h53, h54, _⟩ := hR.out
                  exact Lib.hid ⟨fun h => h50 (by simpa using h), fun _ => rfl, fun h => h52 (by simpa using h), fun h => h53 (by simpa using h), fun h => h54 (by simpa using h), trivial⟩
                · exact hX
                · intro h; obtain ⟨g, c0, c1, e, hg, hblk, hst⟩ := hA9 (by simpa using h); exact ⟨g, c0, c1, e, hg, hblk, fun h => hst (by simpa using h)⟩
                · exact fun h => (by have h1 := hN9 (by simpa using h); simp [h1])
              case x1hs2 =>
                intro s a' w' hsk hdep hI K hK
                try dsimp only at hI hK
                obtain ⟨v50, v51, v52, v53, v54, v9, hact, hR, hX, hA9, hN9, _⟩ := hI
                subst hact
                have HK := Lib.hid hK
                clear hK
                have kc0 : w'.cell? ⟨w.heap.size, 0, none⟩ = some (.int .i64 a) := hX.cell (by first | (simp; done) | (simp; omega)) (by first | assumption | (go_simp; done) | (simp; done))
                have kc1 : w'.cell? ⟨w.heap.size, 1, none⟩ = some (.int .i64 b) := hX.cell (by first | (simp; done) | (simp; omega)) (by first | assumption | (go_simp; done) | (simp; done))
                have kc2 : w'.cell? ⟨w.heap.size + 1, 0, none⟩ = some (.int .i64 c) := hX.cell (by first | (simp; done) | (simp; omega)) (by first | assumption | (go_simp; done) | (simp; done))
                have kc3 : w'.cell? ⟨w.heap.size + 1, 1, none⟩ = some (.int .i64 d) := hX.cell (by first | (simp; done) | (simp; omega)) (by first | assumption | (go_simp; done) | (simp; done))
                have kc4 : w'.cell? ⟨w1.heap.size, 0, none⟩ = some (.int .i64 Q1) := hX.cell (by first | (simp; done) | (simp; omega)) (by first | assumption | (go_simp; done) | (simp; done))
                have kc5 : w'.cell? ⟨w1.heap.size, 1, none⟩ = some (.int .i64 Q2) := hX.cell (by first | (simp; done) | (simp; omega)) (by first | assumption | (go_simp; done) | (simp; done))
                have kc6 : w'.cell? ⟨w1.heap.size + 1, 0, none⟩ = some (.int .i64 R1) := hX.cell (by first | (simp; done) | (simp; omega)) (by first | assumption | (go_simp; done) | (simp; done))
                have kc7 : w'.cell? ⟨w1.heap.size + 1, 1, none⟩ = some (.int .i64 R2) := hX.cell (by first | (simp; done) | (simp; omega)) (by first | assumption | (go_simp; done) | (simp; done))
                have kc8 : w'.cell? ⟨w4.heap.size, 0, none⟩ = some (.int .i64 Q1) := hX.cell (by first | (simp; done) | (simp; omega)) (by first | assumption | (go_simp; done) | (simp; done))
                have kc9 : w'.cell? ⟨w4.heap.size, 1, none⟩ = some (.int .i64 Q2) := hX.cell (by first | (simp; done) | (simp; omega)) (by first | assumption | (go_simp; done) | (simp; done))
                clear hdep
                refine StepG.mk rfl ?_; rw [ha0]; simp only [putL, Act.put, List.setIfInBounds_toArray, List.set_cons_zero, List.set_cons_succ]
                go_wp2_with fail
                refine HK.out _ _ ?_
                refine ⟨v50, v51, (.agg #[.int .i64 c, .int .i64 d]), v53, v54, v9, (by rw [ha0]; simp only [putL, Act.put, List.setIfInBounds_toArray, List.set_cons_zero, List.set_cons_succ]), ?_, ?_, ?_, ?_, trivial⟩
                · obtain ⟨h50, h51, h52, h53, h54, _⟩ := hR.out
                  exact Lib.hid ⟨fun h => h50 (by simpa using h), fun h => h51 (by simpa using h), fun _ => rfl, fun h => h53 (by simpa using h), fun h => h54 (by simpa using h), trivial⟩
                · exact hX
                · intro h; obtain ⟨g, c0, c1, e, hg, hblk, hst⟩ := hA9 (by simpa using h); exact ⟨g, c0, c1, e, hg, hblk, fun h => hst (by simpa using h)⟩
                · exact fun h => (by have h1 := hN9 (by simpa using h); simp [h1])
              case x1hs3 =>
                intro s a' w' hsk hdep hI K hK
                try dsimp only at hI hK
                obtain ⟨v50, v51, v52, v53, v54, v9, hact, hR, hX, hA9, hN9, _⟩ := hI
                subst hact
                have HK := Lib.hid hK
                clear hK
                have e51 : v51 = .agg #[.int .i64 Q1, .int .i64 Q2] := by obtain ⟨h50, h51, h52, h53, h54, _⟩ := hR.out; exact h51 (hdep ⟨1, .data⟩ (by simp) rfl)
                subst e51
                have e52 : v52 = .agg #[.int .i64 c, .int .i64 d] := by obtain ⟨h50, h51, h52, h53, h54, _⟩ := hR.out; exact h52 (hdep ⟨2, .data⟩ (by simp) rfl)
                subst e52
                have kc0 : w'.cell? ⟨w.heap.size, 0, none⟩ = some (.int .i64 a) := hX.cell (by first | (simp; done) | (simp; omega)) (by first | assumption | (go_simp; done) | (simp; done))
                have kc1 : w'.cell? ⟨w.heap.size, 1, none⟩ = some (.int .i64 b) := hX.cell (by first | (simp; done) | (simp; omega)) (by first | assumption | (go_simp; done) | (simp; done))
                have kc2 : w'.cell? ⟨w.heap.size + 1, 0, none⟩ = some (.int .i64 c) := hX.cell (by first | (simp; done) | (simp; omega)) (by first | assumption | (go_simp; done) | (simp; done))
                have kc3 : w'.cell? ⟨w.heap.size + 1, 1, none⟩ = some (.int .i64 d) := hX.cell (by first | (simp; done) | (simp; omega)) (by first | assumption | (go_simp; done) | (simp; done))
                have kc4 : w'.cell? ⟨w1.heap.size, 0, none⟩ = some (.int .i64 Q1) := hX.cell (by first | (simp; done) | (simp; omega)) (by first | assumption | (go_simp; done) | (simp; done))
                have kc5 : w'.cell? ⟨w1.heap.size, 1, none⟩ = some (.int .i64 Q2) := hX.cell (by first | (simp; done) | (simp; omega)) (by first | assumption | (go_simp; done) | (simp; done))
                have kc6 : w'.cell? ⟨w1.heap.size + 1, 0, none⟩ = some (.int .i64 R1) := hX.cell (by first | (simp; done) | (simp; omega)) (by first | assumption | (go_simp; done) | (simp; done))
                have kc7 : w'.cell? ⟨w1.heap.size + 1, 1, none⟩ = some (.int .i64 R2) := hX.cell (by first | (simp; done) | (simp; omega)) (by first | assumption | (go_simp; done) | (simp; done))
                have kc8 : w'.cell? ⟨w4.heap.size, 0, none⟩ = some (.int .i64 Q1) := hX.cell (by first | (simp; done) | (simp; omega)) (by first | assumption | (go_simp; done) | (simp; done))
                have kc9 : w'.cell? ⟨w4.heap.size, 1, none⟩ = some (.int .i64 Q2) := hX.cell (by first | (simp; done) | (simp; omega)) (by first | assumption | (go_simp; done) | (simp; done))
                clear hdep
                refine StepG.mk rfl ?_; rw [ha0]; simp only [putL, Act.put, List.setIfInBounds_toArray, List.set_cons_zero, List.set_cons_succ]
                go_wp2_with fail
                refine ((HT.out _)).mono ?_
                rintro e wn ⟨rfl, hb⟩
                go_wp2_with fail
                refine HK.out _ _ ?_
                refine ⟨v50, (.agg #[.int .i64 Q1, .int .i64 Q2]), (.agg #[.int .i64 c, .int .i64 d]), (.agg #[.int .i64 (m1 + m2), .int .i64 (m3 + m4 + m2)]), v54, v9, (by rw [ha0]; simp only [putL, Act.put, List.setIfInBounds_toArray, List.set_cons_zero, List.set_cons_succ]), ?_, ?_, ?_, ?_, trivial⟩
                · obtain ⟨h50, h51, h52, h53, h54, _⟩ := hR.out
                  exact Lib.hid ⟨fun h => h50 (by simpa using h), fun _ => rfl, fun _ => rfl, fun _ => rfl, fun h => h54 (by simpa using h), trivial⟩
                · exact hX.call hb
                · intro h; obtain ⟨g, c0, c1, e, hg, hblk, hst⟩ := hA9 (by simpa using h); exact ⟨g, c0, c1, e, hg, (hb.block g (blk_lt hblk)).trans hblk, fun h => hst (by simpa using h)⟩
                · exact fun h => (by have h1 := hN9 (by simpa using h); simp [h1])
              case x1hs4 =>
                intro s a' w' hsk hdep hI K hK
                try dsimp only at hI hK
                obtain ⟨v50, v51, v52, v53, v54, v9, hact, hR, hX, hA9, hN9, _⟩ := hI
                subst hact
                have HK := Lib.hid hK
                clear hK
                have e50 : v50 = .agg #[.int .i64 a, .int .i64 b] := by obtain ⟨h50, h51, h52, h53, h54, _⟩ := hR.out; exact h50 (hdep ⟨0, .data⟩ (by simp) rfl)
                subst e50
                have e53 : v53 = .agg #[.int .i64 (m1 + m2), .int .i64 (m3 + m4 + m2)] := by obtain ⟨h50, h51, h52, h53, h54, _⟩ := hR.out; exact h53 (hdep ⟨3, .data⟩ (by simp) rfl)
                subst e53
                have kc0 : w'.cell? ⟨w.heap.size, 0, none⟩ = some (.int .i64 a) := hX.cell (by first | (simp; done) | (simp; omega)) (by first | assumption | (go_simp; done) | (simp; done))
                have kc1 : w'.cell? ⟨w.heap.size, 1, none⟩ = some (.int .i64 b) := hX.cell (by first | (simp; done) | (simp; omega)) (by first | assumption | (go_simp; done) | (simp; done))
                have kc2 : w'.cell? ⟨w.heap.size + 1, 0, none⟩ = some (.int .i64 c) := hX.cell (by first | (simp; done) | (simp; omega)) (by first | assumption | (go_simp; done) | (simp; done))
                have kc3 : w'.cell? ⟨w.heap.size + 1, 1, none⟩ = some (.int .i64 d) := hX.cell (by first | (simp; done) | (simp; omega)) (by first | assumption | (go_simp; done) | (simp; done))
                have kc4 : w'.cell? ⟨w1.heap.size, 0, none⟩ = some (.int .i64 Q1) := hX.cell (by first | (simp; done) | (simp; omega)) (by first | assumption | (go_simp; done) | (simp; done))
                have kc5 : w'.cell? ⟨w1.heap.size, 1, none⟩ = some (.int .i64 Q2) := hX.cell (by first | (simp; done) | (simp; omega)) (by first | assumption | (go_simp; done) | (simp; done))
                have kc6 : w'.cell? ⟨w1.heap.size + 1, 0, none⟩ = some (.int .i64 R1) := hX.cell (by first | (simp; done) | (simp; omega)) (by first | assumption | (go_simp; done) | (simp; done))
                have kc7 : w'.cell? ⟨w1.heap.size + 1, 1, none⟩ = some (.int .i64 R2) := hX.cell (by first | (simp; done) | (simp; omega)) (by first | assumption | (go_simp; done) | (simp; done))
                have kc8 : w'.cell? ⟨w4.heap.size, 0, none⟩ = some (.int .i64 Q1) := hX.cell (by first | (simp; done) | (simp; omega)) (by first | assumption | (go_simp; done) | (simp; done))
                have kc9 : w'.cell? ⟨w4.heap.size, 1, none⟩ = some (.int .i64 Q2) := hX.cell (by first | (simp; done) | (simp; omega)) (by first | assumption | (go_simp; done) | (simp; done))
                clear hdep
                refine StepG.mk rfl ?_; rw [ha0]; simp only [putL, Act.put, List.setIfInBounds_toArray, List.set_cons_zero, List.set_cons_succ]
                go_wp2_with fail
                refine ((HM.out _)).mono ?_
                rintro e wn ⟨rfl, hb⟩
                go_wp2_with fail
                refine HK.out _ _ ?_
                refine ⟨(.agg #[.int .i64 a, .int .i64 b]), v51, v52, (.agg #[.int .i64 (m1 + m2), .int .i64 (m3 + m4 + m2)]), (.agg #[.int .i64 R1, .int .i64 R2]), v9, (by rw [ha0]; simp only [putL, Act.put, List.setIfInBounds_toArray, List.set_cons_zero, List.set_cons_succ]), ?_, ?_, ?_, ?_, trivial⟩
                · obtain ⟨h50, h51, h52, h53, h54, _⟩ := hR.out
                  exact Lib.hid ⟨fun _ => rfl, fun h => h51 (by simpa using h), fun h => h52 (by simpa using h), fun _ => rfl, fun _ => rfl, trivial⟩
                · exact hX.call hb
                · intro h; obtain ⟨g, c0, c1, e, hg, hblk, hst⟩ := hA9 (by simpa using h); exact ⟨g, c0, c1, e, hg, (hb.block g (blk_lt hblk)).trans hblk, fun h => hst (by simpa using h)⟩
                · exact fun h => (by have h1 := hN9 (by simpa using h); simp [h1])
              case x1hs5 =>
                intro s a' w' hsk hdep hI K hK
                try dsimp only at hI hK
                obtain ⟨v50, v51, v52, v53, v54, v9, hact, hR, hX, hA9, hN9, _⟩ := hI
                subst hact
                have HK := Lib.hid hK
                clear hK
                have kc0 : w'.cell? ⟨w.heap.size, 0, none⟩ = some (.int .i64 a) := hX.cell (by first | (simp; done) | (simp; omega)) (by first | assumption | (go_simp; done) | (simp; done))
                have kc1 : w'.cell? ⟨w.heap.size, 1, none⟩ = some (.int .i64 b) := hX.cell (by first | (simp; done) | (simp; omega)) (by first | assumption | (go_simp; done) | (simp; done))
                have kc2 : w'.cell? ⟨w.heap.size + 1, 0, none⟩ = some (.int .i64 c) := hX.cell (by first | (simp; done) | (simp; omega)) (by first | assumption | (go_simp; done) | (simp; done))
                have kc3 : w'.cell? ⟨w.heap.size + 1, 1, none⟩ = some (.int .i64 d) := hX.cell (by first | (simp; done) | (simp; omega)) (by first | assumption | (go_simp; done) | (simp; done))
                have kc4 : w'.cell? ⟨w1.heap.size, 0, none⟩ = some (.int .i64 Q1) := hX.cell (by first | (simp; done) | (simp; omega)) (by first | assumption | (go_simp; done) | (simp; done))
                have kc5 : w'.cell? ⟨w1.heap.size, 1, none⟩ = some (.int .i64 Q2) := hX.cell (by first | (simp; done) | (simp; omega)) (by first | assumption | (go_simp; done) | (simp; done))
                have kc6 : w'.cell? ⟨w1.heap.size + 1, 0, none⟩ = some (.int .i64 R1) := hX.cell (by first | (simp; done) | (simp; omega)) (by first | assumption | (go_simp; done) | (simp; done))
                have kc7 : w'.cell? ⟨w1.heap.size + 1, 1, none⟩ = some (.int .i64 R2) := hX.cell (by first | (simp; done) | (simp; omega)) (by first | assumption | (go_simp; done) | (simp; done))
                have kc8 : w'.cell? ⟨w4.heap.size, 0, none⟩ = some (.int .i64 Q1) := hX.cell (by first | (simp; done) | (simp; omega)) (by first | assumption | (go_simp; done) | (simp; done))
                have kc9 : w'.cell? ⟨w4.heap.size, 1, none⟩ = some (.int .i64 Q2) := hX.cell (by first | (simp; done) | (simp; omega)) (by first | assumption | (go_simp; done) | (simp; done))
                clear hdep
                refine StepG.mk rfl ?_; rw [ha0]; simp only [putL, Act.put, List.setIfInBounds_toArray, List.set_cons_zero, List.set_cons_succ]
                go_wp2_with fail
                refine HK.out _ _ ?_
                refine ⟨v50, v51, v52, v53, v54, (.pointer (some ⟨w'.heap.size, 0, none⟩)), (by rw [ha0]; simp only [putL, Act.put, List.setIfInBounds_toArray, List.set_cons_zero, List.set_cons_succ]), ?_, ?_, ?_, ?_, trivial⟩
                · obtain ⟨h50, h51, h52, h53, h54, _⟩ := hR.out
                  exact Lib.hid ⟨fun h => h50 (by simpa using h), fun h => h51 (by simpa using h), fun h => h52 (by simpa using h), fun h => h53 (by simpa using h), fun h => h54 (by simpa using h), trivial⟩
                · exact hX.alloc _
                · exact fun _ => ⟨w'.heap.size, .int .i64 0, .int .i64 0, rfl, hX.size, blk_new w' _, fun h => (by have h1 := hN9 (by simpa using h); rw [h1] at hsk; cases hsk)⟩
                · exact fun _ => rfl
              case x1hs6 =>
                intro s a' w' hsk hdep hI K hK
                try dsimp only at hI hK
                obtain ⟨v50, v51, v52, v53, v54, v9, hact, hR, hX, hA9, hN9, _⟩ := hI
                subst hact
                have HK := Lib.hid hK
                clear hK
                have e54 : v54 = .agg #[.int .i64 R1, .int .i64 R2] := by obtain ⟨h50, h51, h52, h53, h54, _⟩ := hR.out; exact h54 (hdep ⟨4, .data⟩ (by simp) rfl)
                subst e54
                obtain ⟨g, c0, c1, ev, hg, hblk, hst⟩ := hA9 (hdep ⟨5, .data⟩ (by simp) rfl)
                subst ev
                have kc0 : w'.cell? ⟨w.heap.size, 0, none⟩ = some (.int .i64 a) := hX.cell (by first | (simp; done) | (simp; omega)) (by first | assumption | (go_simp; done) | (simp; done))
                have kc1 : w'.cell? ⟨w.heap.size, 1, none⟩ = some (.int .i64 b) := hX.cell (by first | (simp; done) | (simp; omega)) (by first | assumption | (go_simp; done) | (simp; done))
                have kc2 : w'.cell? ⟨w.heap.size + 1, 0, none⟩ = some (.int .i64 c) := hX.cell (by first | (simp; done) | (simp; omega)) (by first | assumption | (go_simp; done) | (simp; done))
                have kc3 : w'.cell? ⟨w.heap.size + 1, 1, none⟩ = some (.int .i64 d) := hX.cell (by first | (simp; done) | (simp; omega)) (by first | assumption | (go_simp; done) | (simp; done))
                have kc4 : w'.cell? ⟨w1.heap.size, 0, none⟩ = some (.int .i64 Q1) := hX.cell (by first | (simp; done) | (simp; omega)) (by first | assumption | (go_simp; done) | (simp; done))
                have kc5 : w'.cell? ⟨w1.heap.size, 1, none⟩ = some (.int .i64 Q2) := hX.cell (by first | (simp; done) | (simp; omega)) (by first | assumption | (go_simp; done) | (simp; done))
                have kc6 : w'.cell? ⟨w1.heap.size + 1, 0, none⟩ = some (.int .i64 R1) := hX.cell (by first | (simp; done) | (simp; omega)) (by first | assumption | (go_simp; done) | (simp; done))
                have kc7 : w'.cell? ⟨w1.heap.size + 1, 1, none⟩ = some (.int .i64 R2) := hX.cell (by first | (simp; done) | (simp; omega)) (by first | assumption | (go_simp; done) | (simp; done))
                have kc8 : w'.cell? ⟨w4.heap.size, 0, none⟩ = some (.int .i64 Q1) := hX.cell (by first | (simp; done) | (simp; omega)) (by first | assumption | (go_simp; done) | (simp; done))
                have kc9 : w'.cell? ⟨w4.heap.size, 1, none⟩ = some (.int .i64 Q2) := hX.cell (by first | (simp; done) | (simp; omega)) (by first | assumption | (go_simp; done) | (simp; done))
                have kb0 : w'.cell? ⟨g, 0, none⟩ = some c0 := cell_of_row w' g 0 _ _ _ hblk
                have kb1 : w'.cell? ⟨g, 1, none⟩ = some c1 := cell_of_row w' g 1 _ _ _ hblk
                have kf : ∀ o, w'.frozen? ⟨g, o, none⟩ = false := fun o => frozen_of_row w' g o _ _ hblk
                have hBlk := Lib.hid hblk
                clear hblk
                have hdepA : s 5 = true := hdep ⟨5, .data⟩ (by simp) rfl
                clear hdep
                refine StepG.mk rfl ?_; rw [ha0]; simp only [putL, Act.put, List.setIfInBounds_toArray, List.set_cons_zero, List.set_cons_succ]
                go_wp2_with fail
                refine HK.out _ _ ?_
                refine ⟨v50, v51, v52, v53, (.agg #[.int .i64 R1, .int .i64 R2]), (.pointer (some ⟨g, 0, none⟩)), (by rw [ha0]; simp only [putL, Act.put, List.setIfInBounds_toArray, List.set_cons_zero, List.set_cons_succ]), ?_, ?_, ?_, ?_, trivial⟩
                · obtain ⟨h50, h51, h52, h53, h54, _⟩ := hR.out
                  exact Lib.hid ⟨fun h => h50 (by simpa using h), fun h => h51 (by simpa using h), fun h => h52 (by simpa using h), fun h => h53 (by simpa using h), fun _ => rfl, trivial⟩
                · exact ((hX.setNew (p := ⟨g, 0, none⟩) hg _).setNew (p := ⟨g, 1, none⟩) hg _)
                · exact fun _ => ⟨g, _, _, rfl, hg, blk_set2 hBlk.out, fun _ => ⟨rfl, rfl⟩⟩
                · exact fun _ => (by simp [hdepA])
              intro s a' w6 hall hI
              try dsimp only at hI
              obtain ⟨v50, v51, v52, v53, v54, v9, hact, hR, hXR, hA9, hN9, _⟩ := hI
              subst hact
              obtain ⟨h50, h51, h52, h53, h54, _⟩ := hR.out
              clear hR
              have e50 := h50 (hall 0 (by decide))
              subst e50
              clear h50
              have e51 := h51 (hall 1 (by decide))
              subst e51
              clear h51
              have e52 := h52 (hall 2 (by decide))
              subst e52
              clear h52
              have e53 := h53 (hall 3 (by decide))
              subst e53
              clear h53
              have e54 := h54 (hall 4 (by decide))
              subst e54
              clear h54
              obtain ⟨g9, c0, c1, ev, hg9, hblk9, hst⟩ := hA9 (hall 5 (by decide))
              subst ev
              clear hA9 hN9
              obtain ⟨es0, es1⟩ := hst (hall 6 (by decide))
              subst es0
              subst es1
              clear hst
              clear hall
              rw [ha0]; simp only [putL, Act.put, List.setIfInBounds_toArray, List.set_cons_zero, List.set_cons_succ]
              clear ha0
              have B6 : Below w.heap.size w w6 := hXR.below (by first | assumption | exact (by repeat (first | exact Below.refl _ _ | exact Nat.le_refl _ | refine Below.alloc ?_ ?_ _ | refine Below.setCell ?_ ?_ _ | refine Below.drew ?_ | refine bl_drewN ?_ _ | (assumption) | refine bl_call ?_ (by assumption) ?_ | omega | (simp <;> omega)))) (by first | omega | (simp <;> omega)) (by simp <;> omega)
              have cew_heap_size6_0 : w6.cell? ⟨w.heap.size, 0, none⟩ = some (.int .i64 a) := hXR.cell (by first | (simp; done) | (simp; omega)) (by first | assumption | (go_simp; done) | (simp; done))
              have cew_heap_size6_1 : w6.cell? ⟨w.heap.size, 1, none⟩ = some (.int .i64 b) := hXR.cell (by first | (simp; done) | (simp; omega)) (by first | assumption | (go_simp; done) | (simp; done))
              have zew_heap_size6 : w.heap.size < w6.heap.size := block_lt_of_cell cew_heap_size6_0
              have cew_heap_size_16_0 : w6.cell? ⟨w.heap.size + 1, 0, none⟩ = some (.int .i64 c) := hXR.cell (by first | (simp; done) | (simp; omega)) (by first | assumption | (go_simp; done) | (simp; done))
              have cew_heap_size_16_1 : w6.cell? ⟨w.heap.size + 1, 1, none⟩ = some (.int .i64 d) := hXR.cell (by first | (simp; done) | (simp; omega)) (by first | assumption | (go_simp; done) | (simp; done))
              have zew_heap_size_16 : w.heap.size + 1 < w6.heap.size := block_lt_of_cell cew_heap_size_16_0
              have cew1_heap_size6_0 : w6.cell? ⟨w1.heap.size, 0, none⟩ = some (.int .i64 Q1) := hXR.cell (by first | (simp; done) | (simp; omega)) (by first | assumption | (go_simp; done) | (simp; done))
              have cew1_heap_size6_1 : w6.cell? ⟨w1.heap.size, 1, none⟩ = some (.int .i64 Q2) := hXR.cell (by first | (simp; done) | (simp; omega)) (by first | assumption | (go_simp; done) | (simp; done))
              have zew1_heap_size6 : w1.heap.size < w6.heap.size := block_lt_of_cell cew1_heap_size6_0
              have cew1_heap_size_16_0 : w6.cell? ⟨w1.heap.size + 1, 0, none⟩ = some (.int .i64 R1) := hXR.cell (by first | (simp; done) | (simp; omega)) (by first | assumption | (go_simp; done) | (simp; done))
              have cew1_heap_size_16_1 : w6.cell? ⟨w1.heap.size + 1, 1, none⟩ = some (.int .i64 R2) := hXR.cell (by first | (simp; done) | (simp; omega)) (by first | assumption | (go_simp; done) | (simp; done))
              have zew1_heap_size_16 : w1.heap.size + 1 < w6.heap.size := block_lt_of_cell cew1_heap_size_16_0
              have cew4_heap_size6_0 : w6.cell? ⟨w4.heap.size, 0, none⟩ = some (.int .i64 Q1) := hXR.cell (by first | (simp; done) | (simp; omega)) (by first | assumption | (go_simp; done) | (simp; done))
              have cew4_heap_size6_1 : w6.cell? ⟨w4.heap.size, 1, none⟩ = some (.int .i64 Q2) := hXR.cell (by first | (simp; done) | (simp; omega)) (by first | assumption | (go_simp; done) | (simp; done))
              have zew4_heap_size6 : w4.heap.size < w6.heap.size := block_lt_of_cell cew4_heap_size6_0
              have ceg96_0 := row2_0 hblk9
              have ceg96_1 := row2_1 hblk9
              have zeg96 := blk_lt hblk9
              have hsz_6 := B6.size
              clear hXR
              go_wp2_with fail
              refine (refNumber _ _ _).mono ?_
              rintro e w7 ⟨rfl, hb7⟩
              have z7_0 : w.heap.size < w7.heap.size := by have := hb7.size; (try simp at this); omega
              have z7_1 : w.heap.size + 1 < w7.heap.size := by have := hb7.size; (try simp at this); omega
              have cew_heap_size7_0 : w7.cell? ⟨w.heap.size, 0, none⟩ = some (.int .i64 a) := keep_cell hb7 (by first | assumption | (go_simp; done) | (simp; done) | simp [*])
              have zew_heap_size7 : w.heap.size < w7.heap.size := block_lt_of_cell cew_heap_size7_0
              have cew_heap_size7_1 : w7.cell? ⟨w.heap.size, 1, none⟩ = some (.int .i64 b) := keep_cell hb7 (by first | assumption | (go_simp; done) | (simp; done) | simp [*])
              have cew_heap_size_17_0 : w7.cell? ⟨w.heap.size + 1, 0, none⟩ = some (.int .i64 c) := keep_cell hb7 (by first | assumption | (go_simp; done) | (simp; done) | simp [*])
              have zew_heap_size_17 : w.heap.size + 1 < w7.heap.size := block_lt_of_cell cew_heap_size_17_0
              have cew_heap_size_17_1 : w7.cell? ⟨w.heap.size + 1, 1, none⟩ = some (.int .i64 d) := keep_cell hb7 (by first | assumption | (go_simp; done) | (simp; done) | simp [*])
              have cew1_heap_size7_0 : w7.cell? ⟨w1.heap.size, 0, none⟩ = some (.int .i64 Q1) := keep_cell hb7 (by first | assumption | (go_simp; done) | (simp; done) | simp [*])
              have zew1_heap_size7 : w1.heap.size < w7.heap.size := block_lt_of_cell cew1_heap_size7_0
              have cew1_heap_size7_1 : w7.cell? ⟨w1.heap.size, 1, none⟩ = some (.int .i64 Q2) := keep_cell hb7 (by first | assumption | (go_simp; done) | (simp; done) | simp [*])
              have cew1_heap_size_17_0 : w7.cell? ⟨w1.heap.size + 1, 0, none⟩ = some (.int .i64 R1) := keep_cell hb7 (by first | assumption | (go_simp; done) | (simp; done) | simp [*])
              have zew1_heap_size_17 : w1.heap.size + 1 < w7.heap.size := block_lt_of_cell cew1_heap_size_17_0
              have cew1_heap_size_17_1 : w7.cell? ⟨w1.heap.size + 1, 1, none⟩ = some (.int .i64 R2) := keep_cell hb7 (by first | assumption | (go_simp; done) | (simp; done) | simp [*])
              have cew4_heap_size7_0 : w7.cell? ⟨w4.heap.size, 0, none⟩ = some (.int .i64 Q1) := keep_cell hb7 (by first | assumption | (go_simp; done) | (simp; done) | simp [*])
              have zew4_heap_size7 : w4.heap.size < w7.heap.size := block_lt_of_cell cew4_heap_size7_0
              have cew4_heap_size7_1 : w7.cell? ⟨w4.heap.size, 1, none⟩ = some (.int .i64 Q2) := keep_cell hb7 (by first | assumption | (go_simp; done) | (simp; done) | simp [*])
              have ceg97_0 : w7.cell? ⟨g9, 0, none⟩ = some (.int .i64 R1) := keep_cell hb7 (by first | assumption | (go_simp; done) | (simp; done) | simp [*])
              have zeg97 : g9 < w7.heap.size := block_lt_of_cell ceg97_0
              have ceg97_1 : w7.cell? ⟨g9, 1, none⟩ = some (.int .i64 R2) := keep_cell hb7 (by first | assumption | (go_simp; done) | (simp; done) | simp [*])
              have B7 : Below w.heap.size w w7 := bl_call (by repeat (first | exact Below.refl _ _ | exact Nat.le_refl _ | refine Below.alloc ?_ ?_ _ | refine Below.setCell ?_ ?_ _ | refine Below.drew ?_ | refine bl_drewN ?_ _ | (assumption) | refine bl_call ?_ (by assumption) ?_ | omega | (simp <;> omega))) hb7 (by first | assumption | (simp; done) | (simp; omega) | omega)
              clear hb7
              have hsz_7 := B7.size
              rw [K2.out]
              go_wp2_with fail
              refine (awake_any _).mono ?_
              rintro e w8 ⟨rfl, hb8⟩
              have z8_0 : w.heap.size < w8.heap.size := by have := hb8.size; (try simp at this); omega
              have z8_1 : w.heap.size + 1 < w8.heap.size := by have := hb8.size; (try simp at this); omega
              have cew_heap_size8_0 : w8.cell? ⟨w.heap.size, 0, none⟩ = some (.int .i64 a) := keep_cell hb8 (by first | assumption | (go_simp; done) | (simp; done) | simp [*])
              have zew_heap_size8 : w.heap.size < w8.heap.size := block_lt_of_cell cew_heap_size8_0
              have cew_heap_size8_1 : w8.cell? ⟨w.heap.size, 1, none⟩ = some (.int .i64 b) := keep_cell hb8 (by first | assumption | (go_simp; done) | (simp; done) | simp [*])
              have cew_heap_size_18_0 : w8.cell? ⟨w.heap.size + 1, 0, none⟩ = some (.int .i64 c) := keep_cell hb8 (by first | assumption | (go_simp; done) | (simp; done) | simp [*])
              have zew_heap_size_18 : w.heap.size + 1 < w8.heap.size := block_lt_of_cell cew_heap_size_18_0
              have cew_heap_size_18_1 : w8.cell? ⟨w.heap.size + 1, 1, none⟩ = some (.int .i64 d) := keep_cell hb8 (by first | assumption | (go_simp; done) | (simp; done) | simp [*])
              have cew1_heap_size8_0 : w8.cell? ⟨w1.heap.size, 0, none⟩ = some (.int .i64 Q1) := keep_cell hb8 (by first | assumption | (go_simp; done) | (simp; done) | simp [*])
              have zew1_heap_size8 : w1.heap.size < w8.heap.size := block_lt_of_cell cew1_heap_size8_0
              have cew1_heap_size8_1 : w8.cell? ⟨w1.heap.size, 1, none⟩ = some (.int .i64 Q2) := keep_cell hb8 (by first | assumption | (go_simp; done) | (simp; done) | simp [*])
              have cew1_heap_size_18_0 : w8.cell? ⟨w1.heap.size + 1, 0, none⟩ = some (.int .i64 R1) := keep_cell hb8 (by first | assumption | (go_simp; done) | (simp; done) | simp [*])
              have zew1_heap_size_18 : w1.heap.size + 1 < w8.heap.size := block_lt_of_cell cew1_heap_size_18_0
              have cew1_heap_size_18_1 : w8.cell? ⟨w1.heap.size + 1, 1, none⟩ = some (.int .i64 R2) := keep_cell hb8 (by first | assumption | (go_simp; done) | (simp; done) | simp [*])
              have cew4_heap_size8_0 : w8.cell? ⟨w4.heap.size, 0, none⟩ = some (.int .i64 Q1) := keep_cell hb8 (by first | assumption | (go_simp; done) | (simp; done) | simp [*])
              have zew4_heap_size8 : w4.heap.size < w8.heap.size := block_lt_of_cell cew4_heap_size8_0
              have cew4_heap_size8_1 : w8.cell? ⟨w4.heap.size, 1, none⟩ = some (.int .i64 Q2) := keep_cell hb8 (by first | assumption | (go_simp; done) | (simp; done) | simp [*])
              have ceg98_0 : w8.cell? ⟨g9, 0, none⟩ = some (.int .i64 R1) := keep_cell hb8 (by first | assumption | (go_simp; done) | (simp; done) | simp [*])
              have zeg98 : g9 < w8.heap.size := block_lt_of_cell ceg98_0
              have ceg98_1 : w8.cell? ⟨g9, 1, none⟩ = some (.int .i64 R2) := keep_cell hb8 (by first | assumption | (go_simp; done) | (simp; done) | simp [*])
              have B8 : Below w.heap.size w w8 := bl_call (by repeat (first | exact Below.refl _ _ | exact Nat.le_refl _ | refine Below.alloc ?_ ?_ _ | refine Below.setCell ?_ ?_ _ | refine Below.drew ?_ | refine bl_drewN ?_ _ | (assumption) | refine bl_call ?_ (by assumption) ?_ | omega | (simp <;> omega))) hb8 (by first | assumption | (simp; done) | (simp; omega) | omega)
              clear hb8
              have hsz_8 := B8.size
              go_wp2_with fail
              go_ret
              exact ⟨rfl, (by repeat (first | exact Below.refl _ _ | exact Nat.le_refl _ | refine Below.alloc ?_ ?_ _ | refine Below.setCell ?_ ?_ _ | refine Below.drew ?_ | refine bl_drewN ?_ _ | (assumption) | refine bl_call ?_ (by assumption) ?_ | omega | (simp <;> omega)))⟩
            ·
              go_enter Tryd.func4, Tryd.ntmps4
              go_wp2_with fail
              refine (HC.out _).mono ?_
              rintro e w1 ⟨rfl, hb1⟩
              have z1_0 : w.heap.size < w1.heap.size := by have := hb1.size; (try simp at this); omega
              have z1_1 : w.heap.size + 1 < w1.heap.size := by have := hb1.size; (try simp at this); omega
              have cew_heap_size1_0 : w1.cell? ⟨w.heap.size, 0, none⟩ = some (.int .i64 a) := keep_cell hb1 (by first | assumption | (go_simp; done) | (simp; done) | simp [*])
              have zew_heap_size1 : w.heap.size < w1.heap.size := block_lt_of_cell cew_heap_size1_0
              have cew_heap_size1_1 : w1.cell? ⟨w.heap.size, 1, none⟩ = some (.int .i64 b) := keep_cell hb1 (by first | assumption | (go_simp; done) | (simp; done) | simp [*])
              have cew_heap_size_11_0 : w1.cell? ⟨w.heap.size + 1, 0, none⟩ = some (.int .i64 0) := keep_cell hb1 (by first | assumption | (go_simp; done) | (simp; done) | simp [*])
              have zew_heap_size_11 : w.heap.size + 1 < w1.heap.size := block_lt_of_cell cew_heap_size_11_0
              have cew_heap_size_11_1 : w1.cell? ⟨w.heap.size + 1, 1, none⟩ = some (.int .i64 d) := keep_cell hb1 (by first | assumption | (go_simp; done) | (simp; done) | simp [*])
              have B1 : Below w.heap.size w w1 := bl_call (by repeat (first | exact Below.refl _ _ | exact Nat.le_refl _ | refine Below.alloc ?_ ?_ _ | refine Below.setCell ?_ ?_ _ | refine Below.drew ?_ | refine bl_drewN ?_ _ | (assumption) | refine bl_call ?_ (by assumption) ?_ | omega | (simp <;> omega))) hb1 (by first | assumption | (simp; done) | (simp; omega) | omega)
              clear hb1
              have hsz_1 := B1.size
              go_wp2_with fail
              refine (refNumber _ _ _).mono ?_
              rintro e w2 ⟨rfl, hb2⟩
              have z2_0 : w.heap.size < w2.heap.size := by have := hb2.size; (try simp at this); omega
              have z2_1 : w.heap.size + 1 < w2.heap.size := by have := hb2.size; (try simp at this); omega
              have cew_heap_size2_0 : w2.cell? ⟨w.heap.size, 0, none⟩ = some (.int .i64 a) := keep_cell hb2 (by first | assumption | (go_simp; done) | (simp; done) | simp [*])
              have zew_heap_size2 : w.heap.size < w2.heap.size := block_lt_of_cell cew_heap_size2_0
              have cew_heap_size2_1 : w2.cell? ⟨w.heap.size, 1, none⟩ = some (.int .i64 b) := keep_cell hb2 (by first | assumption | (go_simp; done) | (simp; done) | simp [*])
              have cew_heap_size_12_0 : w2.cell? ⟨w.heap.size + 1, 0, none⟩ = some (.int .i64 0) := keep_cell hb2 (by first | assumption | (go_simp; done) | (simp; done) | simp [*])
              have zew_heap_size_12 : w.heap.size + 1 < w2.heap.size := block_lt_of_cell cew_heap_size_12_0
              have cew_heap_size_12_1 : w2.cell? ⟨w.heap.size + 1, 1, none⟩ = some (.int .i64 d) := keep_cell hb2 (by first | assumption | (go_simp; done) | (simp; done) | simp [*])
              have cew1_heap_size2_0 : w2.cell? ⟨w1.heap.size, 0, none⟩ = some (.int .i64 Q1) := keep_cell hb2 (by first | assumption | (go_simp; done) | (simp; done) | simp [*])
              have zew1_heap_size2 : w1.heap.size < w2.heap.size := block_lt_of_cell cew1_heap_size2_0
              have cew1_heap_size2_1 : w2.cell? ⟨w1.heap.size, 1, none⟩ = some (.int .i64 Q2) := keep_cell hb2 (by first | assumption | (go_simp; done) | (simp; done) | simp [*])
              have cew1_heap_size_12_0 : w2.cell? ⟨w1.heap.size + 1, 0, none⟩ = some (.int .i64 R1) := keep_cell hb2 (by first | assumption | (go_simp; done) | (simp; done) | simp [*])
              have zew1_heap_size_12 : w1.heap.size + 1 < w2.heap.size := block_lt_of_cell cew1_heap_size_12_0
              have cew1_heap_size_12_1 : w2.cell? ⟨w1.heap.size + 1, 1, none⟩ = some (.int .i64 R2) := keep_cell hb2 (by first | assumption | (go_simp; done) | (simp; done) | simp [*])
              have B2 : Below w.heap.size w w2 := bl_call (by repeat (first | exact Below.refl _ _ | exact Nat.le_refl _ | refine Below.alloc ?_ ?_ _ | refine Below.setCell ?_ ?_ _ | refine Below.drew ?_ | refine bl_drewN ?_ _ | (assumption) | refine bl_call ?_ (by assumption) ?_ | omega | (simp <;> omega))) hb2 (by first | assumption | (simp; done) | (simp; omega) | omega)
              clear hb2
              have hsz_2 := B2.size
              rw [H1.out]
              go_wp2_with fail
              refine (refNumber _ _ _).mono ?_
              rintro e w3 ⟨rfl, hb3⟩
              have z3_0 : w.heap.size < w3.heap.size := by have := hb3.size; (try simp at this); omega
              have z3_1 : w.heap.size + 1 < w3.heap.size := by have := hb3.size; (try simp at this); omega
              have cew_heap_size3_0 : w3.cell? ⟨w.heap.size, 0, none⟩ = some (.int .i64 a) := keep_cell hb3 (by first | assumption | (go_simp; done) | (simp; done) | simp [*])
              have zew_heap_size3 : w.heap.size < w3.heap.size := block_lt_of_cell cew_heap_size3_0
              have cew_heap_size3_1 : w3.cell? ⟨w.heap.size, 1, none⟩ = some (.int .i64 b) := keep_cell hb3 (by first | assumption | (go_simp; done) | (simp; done) | simp [*])
              have cew_heap_size_13_0 : w3.cell? ⟨w.heap.size + 1, 0, none⟩ = some (.int .i64 0) := keep_cell hb3 (by first | assumption | (go_simp; done) | (simp; done) | simp [*])
              have zew_heap_size_13 : w.heap.size + 1 < w3.heap.size := block_lt_of_cell cew_heap_size_13_0
              have cew_heap_size_13_1 : w3.cell? ⟨w.heap.size + 1, 1, none⟩ = some (.int .i64 d) := keep_cell hb3 (by first | assumption | (go_simp; done) | (simp; done) | simp [*])
              have cew1_heap_size3_0 : w3.cell? ⟨w1.heap.size, 0, none⟩ = some (.int .i64 Q1) := keep_cell hb3 (by first | assumption | (go_simp; done) | (simp; done) | simp [*])
              have zew1_heap_size3 : w1.heap.size < w3.heap.size := block_lt_of_cell cew1_heap_size3_0
              have cew1_heap_size3_1 : w3.cell? ⟨w1.heap.size, 1, none⟩ = some (.int .i64 Q2) := keep_cell hb3 (by first | assumption | (go_simp; done) | (simp; done) | simp [*])
              have cew1_heap_size_13_0 : w3.cell? ⟨w1.heap.size + 1, 0, none⟩ = some (.int .i64 R1) := keep_cell hb3 (by first | assumption | (go_simp; done) | (simp; done) | simp [*])
              have zew1_heap_size_13 : w1.heap.size + 1 < w3.heap.size := block_lt_of_cell cew1_heap_size_13_0
              have cew1_heap_size_13_1 : w3.cell? ⟨w1.heap.size + 1, 1, none⟩ = some (.int .i64 R2) := keep_cell hb3 (by first | assumption | (go_simp; done) | (simp; done) | simp [*])
              have B3 : Below w.heap.size w w3 := bl_call (by repeat (first | exact Below.refl _ _ | exact Nat.le_refl _ | refine Below.alloc ?_ ?_ _ | refine Below.setCell ?_ ?_ _ | refine Below.drew ?_ | refine bl_drewN ?_ _ | (assumption) | refine bl_call ?_ (by assumption) ?_ | omega | (simp <;> omega))) hb3 (by first | assumption | (simp; done) | (simp; omega) | omega)
              clear hb3
              have hsz_3 := B3.size
              rw [H2.out]
              go_wp2_with fail
              refine (HQ.out _).mono ?_
              rintro e w4 ⟨rfl, hb4⟩
              have z4_0 : w.heap.size < w4.heap.size := by have := hb4.size; (try simp at this); omega
              have z4_1 : w.heap.size + 1 < w4.heap.size := by have := hb4.size; (try simp at this); omega
              have cew_heap_size4_0 : w4.cell? ⟨w.heap.size, 0, none⟩ = some (.int .i64 a) := keep_cell hb4 (by first | assumption | (go_simp; done) | (simp; done) | simp [*])
              have zew_heap_size4 : w.heap.size < w4.heap.size := block_lt_of_cell cew_heap_size4_0
              have cew_heap_size4_1 : w4.cell? ⟨w.heap.size, 1, none⟩ = some (.int .i64 b) := keep_cell hb4 (by first | assumption | (go_simp; done) | (simp; done) | simp [*])
              have cew_heap_size_14_0 : w4.cell? ⟨w.heap.size + 1, 0, none⟩ = some (.int .i64 0) := keep_cell hb4 (by first | assumption | (go_simp; done) | (simp; done) | simp [*])
              have zew_heap_size_14 : w.heap.size + 1 < w4.heap.size := block_lt_of_cell cew_heap_size_14_0
              have cew_heap_size_14_1 : w4.cell? ⟨w.heap.size + 1, 1, none⟩ = some (.int .i64 d) := keep_cell hb4 (by first | assumption | (go_simp; done) | (simp; done) | simp [*])
              have cew1_heap_size4_0 : w4.cell? ⟨w1.heap.size, 0, none⟩ = some (.int .i64 Q1) := keep_cell hb4 (by first | assumption | (go_simp; done) | (simp; done) | simp [*])
              have zew1_heap_size4 : w1.heap.size < w4.heap.size := block_lt_of_cell cew1_heap_size4_0
              have cew1_heap_size4_1 : w4.cell? ⟨w1.heap.size, 1, none⟩ = some (.int .i64 Q2) := keep_cell hb4 (by first | assumption | (go_simp; done) | (simp; done) | simp [*])
              have cew1_heap_size_14_0 : w4.cell? ⟨w1.heap.size + 1, 0, none⟩ = some (.int .i64 R1) := keep_cell hb4 (by first | assumption | (go_simp; done) | (simp; done) | simp [*])
              have zew1_heap_size_14 : w1.heap.size + 1 < w4.heap.size := block_lt_of_cell cew1_heap_size_14_0
              have cew1_heap_size_14_1 : w4.cell? ⟨w1.heap.size + 1, 1, none⟩ = some (.int .i64 R2) := keep_cell hb4 (by first | assumption | (go_simp; done) | (simp; done) | simp [*])
              have B4 : Below w.heap.size w w4 := bl_call (by repeat (first | exact Below.refl _ _ | exact Nat.le_refl _ | refine Below.alloc ?_ ?_ _ | refine Below.setCell ?_ ?_ _ | refine Below.drew ?_ | refine bl_drewN ?_ _ | (assumption) | refine bl_call ?_ (by assumption) ?_ | omega | (simp <;> omega))) hb4 (by first | assumption | (simp; done) | (simp; omega) | omega)
              clear hb4
              have hsz_4 := B4.size
              go_wp2_with fail
              refine (refNumber _ _ _).mono ?_
              rintro e w5 ⟨rfl, hb5⟩
              have z5_0 : w.heap.size < w5.heap.size := by have := hb5.size; (try simp at this); omega
              have z5_1 : w.heap.size + 1 < w5.heap.size := by have := hb5.size; (try simp at this); omega
              have cew_heap_size5_0 : w5.cell? ⟨w.heap.size, 0, none⟩ = some (.int .i64 a) := keep_cell hb5 (by first | assumption | (go_simp; done) | (simp; done) | simp [*])
              have zew_heap_size5 : w.heap.size < w5.heap.size := block_lt_of_cell cew_heap_size5_0
              have cew_heap_size5_1 : w5.cell? ⟨w.heap.size, 1, none⟩ = some (.int .i64 b) := keep_cell hb5 (by first | assumption | (go_simp; done) | (simp; done) | simp [*])
              have cew_heap_size_15_0 : w5.cell? ⟨w.heap.size + 1, 0, none⟩ = some (.int .i64 0) := keep_cell hb5 (by first | assumption | (go_simp; done) | (simp; done) | simp [*])
              have zew_heap_size_15 : w.heap.size + 1 < w5.heap.size := block_lt_of_cell cew_heap_size_15_0
              have cew_heap_size_15_1 : w5.cell? ⟨w.heap.size + 1, 1, none⟩ = some (.int .i64 d) := keep_cell hb5 (by first | assumption | (go_simp; done) | (simp; done) | simp [*])
              have cew1_heap_size5_0 : w5.cell? ⟨w1.heap.size, 0, none⟩ = some (.int .i64 Q1) := keep_cell hb5 (by first | assumption | (go_simp; done) | (simp; done) | simp [*])
              have zew1_heap_size5 : w1.heap.size < w5.heap.size := block_lt_of_cell cew1_heap_size5_0
              have cew1_heap_size5_1 : w5.cell? ⟨w1.heap.size, 1, none⟩ = some (.int .i64 Q2) := keep_cell hb5 (by first | assumption | (go_simp; done) | (simp; done) | simp [*])
              have cew1_heap_size_15_0 : w5.cell? ⟨w1.heap.size + 1, 0, none⟩ = some (.int .i64 R1) := keep_cell hb5 (by first | assumption | (go_simp; done) | (simp; done) | simp [*])
              have zew1_heap_size_15 : w1.heap.size + 1 < w5.heap.size := block_lt_of_cell cew1_heap_size_15_0
              have cew1_heap_size_15_1 : w5.cell? ⟨w1.heap.size + 1, 1, none⟩ = some (.int .i64 R2) := keep_cell hb5 (by first | assumption | (go_simp; done) | (simp; done) | simp [*])
              have cew4_heap_size5_0 : w5.cell? ⟨w4.heap.size, 0, none⟩ = some (.int .i64 Q1) := keep_cell hb5 (by first | assumption | (go_simp; done) | (simp; done) | simp [*])
              have zew4_heap_size5 : w4.heap.size < w5.heap.size := block_lt_of_cell cew4_heap_size5_0
              have cew4_heap_size5_1 : w5.cell? ⟨w4.heap.size, 1, none⟩ = some (.int .i64 Q2) := keep_cell hb5 (by first | assumption | (go_simp; done) | (simp; done) | simp [*])
              have B5 : Below w.heap.size w w5 := bl_call (by repeat (first | exact Below.refl _ _ | exact Nat.le_refl _ | refine Below.alloc ?_ ?_ _ | refine Below.setCell ?_ ?_ _ | refine Below.drew ?_ | refine bl_drewN ?_ _ | (assumption) | refine bl_call ?_ (by assumption) ?_ | omega | (simp <;> omega))) hb5 (by first | assumption | (simp; done) | (simp; omega) | omega)
              clear hb5
              have hsz_5 := B5.size
              rw [K1.out]
              go_upto_region 6 with fail
              refine with_act fun a0 ha0 => ?_
              refine wp_region_inv (by kernel_rfl) (by kernel_rfl) (fun s a' w' => ∃ v50 v51 v52 v53 v54 v9 : Value, a' = putL a0 [(50, v50), (51, v51), (52, v52), (53, v53), (54, v54), (9, v9)] ∧ Hid ((s 0 = true → v50 = .agg #[.int .i64 a, .int .i64 b]) ∧ (s 1 = true → v51 = .agg #[.int .i64 Q1, .int .i64 Q2]) ∧ (s 2 = true → v52 = .agg #[.int .i64 0, .int .i64 d]) ∧ (s 3 = true → v53 = .agg #[.int .i64 (m1 + m2), .int .i64 (m3 + m4 + m2)]) ∧ (s 4 = true → v54 = .agg #[.int .i64 R1, .int .i64 R2]) ∧ True) ∧ BelX [] w5 w' ∧ (s 5 = true → ∃ (g : Nat) (c0 c1 : Value), v9 = .pointer (some ⟨g, 0, none⟩) ∧ w5.heap.size ≤ g ∧ w'.heap[g]? = some (.cells #[c0, c1] 23 (0, 0)) ∧ (s 6 = true → c0 = .int .i64 R1 ∧ c1 = .int .i64 R2)) ∧ (s 6 = true → s 5 = true) ∧ True) ?x2hzero ⟨?x2hs0, ?x2hs1, ?x2hs2, ?x2hs3, ?x2hs4, ?x2hs5, ?x2hs6, trivial⟩ ?x2hdone
              case x2hzero =>
                refine ⟨a0.tmps.getD 50 undef, a0.tmps.getD 51 undef, a0.tmps.getD 52 undef, a0.tmps.getD 53 undef, a0.tmps.getD 54 undef, a0.tmps.getD 9 undef, ?_, ?_, ?_, ?_, ?_, trivial⟩
                · simp only [putL, put_self]
                · exact Lib.hid ⟨fun h => (by simp at h), fun h => (by simp at h), fun h => (by simp at h), fun h => (by simp at h), fun h => (by simp at h), trivial⟩
                · exact BelX.start _ _
                · exact fun h => (by simp at h)
                · exact fun h => (by simp at h)
              case x2hs0 =>
                intro s a' w' hsk hdep hI K hK
                try dsimp only at hI hK
                obtain ⟨v50, v51, v52, v53, v54, v9, hact, hR, hX, hA9, hN9, _⟩ := hI
                subst hact
                have HK := Lib.hid hK
                clear hK
                have kc0 : w'.cell? ⟨w.heap.size, 0, none⟩ = some (.int .i64 a) := hX.cell (by first | (simp; done) | (simp; omega)) (by first | assumption | (go_simp; done) | (simp; done))
                have kc1 : w'.cell? ⟨w.heap.size, 1, none⟩ = some (.int .i64 b) := hX.cell (by first | (simp; done) | (simp; omega)) (by first | assumption | (go_simp; done) | (simp; done))
                have kc2 : w'.cell? ⟨w.heap.size + 1, 0, none⟩ = some (.int .i64 0) := hX.cell (by first | (simp; done) | (simp; omega)) (by first | assumption | (go_simp; done) | (simp; done))
                have kc3 : w'.cell? ⟨w.heap.size + 1, 1, none⟩ = some (.int .i64 d) := hX.cell (by first | (simp; done) | (simp; omega)) (by first | assumption | (go_simp; done) | (simp; done))
                have kc4 : w'.cell? ⟨w1.heap.size, 0, none⟩ = some (.int .i64 Q1) := hX.cell (by first | (simp; done) | (simp; omega)) (by first | assumption | (go_simp; done) | (simp; done))
                have kc5 : w'.cell? ⟨w1.heap.size, 1, none⟩ = some (.int .i64 Q2) := hX.cell (by first | (simp; done) | (simp; omega)) (by first | assumption | (go_simp; done) | (simp; done))
                have kc6 : w'.cell? ⟨w1.heap.size + 1, 0, none⟩ = some (.int .i64 R1) := hX.cell (by first | (simp; done) | (simp; omega)) (by first | assumption | (go_simp; done) | (simp; done))
                have kc7 : w'.cell? ⟨w1.heap.size + 1, 1, none⟩ = some (.int .i64 R2) := hX.cell (by first | (simp; done) | (simp; omega)) (by first | assumption | (go_simp; done) | (simp; done))
                have kc8 : w'.cell? ⟨w4.heap.size, 0, none⟩ = some (.int .i64 Q1) := hX.cell (by first | (simp; done) | (simp; omega)) (by first | assumption | (go_simp; done) | (simp; done))
                have kc9 : w'.cell? ⟨w4.heap.size, 1, none⟩ = some (.int .i64 Q2) := hX.cell (by first | (simp; done) | (simp; omega)) (by first | assumption | (go_simp; done) | (simp; done))
                clear hdep
                refine StepG.mk rfl ?_; rw [ha0]; simp only [putL, Act.put, List.setIfInBounds_toArray, List.set_cons_zero, List.set_cons_succ]
                go_wp2_with fail
                refine HK.out _ _ ?_
                refine ⟨(.agg #[.int .i64 a, .int .i64 b]), v51, v52, v53, v54, v9, (by rw [ha0]; simp only [putL, Act.put, List.setIfInBounds_toArray, List.set_cons_zero, List.set_cons_succ]), ?_, ?_, ?_, ?_, trivial⟩
                · obtain ⟨h50, h51, h52, h53, h54, _⟩ := hR.out
                  exact Lib.hid ⟨fun _ => rfl, fun h => h51 (by simpa using h), fun h => h52 (by simpa using h), fun h => h53 (by simpa using h), fun h => h54 (by simpa using h), trivial⟩
                · exact hX
                · intro h; obtain ⟨g, c0, c1, e, hg, hblk, hst⟩ := hA9 (by simpa using h); exact ⟨g, c0, c1, e, hg, hblk, fun h => hst (by simpa using h)⟩
                · exact fun h => (by have h1 := hN9 (by simpa using h); simp [h1])
              case x2hs1 =>
                intro s a' w' hsk hdep hI K hK
                try dsimp only at hI hK
                obtain ⟨v50, v51, v52, v53, v54, v9, hact, hR, hX, hA9, hN9, _⟩ := hI
                subst hact
                have HK := Lib.hid hK
                clear hK
                have kc0 : w'.cell? ⟨w.heap.size, 0, none⟩ = some (.int .i64 a) := hX.cell (by first | (simp; done) | (simp; omega)) (by first | assumption | (go_simp; done) | (simp; done))
                have kc1 : w'.cell? ⟨w.heap.size, 1, none⟩ = some (.int .i64 b) := hX.cell (by first | (simp; done) | (simp; omega)) (by first | assumption | (go_simp; done) | (simp; done))
                have kc2 : w'.cell? ⟨w.heap.size + 1, 0, none⟩ = some (.int .i64 0) := hX.cell (by first | (simp; done) | (simp; omega)) (by first | assumption | (go_simp; done) | (simp; done))
                have kc3 : w'.cell? ⟨w.heap.size + 1, 1, none⟩ = some (.int .i64 d) := hX.cell (by first | (simp; done) | (simp; omega)) (by first | assumption | (go_simp; done) | (simp; done))
                have kc4 : w'.cell? ⟨w1.heap.size, 0, none⟩ = some (.int .i64 Q1) := hX.cell (by first | (simp; done) | (simp; omega)) (by first | assumption | (go_simp; done) | (simp; done))
                have kc5 : w'.cell? ⟨w1.heap.size, 1, none⟩ = some (.int .i64 Q2) := hX.cell (by first | (simp; done) | (simp; omega)) (by first | assumption | (go_simp; done) | (simp; done))
                have kc6 : w'.cell? ⟨w1.heap.size + 1, 0, none⟩ = some (.int .i64 R1) := hX.cell (by first | (simp; done) | (simp; omega)) (by first | assumption | (go_simp; done) | (simp; done))
                have kc7 : w'.cell? ⟨w1.heap.size + 1, 1, none⟩ = some (.int .i64 R2) := hX.cell (by first | (simp; done) | (simp; omega)) (by first | assumption | (go_simp; done) | (simp; done))
                have kc8 : w'.cell? ⟨w4.heap.size, 0, none⟩ = some (.int .i64 Q1) := hX.cell (by first | (simp; done) | (simp; omega)) (by first | assumption | (go_simp; done) | (simp; done))
                have kc9 : w'.cell? ⟨w4.heap.size, 1, none⟩ = some (.int .i64 Q2) := hX.cell (by first | (simp; done) | (simp; omega)) (by first | assumption | (go_simp; done) | (simp; done))
                clear hdep
                refine StepG.mk rfl ?_; rw [ha0]; simp only [putL, Act.put, List.setIfInBounds_toArray, List.set_cons_zero, List.set_cons_succ]
                go_wp2_with fail
                refine HK.out _ _ ?_
                refine ⟨v50, (.agg #[.int .i64 Q1, .int .i64 Q2]), v52, v53, v54, v9, (by rw [ha0]; simp only [putL, Act.put, List.setIfInBounds_toArray, List.set_cons_zero, List.set_cons_succ]), ?_, ?_, ?_, ?_, trivial⟩
                · obtain ⟨h50, h51, h52, h53, h54, _⟩ := hR.out
                  exact Lib.hid ⟨fun h => h50 (by simpa using h), fun _ => rfl, fun h => h52 (by simpa using h), fun h => h53 (by simpa using h), fun h => h54 (by simpa using h), trivial⟩
                · exact hX
                · intro h; obtain ⟨g, c0, c1, e, hg, hblk, hst⟩ := hA9 (by simpa using h); exact ⟨g, c0, c1, e, hg, hblk, fun h => hst (by simpa using h)⟩
                · exact fun h => (by have h1 := hN9 (by simpa using h); simp [h1])
              case x2hs2 =>
                intro s a' w' hsk hdep hI K hK
                try dsimp only at hI hK
                obtain ⟨v50, v51, v52, v53, v54, v9, hact, hR, hX, hA9, hN9, _⟩ := hI
                subst hact
                have HK := Lib.hid hK
                clear hK
                have kc0 : w'.cell? ⟨w.heap.size, 0, none⟩ = some (.int .i64 a) := hX.cell (by first | (simp; done) | (simp; omega)) (by first | assumption | (go_simp; done) | (simp; done))
                have kc1 : w'.cell? ⟨w.heap.size, 1, none⟩ = some (.int .i64 b) := hX.cell (by first | (simp; done) | (simp; omega)) (by first | assumption | (go_simp; done) | (simp; done))
                have kc2 : w'.cell? ⟨w.heap.size + 1, 0, none⟩ = some (.int .i64 0) := hX.cell (by first | (simp; done) | (simp; omega)) (by first | assumption | (go_simp; done) | (simp; done))
                have kc3 : w'.cell? ⟨w.heap.size + 1, 1, none⟩ = some (.int .i64 d) := hX.cell (by first | (simp; done) | (simp; omega)) (by first | assumption | (go_simp; done) | (simp; done))
                have kc4 : w'.cell? ⟨w1.heap.size, 0, none⟩ = some (.int .i64 Q1) := hX.cell (by first | (simp; done) | (simp; omega)) (by first | assumption | (go_simp; done) | (simp; done))
                have kc5 : w'.cell? ⟨w1.heap.size, 1, none⟩ = some (.int .i64 Q2) := hX.cell (by first | (simp; done) | (simp; omega)) (by first | assumption | (go_simp; done) | (simp; done))
                have kc6 : w'.cell? ⟨w1.heap.size + 1, 0, none⟩ = some (.int .i64 R1) := hX.cell (by first | (simp; done) | (simp; omega)) (by first | assumption | (go_simp; done) | (simp; done))
                have kc7 : w'.cell? ⟨w1.heap.size + 1, 1, none⟩ = some (.int .i64 R2) := hX.cell (by first | (simp; done) | (simp; omega)) (by first | assumption | (go_simp; done) | (simp; done))
                have kc8 : w'.cell? ⟨w4.heap.size, 0, none⟩ = some (.int .i64 Q1) := hX.cell (by first | (simp; done) | (simp; omega)) (by first | assumption | (go_simp; done) | (simp; done))
                have kc9 : w'.cell? ⟨w4.heap.size, 1, none⟩ = some (.int .i64 Q2) := hX.cell (by first | (simp; done) | (simp; omega)) (by first | assumption | (go_simp; done) | (simp; done))
                clear hdep
                refine StepG.mk rfl ?_; rw [ha0]; simp only [putL, Act.put, List.setIfInBounds_toArray, List.set_cons_zero, List.set_cons_succ]
                go_wp2_with fail
                refine HK.out _ _ ?_
                refine ⟨v50, v51, (.agg #[.int .i64 0, .int .i64 d]), v53, v54, v9, (by rw [ha0]; simp only [putL, Act.put, List.setIfInBounds_toArray, List.set_cons_zero, List.set_cons_succ]), ?_, ?_, ?_, ?_, trivial⟩
                · obtain ⟨h50, h51, h52, h53, h54, _⟩ := hR.out
                  exact Lib.hid ⟨fun h => h50 (by simpa using h), fun h => h51 (by simpa using h), fun _ => rfl, fun h => h53 (by simpa using h), fun h => h54 (by simpa using h), trivial⟩
                · exact hX
                · intro h; obtain ⟨g, c0, c1, e, hg, hblk, hst⟩ := hA9 (by simpa using h); exact ⟨g, c0, c1, e, hg, hblk, fun h => hst (by simpa using h)⟩
                · exact fun h => (by have h1 := hN9 (by simpa using h); simp [h1])
              case x2hs3 =>
                intro s a' w' hsk hdep hI K hK
                try dsimp only at hI hK
                obtain ⟨v50, v51, v52, v53, v54, v9, hact, hR, hX, hA9, hN9, _⟩ := hI
                subst hact
                have HK := Lib.hid hK
                clear hK
                have e51 : v51 = .agg #[.int .i64 Q1, .int .i64 Q2] := by obtain ⟨h50, h51, h52, h53, h54, _⟩ := hR.out; exact h51 (hdep ⟨1, .data⟩ (by simp) rfl)
                subst e51
                have e52 : v52 = .agg #[.int .i64 0, .int .i64 d] := by obtain ⟨h50, h51, h52, h53, h54, _⟩ := hR.out; exact h52 (hdep ⟨2, .data⟩ (by simp) rfl)
                subst e52
                have kc0 : w'.cell? ⟨w.heap.size, 0, none⟩ = some (.int .i64 a) := hX.cell (by first | (simp; done) | (simp; omega)) (by first | assumption | (go_simp; done) | (simp; done))
                have kc1 : w'.cell? ⟨w.heap.size, 1, none⟩ = some (.int .i64 b) := hX.cell (by first | (simp; done) | (simp; omega)) (by first | assumption | (go_simp; done) | (simp; done))
                have kc2 : w'.cell? ⟨w.heap.size + 1, 0, none⟩ = some (.int .i64 0) := hX.cell (by first | (simp; done) | (simp; omega)) (by first | assumption | (go_simp; done) | (simp; done))
                have kc3 : w'.cell? ⟨w.heap.size + 1, 1, none⟩ = some (.int .i64 d) := hX.cell (by first | (simp; done) | (simp; omega)) (by first | assumption | (go_simp; done) | (simp; done))
                have kc4 : w'.cell? ⟨w1.heap.size, 0, none⟩ = some (.int .i64 Q1) := hX.cell (by first | (simp; done) | (simp; omega)) (by first | assumption | (go_simp; done) | (simp; done))
                have kc5 : w'.cell? ⟨w1.heap.size, 1, none⟩ = some (.int .i64 Q2) := hX.cell (by first | (simp; done) | (simp; omega)) (by first | assumption | (go_simp; done) | (simp; done))
                have kc6 : w'.cell? ⟨w1.heap.size + 1, 0, none⟩ = some (.int .i64 R1) := hX.cell (by first | (simp; done) | (simp; omega)) (by first | assumption | (go_simp; done) | (simp; done))
                have kc7 : w'.cell? ⟨w1.heap.size + 1, 1, none⟩ = some (.int .i64 R2) := hX.cell (by first | (simp; done) | (simp; omega)) (by first | assumption | (go_simp; done) | (simp; done))
                have kc8 : w'.cell? ⟨w4.heap.size, 0, none⟩ = some (.int .i64 Q1) := hX.cell (by first | (simp; done) | (simp; omega)) (by first | assumption | (go_simp; done) | (simp; done))
                have kc9 : w'.cell? ⟨w4.heap.size, 1, none⟩ = some (.int .i64 Q2) := hX.cell (by first | (simp; done) | (simp; omega)) (by first | assumption | (go_simp; done) | (simp; done))
                clear hdep
                refine StepG.mk rfl ?_; rw [ha0]; simp only [putL, Act.put, List.setIfInBounds_toArray, List.set_cons_zero, List.set_cons_succ]
                go_wp2_with fail
                refine ((HT.out _)).mono ?_
                rintro e wn ⟨rfl, hb⟩
                go_wp2_with fail
                refine HK.out _ _ ?_
                refine ⟨v50, (.agg #[.int .i64 Q1, .int .i64 Q2]), (.agg #[.int .i64 0, .int .i64 d]), (.agg #[.int .i64 (m1 + m2), .int .i64 (m3 + m4 + m2)]), v54, v9, (by rw [ha0]; simp only [putL, Act.put, List.setIfInBounds_toArray, List.set_cons_zero, List.set_cons_succ]), ?_, ?_, ?_, ?_, trivial⟩
                · obtain ⟨h50, h51, h52, h53, h54, _⟩ := hR.out
                  exact Lib.hid ⟨fun h => h50 (by simpa using h), fun _ => rfl, fun _ => rfl, fun _ => rfl, fun h => h54 (by simpa using h), trivial⟩
                · exact hX.call hb
                · intro h; obtain ⟨g, c0, c1, e, hg, hblk, hst⟩ := hA9 (by simpa using h); exact ⟨g, c0, c1, e, hg, (hb.block g (blk_lt hblk)).trans hblk, fun h => hst (by simpa using h)⟩
                · exact fun h => (by have h1 := hN9 (by simpa using h); simp [h1])
              case x2hs4 =>
                intro s a' w' hsk hdep hI K hK
                try dsimp only at hI hK
                obtain ⟨v50, v51, v52, v53, v54, v9, hact, hR, hX, hA9, hN9, _⟩ := hI
                subst hact
                have HK := Lib.hid hK
                clear hK
                have e50 : v50 = .agg #[.int .i64 a, .int .i64 b] := by obtain ⟨h50, h51, h52, h53, h54, _⟩ := hR.out; exact h50 (hdep ⟨0, .data⟩ (by simp) rfl)
                subst e50
                have e53 : v53 = .agg #[.int .i64 (m1 + m2), .int .i64 (m3 + m4 + m2)] := by obtain ⟨h50, h51, h52, h53, h54, _⟩ := hR.out; exact h53 (hdep ⟨3, .data⟩ (by simp) rfl)
                subst e53
                have kc0 : w'.cell? ⟨w.heap.size, 0, none⟩ = some (.int .i64 a) := hX.cell (by first | (simp; done) | (simp; omega)) (by first | assumption | (go_simp; done) | (simp; done))
                have kc1 : w'.cell? ⟨w.heap.size, 1, none⟩ = some (.int .i64 b) := hX.cell (by first | (simp; done) | (simp; omega)) (by first | assumption | (go_simp; done) | (simp; done))
                have kc2 : w'.cell? ⟨w.heap.size + 1, 0, none⟩ = some (.int .i64 0) := hX.cell (by first | (simp; done) | (simp; omega)) (by first | assumption | (go_simp; done) | (simp; done))
                have kc3 : w'.cell? ⟨w.heap.size + 1, 1, none⟩ = some (.int .i64 d) := hX.cell (by first | (simp; done) | (simp; omega)) (by first | assumption | (go_simp; done) | (simp; done))
                have kc4 : w'.cell? ⟨w1.heap.size, 0, none⟩ = some (.int .i64 Q1) := hX.cell (by first | (simp; done) | (simp; omega)) (by first | assumption | (go_simp; done) | (simp; done))
                have kc5 : w'.cell? ⟨w1.heap.size, 1, none⟩ = some (.int .i64 Q2) := hX.cell (by first | (simp; done) | (simp; omega)) (by first | assumption | (go_simp; done) | (simp; done))
                have kc6 : w'.cell? ⟨w1.heap.size + 1, 0, none⟩ = some (.int .i64 R1) := hX.cell (by first | (simp; done) | (simp; omega)) (by first | assumption | (go_simp; done) | (simp; done))
                have kc7 : w'.cell? ⟨w1.heap.size + 1, 1, none⟩ = some (.int .i64 R2) := hX.cell (by first | (simp; done) | (simp; omega)) (by first | assumption | (go_simp; done) | (simp; done))
                have kc8 : w'.cell? ⟨w4.heap.size, 0, none⟩ = some (.int .i64 Q1) := hX.cell (by first | (simp; done) | (simp; omega)) (by first | assumption | (go_simp; done) | (simp; done))
                have kc9 : w'.cell? ⟨w4.heap.size, 1, none⟩ = some (.int .i64 Q2) := hX.cell (by first | (simp; done) | (simp; omega)) (by first | assumption | (go_simp; done) | (simp; done))
                clear hdep
                refine StepG.mk rfl ?_; rw [ha0]; simp only [putL, Act.put, List.setIfInBounds_toArray, List.set_cons_zero, List.set_cons_succ]
                go_wp2_with fail
                refine ((HM.out _)).mono ?_
                rintro e wn ⟨rfl, hb⟩
                go_wp2_with fail
                refine HK.out _ _ ?_
                refine ⟨(.agg #[.int .i64 a, .int .i64 b]), v51, v52, (.agg #[.int .i64 (m1 + m2), .int .i64 (m3 + m4 + m2)]), (.agg #[.int .i64 R1, .int .i64 R2]), v9, (by rw [ha0]; simp only [putL, Act.put, List.setIfInBounds_toArray, List.set_cons_zero, List.set_cons_succ]), ?_, ?_, ?_, ?_, trivial⟩
                · obtain ⟨h50, h51, h52, h53, h54, _⟩ := hR.out
                  exact Lib.hid ⟨fun _ => rfl, fun h => h51 (by simpa using h), fun h => h52 (by simpa using h), fun _ => rfl, fun _ => rfl, trivial⟩
                · exact hX.call hb
                · intro h; obtain ⟨g, c0, c1, e, hg, hblk, hst⟩ := hA9 (by simpa using h); exact ⟨g, c0, c1, e, hg, (hb.block g (blk_lt hblk)).trans hblk, fun h => hst (by simpa using h)⟩
                · exact fun h => (by have h1 := hN9 (by simpa using h); simp [h1])
              case x2hs5 =>
                intro s a' w' hsk hdep hI K hK
                try dsimp only at hI hK
                obtain ⟨v50, v51, v52, v53, v54, v9, hact, hR, hX, hA9, hN9, _⟩ := hI
                subst hact
                have HK := Lib.hid hK
                clear hK
                have kc0 : w'.cell? ⟨w.heap.size, 0, none⟩ = some (.int .i64 a) := hX.cell (by first | (simp; done) | (simp; omega)) (by first | assumption | (go_simp; done) | (simp; done))
                have kc1 : w'.cell? ⟨w.heap.size, 1, none⟩ = some (.int .i64 b) := hX.cell (by first | (simp; done) | (simp; omega)) (by first | assumption | (go_simp; done) | (simp; done))
                have kc2 : w'.cell? ⟨w.heap.size + 1, 0, none⟩ = some (.int .i64 0) := hX.cell (by first | (simp; done) | (simp; omega)) (by first | assumption | (go_simp; done) | (simp; done))
                have kc3 : w'.cell? ⟨w.heap.size + 1, 1, none⟩ = some (.int .i64 d) := hX.cell (by first | (simp; done) | (simp; omega)) (by first | assumption | (go_simp; done) | (simp; done))
                have kc4 : w'.cell? ⟨w1.heap.size, 0, none⟩ = some (.int .i64 Q1) := hX.cell (by first | (simp; done) | (simp; omega)) (by first | assumption | (go_simp; done) | (simp; done))
                have kc5 : w'.cell? ⟨w1.heap.size, 1, none⟩ = some (.int .i64 Q2) := hX.cell (by first | (simp; done) | (simp; omega)) (by first | assumption | (go_simp; done) | (simp; done))
                have kc6 : w'.cell? ⟨w1.heap.size + 1, 0, none⟩ = some (.int .i64 R1) := hX.cell (by first | (simp; done) | (simp; omega)) (by first | assumption | (go_simp; done) | (simp; done))
                have kc7 : w'.cell? ⟨w1.heap.size + 1, 1, none⟩ = some (.int .i64 R2) := hX.cell (by first | (simp; done) | (simp; omega)) (by first | assumption | (go_simp; done) | (simp; done))
                have kc8 : w'.cell? ⟨w4.heap.size, 0, none⟩ = some (.int .i64 Q1) := hX.cell (by first | (simp; done) | (simp; omega)) (by first | assumption | (go_simp; done) | (simp; done))
                have kc9 : w'.cell? ⟨w4.heap.size, 1, none⟩ = some (.int .i64 Q2) := hX.cell (by first | (simp; done) | (simp; omega)) (by first | assumption | (go_simp; done) | (simp; done))
                clear hdep
                refine StepG.mk rfl ?_; rw [ha0]; simp only [putL, Act.put, List.setIfInBounds_toArray, List.set_cons_zero, List.set_cons_succ]
                go_wp2_with fail
                refine HK.out _ _ ?_
                refine ⟨v50, v51, v52, v53, v54, (.pointer (some ⟨w'.heap.size, 0, none⟩)), (by rw [ha0]; simp only [putL, Act.put, List.setIfInBounds_toArray, List.set_cons_zero, List.set_cons_succ]), ?_, ?_, ?_, ?_, trivial⟩
                · obtain ⟨h50, h51, h52, h53, h54, _⟩ := hR.out
                  exact Lib.hid ⟨fun h => h50 (by simpa using h), fun h => h51 (by simpa using h), fun h => h52 (by simpa using h), fun h => h53 (by simpa using h), fun h => h54 (by simpa using h), trivial⟩
                · exact hX.alloc _
                · exact fun _ => ⟨w'.heap.size, .int .i64 0, .int .i64 0, rfl, hX.size, blk_new w' _, fun h => (by have h1 := hN9 (by simpa using h); rw [h1] at hsk; cases hsk)⟩
                · exact fun _ => rfl
              case x2hs6 =>
                intro s a' w' hsk hdep hI K hK
                try dsimp only at hI hK
                obtain ⟨v50, v51, v52, v53, v54, v9, hact, hR, hX, hA9, hN9, _⟩ := hI
                subst hact
                have HK := Lib.hid hK
                clear hK
                have e54 : v54 = .agg #[.int .i64 R1, .int .i64 R2] := by obtain ⟨h50, h51, h52, h53, h54, _⟩ := hR.out; exact h54 (hdep ⟨4, .data⟩ (by simp) rfl)
                subst e54
                obtain ⟨g, c0, c1, ev, hg, hblk, hst⟩ := hA9 (hdep ⟨5, .data⟩ (by simp) rfl)
                subst ev
                have kc0 : w'.cell? ⟨w.heap.size, 0, none⟩ = some (.int .i64 a) := hX.cell (by first | (simp; done) | (simp; omega)) (by first | assumption | (go_simp; done) | (simp; done))
                have kc1 : w'.cell? ⟨w.heap.size, 1, none⟩ = some (.int .i64 b) := hX.cell (by first | (simp; done) | (simp; omega)) (by first | assumption | (go_simp; done) | (simp; done))
                have kc2 : w'.cell? ⟨w.heap.size + 1, 0, none⟩ = some (.int .i64 0) := hX.cell (by first | (simp; done) | (simp; omega)) (by first | assumption | (go_simp; done) | (simp; done))
                have kc3 : w'.cell? ⟨w.heap.size + 1, 1, none⟩ = some (.int .i64 d) := hX.cell (by first | (simp; done) | (simp; omega)) (by first | assumption | (go_simp; done) | (simp; done))
                have kc4 : w'.cell? ⟨w1.heap.size, 0, none⟩ = some (.int .i64 Q1) := hX.cell (by first | (simp; done) | (simp; omega)) (by first | assumption | (go_simp; done) | (simp; done))
                have kc5 : w'.cell? ⟨w1.heap.size, 1, none⟩ = some (.int .i64 Q2) := hX.cell (by first | (simp; done) | (simp; omega)) (by first | assumption | (go_simp; done) | (simp; done))
                have kc6 : w'.cell? ⟨w1.heap.size + 1, 0, none⟩ = some (.int .i64 R1) := hX.cell (by first | (simp; done) | (simp; omega)) (by first | assumption | (go_simp; done) | (simp; done))
                have kc7 : w'.cell? ⟨w1.heap.size + 1, 1, none⟩ = some (.int .i64 R2) := hX.cell (by first | (simp; done) | (simp; omega)) (by first | assumption | (go_simp; done) | (simp; done))
                have kc8 : w'.cell? ⟨w4.heap.size, 0, none⟩ = some (.int .i64 Q1) := hX.cell (by first | (simp; done) | (simp; omega)) (by first | assumption | (go_simp; done) | (simp; done))
                have kc9 : w'.cell? ⟨w4.heap.size, 1, none⟩ = some (.int .i64 Q2) := hX.cell (by first | (simp; done) | (simp; omega)) (by first | assumption | (go_simp; done) | (simp; done))
                have kb0 : w'.cell? ⟨g, 0, none⟩ = some c0 := cell_of_row w' g 0 _ _ _ hblk
                have kb1 : w'.cell? ⟨g, 1, none⟩ = some c1 := cell_of_row w' g 1 _ _ _ hblk
                have kf : ∀ o, w'.frozen? ⟨g, o, none⟩ = false := fun o => frozen_of_row w' g o _ _ hblk
                have hBlk := Lib.hid hblk
                clear hblk
                have hdepA : s 5 = true := hdep ⟨5, .data⟩ (by simp) rfl
                clear hdep
                refine StepG.mk rfl ?_; rw [ha0]; simp only [putL, Act.put, List.setIfInBounds_toArray, List.set_cons_zero, List.set_cons_succ]
                go_wp2_with fail
                refine HK.out _ _ ?_
                refine ⟨v50, v51, v52, v53, (.agg #[.int .i64 R1, .int .i64 R2]), (.pointer (some ⟨g, 0, none⟩)), (by rw [ha0]; simp only [putL, Act.put, List.setIfInBounds_toArray, List.set_cons_zero, List.set_cons_succ]), ?_, ?_, ?_, ?_, trivial⟩
                · obtain ⟨h50, h51, h52, h53, h54, _⟩ := hR.out
                  exact Lib.hid ⟨fun h => h50 (by simpa using h), fun h => h51 (by simpa using h), fun h => h52 (by simpa using h), fun h => h53 (by simpa using h), fun _ => rfl, trivial⟩
                · exact ((hX.setNew (p := ⟨g, 0, none⟩) hg _).setNew (p := ⟨g, 1, none⟩) hg _)
                · exact fun _ => ⟨g, _, _, rfl, hg, blk_set2 hBlk.out, fun _ => ⟨rfl, rfl⟩⟩
                · exact fun _ => (by simp [hdepA])
              intro s a' w6 hall hI
              try dsimp only at hI
              obtain ⟨v50, v51, v52, v53, v54, v9, hact, hR, hXR, hA9, hN9, _⟩ := hI
              subst hact
              obtain ⟨h50, h51, h52, h53, h54, _⟩ := hR.out
              clear hR
              have e50 := h50 (hall 0 (by decide))
              subst e50
              clear h50
              have e51 := h51 (hall 1 (by decide))
              subst e51
              clear h51
              have e52 := h52 (hall 2 (by decide))
              subst e52
              clear h52
              have e53 := h53 (hall 3 (by decide))
              subst e53
              clear h53
              have e54 := h54 (hall 4 (by decide))
              subst e54
              clear h54
              obtain ⟨g9, c0, c1, ev, hg9, hblk9, hst⟩ := hA9 (hall 5 (by decide))
              subst ev
              clear hA9 hN9
              obtain ⟨es0, es1⟩ := hst (hall 6 (by decide))
              subst es0
              subst es1
              clear hst
              clear hall
              rw [ha0]; simp only [putL, Act.put, List.setIfInBounds_toArray, List.set_cons_zero, List.set_cons_succ]
              clear ha0
              have B6 : Below w.heap.size w w6 := hXR.below (by first | assumption | exact (by repeat (first | exact Below.refl _ _ | exact Nat.le_refl _ | refine Below.alloc ?_ ?_ _ | refine Below.setCell ?_ ?_ _ | refine Below.drew ?_ | refine bl_drewN ?_ _ | (assumption) | refine bl_call ?_ (by assumption) ?_ | omega | (simp <;> omega)))) (by first | omega | (simp <;> omega)) (by simp <;> omega)
              have cew_heap_size6_0 : w6.cell? ⟨w.heap.size, 0, none⟩ = some (.int .i64 a) := hXR.cell (by first | (simp; done) | (simp; omega)) (by first | assumption | (go_simp; done) | (simp; done))
              have cew_heap_size6_1 : w6.cell? ⟨w.heap.size, 1, none⟩ = some (.int .i64 b) := hXR.cell (by first | (simp; done) | (simp; omega)) (by first | assumption | (go_simp; done) | (simp; done))
              have zew_heap_size6 : w.heap.size < w6.heap.size := block_lt_of_cell cew_heap_size6_0
              have cew_heap_size_16_0 : w6.cell? ⟨w.heap.size + 1, 0, none⟩ = some (.int .i64 0) := hXR.cell (by first | (simp; done) | (simp; omega)) (by first | assumption | (go_simp; done) | (simp; done))
              have cew_heap_size_16_1 : w6.cell? ⟨w.heap.size + 1, 1, none⟩ = some (.int .i64 d) := hXR.cell (by first | (simp; done) | (simp; omega)) (by first | assumption | (go_simp; done) | (simp; done))
              have zew_heap_size_16 : w.heap.size + 1 < w6.heap.size := block_lt_of_cell cew_heap_size_16_0
              have cew1_heap_size6_0 : w6.cell? ⟨w1.heap.size, 0, none⟩ = some (.int .i64 Q1) := hXR.cell (by first | (simp; done) | (simp; omega)) (by first | assumption | (go_simp; done) | (simp; done))
              have cew1_heap_size6_1 : w6.cell? ⟨w1.heap.size, 1, none⟩ = some (.int .i64 Q2) := hXR.cell (by first | (simp; done) | (simp; omega)) (by first | assumption | (go_simp; done) | (simp; done))
              have zew1_heap_size6 : w1.heap.size < w6.heap.size := block_lt_of_cell cew1_heap_size6_0
              have cew1_heap_size_16_0 : w6.cell? ⟨w1.heap.size + 1, 0, none⟩ = some (.int .i64 R1) := hXR.cell (by first | (simp; done) | (simp; omega)) (by first | assumption | (go_simp; done) | (simp; done))
              have cew1_heap_size_16_1 : w6.cell? ⟨w1.heap.size + 1, 1, none⟩ = some (.int .i64 R2) := hXR.cell (by first | (simp; done) | (simp; omega)) (by first | assumption | (go_simp; done) | (simp; done))
              have zew1_heap_size_16 : w1.heap.size + 1 < w6.heap.size := block_lt_of_cell cew1_heap_size_16_0
              have cew4_heap_size6_0 : w6.cell? ⟨w4.heap.size, 0, none⟩ = some (.int .i64 Q1) := hXR.cell (by first | (simp; done) | (simp; omega)) (by first | assumption | (go_simp; done) | (simp; done))
              have cew4_heap_size6_1 : w6.cell? ⟨w4.heap.size, 1, none⟩ = some (.int .i64 Q2) := hXR.cell (by first | (simp; done) | (simp; omega)) (by first | assumption | (go_simp; done) | (simp; done))
              have zew4_heap_size6 : w4.heap.size < w6.heap.size := block_lt_of_cell cew4_heap_size6_0
              have ceg96_0 := row2_0 hblk9
              have ceg96_1 := row2_1 hblk9
              have zeg96 := blk_lt hblk9
              have hsz_6 := B6.size
              clear hXR
              go_wp2_with fail
              refine (refNumber _ _ _).mono ?_
              rintro e w7 ⟨rfl, hb7⟩
              have z7_0 : w.heap.size < w7.heap.size := by have := hb7.size; (try simp at this); omega
              have z7_1 : w.heap.size + 1 < w7.heap.size := by have := hb7.size; (try simp at this); omega
              have cew_heap_size7_0 : w7.cell? ⟨w.heap.size, 0, none⟩ = some (.int .i64 a) := keep_cell hb7 (by first | assumption | (go_simp; done) | (simp; done) | simp [*])
              have zew_heap_size7 : w.heap.size < w7.heap.size := block_lt_of_cell cew_heap_size7_0
              have cew_heap_size7_1 : w7.cell? ⟨w.heap.size, 1, none⟩ = some (.int .i64 b) := keep_cell hb7 (by first | assumption | (go_simp; done) | (simp; done) | simp [*])
              have cew_heap_size_17_0 : w7.cell? ⟨w.heap.size + 1, 0, none⟩ = some (.int .i64 0) := keep_cell hb7 (by first | assumption | (go_simp; done) | (simp; done) | simp [*])
              have zew_heap_size_17 : w.heap.size + 1 < w7.heap.size := block_lt_of_cell cew_heap_size_17_0
              have cew_heap_size_17_1 : w7.cell? ⟨w.heap.size + 1, 1, none⟩ = some (.int .i64 d) := keep_cell hb7 (by first | assumption | (go_simp; done) | (simp; done) | simp [*])
              have cew1_heap_size7_0 : w7.cell? ⟨w1.heap.size, 0, none⟩ = some (.int .i64 Q1) := keep_cell hb7 (by first | assumption | (go_simp; done) | (simp; done) | simp [*])
              have zew1_heap_size7 : w1.heap.size < w7.heap.size := block_lt_of_cell cew1_heap_size7_0
              have cew1_heap_size7_1 : w7.cell? ⟨w1.heap.size, 1, none⟩ = some (.int .i64 Q2) := keep_cell hb7 (by first | assumption | (go_simp; done) | (simp; done) | simp [*])
              have cew1_heap_size_17_0 : w7.cell? ⟨w1.heap.size + 1, 0, none⟩ = some (.int .i64 R1) := keep_cell hb7 (by first | assumption | (go_simp; done) | (simp; done) | simp [*])
              have zew1_heap_size_17 : w1.heap.size + 1 < w7.heap.size := block_lt_of_cell cew1_heap_size_17_0
              have cew1_heap_size_17_1 : w7.cell? ⟨w1.heap.size + 1, 1, none⟩ = some (.int .i64 R2) := keep_cell hb7 (by first | assumption | (go_simp; done) | (simp; done) | simp [*])
              have cew4_heap_size7_0 : w7.cell? ⟨w4.heap.size, 0, none⟩ = some (.int .i64 Q1) := keep_cell hb7 (by first | assumption | (go_simp; done) | (simp; done) | simp [*])
              have zew4_heap_size7 : w4.heap.size < w7.heap.size := block_lt_of_cell cew4_heap_size7_0
              have cew4_heap_size7_1 : w7.cell? ⟨w4.heap.size, 1, none⟩ = some (.int .i64 Q2) := keep_cell hb7 (by first | assumption | (go_simp; done) | (simp; done) | simp [*])
              have ceg97_0 : w7.cell? ⟨g9, 0, none⟩ = some (.int .i64 R1) := keep_cell hb7 (by first | assumption | (go_simp; done) | (simp; done) | simp [*])
              have zeg97 : g9 < w7.heap.size := block_lt_of_cell ceg97_0
              have ceg97_1 : w7.cell? ⟨g9, 1, none⟩ = some (.int .i64 R2) := keep_cell hb7 (by first | assumption | (go_simp; done) | (simp; done) | simp [*])
              have B7 : Below w.heap.size w w7 := bl_call (by repeat (first | exact Below.refl _ _ | exact Nat.le_refl _ | refine Below.alloc ?_ ?_ _ | refine Below.setCell ?_ ?_ _ | refine Below.drew ?_ | refine bl_drewN ?_ _ | (assumption) | refine bl_call ?_ (by assumption) ?_ | omega | (simp <;> omega))) hb7 (by first | assumption | (simp; done) | (simp; omega) | omega)
              clear hb7
              have hsz_7 := B7.size
              rw [K2.out]
              go_wp2_with fail
              refine (awake_any _).mono ?_
              rintro e w8 ⟨rfl, hb8⟩
              have z8_0 : w.heap.size < w8.heap.size := by have := hb8.size; (try simp at this); omega
              have z8_1 : w.heap.size + 1 < w8.heap.size := by have := hb8.size; (try simp at this); omega
              have cew_heap_size8_0 : w8.cell? ⟨w.heap.size, 0, none⟩ = some (.int .i64 a) := keep_cell hb8 (by first | assumption | (go_simp; done) | (simp; done) | simp [*])
              have zew_heap_size8 : w.heap.size < w8.heap.size := block_lt_of_cell cew_heap_size8_0
              have cew_heap_size8_1 : w8.cell? ⟨w.heap.size, 1, none⟩ = some (.int .i64 b) := keep_cell hb8 (by first | assumption | (go_simp; done) | (simp; done) | simp [*])
              have cew_heap_size_18_0 : w8.cell? ⟨w.heap.size + 1, 0, none⟩ = some (.int .i64 0) := keep_cell hb8 (by first | assumption | (go_simp; done) | (simp; done) | simp [*])
              have zew_heap_size_18 : w.heap.size + 1 < w8.heap.size := block_lt_of_cell cew_heap_size_18_0
              have cew_heap_size_18_1 : w8.cell? ⟨w.heap.size + 1, 1, none⟩ = some (.int .i64 d) := keep_cell hb8 (by first | assumption | (go_simp; done) | (simp; done) | simp [*])
              have cew1_heap_size8_0 : w8.cell? ⟨w1.heap.size, 0, none⟩ = some (.int .i64 Q1) := keep_cell hb8 (by first | assumption | (go_simp; done) | (simp; done) | simp [*])
              have zew1_heap_size8 : w1.heap.size < w8.heap.size := block_lt_of_cell cew1_heap_size8_0
              have cew1_heap_size8_1 : w8.cell? ⟨w1.heap.size, 1, none⟩ = some (.int .i64 Q2) := keep_cell hb8 (by first | assumption | (go_simp; done) | (simp; done) | simp [*])
              have cew1_heap_size_18_0 : w8.cell? ⟨w1.heap.size + 1, 0, none⟩ = some (.int .i64 R1) := keep_cell hb8 (by first | assumption | (go_simp; done) | (simp; done) | simp [*])
              have zew1_heap_size_18 : w1.heap.size + 1 < w8.heap.size := block_lt_of_cell cew1_heap_size_18_0
              have cew1_heap_size_18_1 : w8.cell? ⟨w1.heap.size + 1, 1, none⟩ = some (.int .i64 R2) := keep_cell hb8 (by first | assumption | (go_simp; done) | (simp; done) | simp [*])
              have cew4_heap_size8_0 : w8.cell? ⟨w4.heap.size, 0, none⟩ = some (.int .i64 Q1) := keep_cell hb8 (by first | assumption | (go_simp; done) | (simp; done) | simp [*])
              have zew4_heap_size8 : w4.heap.size < w8.heap.size := block_lt_of_cell cew4_heap_size8_0
              have cew4_heap_size8_1 : w8.cell? ⟨w4.heap.size, 1, none⟩ = some (.int .i64 Q2) := keep_cell hb8 (by first | assumption | (go_simp; done) | (simp; done) | simp [*])
              have ceg98_0 : w8.cell? ⟨g9, 0, none⟩ = some (.int .i64 R1) := keep_cell hb8 (by first | assumption | (go_simp; done) | (simp; done) | simp [*])
              have zeg98 : g9 < w8.heap.size := block_lt_of_cell ceg98_0
              have ceg98_1 : w8.cell? ⟨g9, 1, none⟩ = some (.int .i64 R2) := keep_cell hb8 (by first | assumption | (go_simp; done) | (simp; done) | simp [*])
              have B8 : Below w.heap.size w w8 := bl_call (by repeat (first | exact Below.refl _ _ | exact Nat.le_refl _ | refine Below.alloc ?_ ?_ _ | refine Below.setCell ?_ ?_ _ | refine Below.drew ?_ | refine bl_drewN ?_ _ | (assumption) | refine bl_call ?_ (by assumption) ?_ | omega | (simp <;> omega))) hb8 (by first | assumption | (simp; done) | (simp; omega) | omega)
              clear hb8
              have hsz_8 := B8.size
              go_wp2_with fail
              go_ret
              exact ⟨rfl, (by repeat (first | exact Below.refl _ _ | exact Nat.le_refl _ | refine Below.alloc ?_ ?_ _ | refine Below.setCell ?_ ?_ _ | refine Below.drew ?_ | refine bl_drewN ?_ _ | (assumption) | refine bl_call ?_ (by assumption) ?_ | omega | (simp <;> omega)))⟩
          · have k2' : isN R1 R2 = false := by simpa using k2
            have HC := Lib.hid (fun wx => by have := hD wx; rw [if_neg (by rw [k2', Bool.and_false]; decide)] at this; exact this)
            have K2 := Lib.hid k2'
            clear hD k1 k2 k2'
            rcases hy with hy | ⟨rfl, hy⟩
            ·
              go_enter Tryd.func4, Tryd.ntmps4
              go_wp2_with fail
              refine (HC.out _).mono ?_
              rintro e w1 ⟨rfl, hb1⟩
              have z1_0 : w.heap.size < w1.heap.size := by have := hb1.size; (try simp at this); omega
              have z1_1 : w.heap.size + 1 < w1.heap.size := by have := hb1.size; (try simp at this); omega
              have cew_heap_size1_0 : w1.cell? ⟨w.heap.size, 0, none⟩ = some (.int .i64 a) := keep_cell hb1 (by first | assumption | (go_simp; done) | (simp; done) | simp [*])
              have zew_heap_size1 : w.heap.size < w1.heap.size := block_lt_of_cell cew_heap_size1_0
              have cew_heap_size1_1 : w1.cell? ⟨w.heap.size, 1, none⟩ = some (.int .i64 b) := keep_cell hb1 (by first | assumption | (go_simp; done) | (simp; done) | simp [*])
              have cew_heap_size_11_0 : w1.cell? ⟨w.heap.size + 1, 0, none⟩ = some (.int .i64 c) := keep_cell hb1 (by first | assumption | (go_simp; done) | (simp; done) | simp [*])
              have zew_heap_size_11 : w.heap.size + 1 < w1.heap.size := block_lt_of_cell cew_heap_size_11_0
              have cew_heap_size_11_1 : w1.cell? ⟨w.heap.size + 1, 1, none⟩ = some (.int .i64 d) := keep_cell hb1 (by first | assumption | (go_simp; done) | (simp; done) | simp [*])
              have B1 : Below w.heap.size w w1 := bl_call (by repeat (first | exact Below.refl _ _ | exact Nat.le_refl _ | refine Below.alloc ?_ ?_ _ | refine Below.setCell ?_ ?_ _ | refine Below.drew ?_ | refine bl_drewN ?_ _ | (assumption) | refine bl_call ?_ (by assumption) ?_ | omega | (simp <;> omega))) hb1 (by first | assumption | (simp; done) | (simp; omega) | omega)
              clear hb1
              have hsz_1 := B1.size
              go_wp2_with fail
              refine (refNumber _ _ _).mono ?_
              rintro e w2 ⟨rfl, hb2⟩
              have z2_0 : w.heap.size < w2.heap.size := by have := hb2.size; (try simp at this); omega
              have z2_1 : w.heap.size + 1 < w2.heap.size := by have := hb2.size; (try simp at this); omega
              have cew_heap_size2_0 : w2.cell? ⟨w.heap.size, 0, none⟩ = some (.int .i64 a) := keep_cell hb2 (by first | assumption | (go_simp; done) | (simp; done) | simp [*])
              have zew_heap_size2 : w.heap.size < w2.heap.size := block_lt_of_cell cew_heap_size2_0
              have cew_heap_size2_1 : w2.cell? ⟨w.heap.size, 1, none⟩ = some (.int .i64 b) := keep_cell hb2 (by first | assumption | (go_simp; done) | (simp; done) | simp [*])
              have cew_heap_size_12_0 : w2.cell? ⟨w.heap.size + 1, 0, none⟩ = some (.int .i64 c) := keep_cell hb2 (by first | assumption | (go_simp; done) | (simp; done) | simp [*])
              have zew_heap_size_12 : w.heap.size + 1 < w2.heap.size := block_lt_of_cell cew_heap_size_12_0
              have cew_heap_size_12_1 : w2.cell? ⟨w.heap.size + 1, 1, none⟩ = some (.int .i64 d) := keep_cell hb2 (by first | assumption | (go_simp; done) | (simp; done) | simp [*])
              have cew1_heap_size2_0 : w2.cell? ⟨w1.heap.size, 0, none⟩ = some (.int .i64 0) := keep_cell hb2 (by first | assumption | (go_simp; done) | (simp; done) | simp [*])
              have zew1_heap_size2 : w1.heap.size < w2.heap.size := block_lt_of_cell cew1_heap_size2_0
              have cew1_heap_size2_1 : w2.cell? ⟨w1.heap.size, 1, none⟩ = some (.int .i64 0) := keep_cell hb2 (by first | assumption | (go_simp; done) | (simp; done) | simp [*])
              have cew1_heap_size_12_0 : w2.cell? ⟨w1.heap.size + 1, 0, none⟩ = some (.int .i64 0) := keep_cell hb2 (by first | assumption | (go_simp; done) | (simp; done) | simp [*])
              have zew1_heap_size_12 : w1.heap.size + 1 < w2.heap.size := block_lt_of_cell cew1_heap_size_12_0
              have cew1_heap_size_12_1 : w2.cell? ⟨w1.heap.size + 1, 1, none⟩ = some (.int .i64 0) := keep_cell hb2 (by first | assumption | (go_simp; done) | (simp; done) | simp [*])
              have B2 : Below w.heap.size w w2 := bl_call (by repeat (first | exact Below.refl _ _ | exact Nat.le_refl _ | refine Below.alloc ?_ ?_ _ | refine Below.setCell ?_ ?_ _ | refine Below.drew ?_ | refine bl_drewN ?_ _ | (assumption) | refine bl_call ?_ (by assumption) ?_ | omega | (simp <;> omega))) hb2 (by first | assumption | (simp; done) | (simp; omega) | omega)
              clear hb2
              have hsz_2 := B2.size
              rw [H1.out]
              go_wp2_with fail
              refine (refNumber _ _ _).mono ?_
              rintro e w3 ⟨rfl, hb3⟩
              have z3_0 : w.heap.size < w3.heap.size := by have := hb3.size; (try simp at this); omega
              have z3_1 : w.heap.size + 1 < w3.heap.size := by have := hb3.size; (try simp at this); omega
              have cew_heap_size3_0 : w3.cell? ⟨w.heap.size, 0, none⟩ = some (.int .i64 a) := keep_cell hb3 (by first | assumption | (go_simp; done) | (simp; done) | simp [*])
              have zew_heap_size3 : w.heap.size < w3.heap.size := block_lt_of_cell cew_heap_size3_0
              have cew_heap_size3_1 : w3.cell? ⟨w.heap.size, 1, none⟩ = some (.int .i64 b) := keep_cell hb3 (by first | assumption | (go_simp; done) | (simp; done) | simp [*])
              have cew_heap_size_13_0 : w3.cell? ⟨w.heap.size + 1, 0, none⟩ = some (.int .i64 c) := keep_cell hb3 (by first | assumption | (go_simp; done) | (simp; done) | simp [*])
              have zew_heap_size_13 : w.heap.size + 1 < w3.heap.size := block_lt_of_cell cew_heap_size_13_0
              have cew_heap_size_13_1 : w3.cell? ⟨w.heap.size + 1, 1, none⟩ = some (.int .i64 d) := keep_cell hb3 (by first | assumption | (go_simp; done) | (simp; done) | simp [*])
              have cew1_heap_size3_0 : w3.cell? ⟨w1.heap.size, 0, none⟩ = some (.int .i64 0) := keep_cell hb3 (by first | assumption | (go_simp; done) | (simp; done) | simp [*])
              have zew1_heap_size3 : w1.heap.size < w3.heap.size := block_lt_of_cell cew1_heap_size3_0
              have cew1_heap_size3_1 : w3.cell? ⟨w1.heap.size, 1, none⟩ = some (.int .i64 0) := keep_cell hb3 (by first | assumption | (go_simp; done) | (simp; done) | simp [*])
              have cew1_heap_size_13_0 : w3.cell? ⟨w1.heap.size + 1, 0, none⟩ = some (.int .i64 0) := keep_cell hb3 (by first | assumption | (go_simp; done) | (simp; done) | simp [*])
              have zew1_heap_size_13 : w1.heap.size + 1 < w3.heap.size := block_lt_of_cell cew1_heap_size_13_0
              have cew1_heap_size_13_1 : w3.cell? ⟨w1.heap.size + 1, 1, none⟩ = some (.int .i64 0) := keep_cell hb3 (by first | assumption | (go_simp; done) | (simp; done) | simp [*])
              have B3 : Below w.heap.size w w3 := bl_call (by repeat (first | exact Below.refl _ _ | exact Nat.le_refl _ | refine Below.alloc ?_ ?_ _ | refine Below.setCell ?_ ?_ _ | refine Below.drew ?_ | refine bl_drewN ?_ _ | (assumption) | refine bl_call ?_ (by assumption) ?_ | omega | (simp <;> omega))) hb3 (by first | assumption | (simp; done) | (simp; omega) | omega)
              clear hb3
              have hsz_3 := B3.size
              rw [H2.out]
              go_wp2_with fail
              refine (HQ.out _).mono ?_
              rintro e w4 ⟨rfl, hb4⟩
              have z4_0 : w.heap.size < w4.heap.size := by have := hb4.size; (try simp at this); omega
              have z4_1 : w.heap.size + 1 < w4.heap.size := by have := hb4.size; (try simp at this); omega
              have cew_heap_size4_0 : w4.cell? ⟨w.heap.size, 0, none⟩ = some (.int .i64 a) := keep_cell hb4 (by first | assumption | (go_simp; done) | (simp; done) | simp [*])
              have zew_heap_size4 : w.heap.size < w4.heap.size := block_lt_of_cell cew_heap_size4_0
              have cew_heap_size4_1 : w4.cell? ⟨w.heap.size, 1, none⟩ = some (.int .i64 b) := keep_cell hb4 (by first | assumption | (go_simp; done) | (simp; done) | simp [*])
              have cew_heap_size_14_0 : w4.cell? ⟨w.heap.size + 1, 0, none⟩ = some (.int .i64 c) := keep_cell hb4 (by first | assumption | (go_simp; done) | (simp; done) | simp [*])
              have zew_heap_size_14 : w.heap.size + 1 < w4.heap.size := block_lt_of_cell cew_heap_size_14_0
              have cew_heap_size_14_1 : w4.cell? ⟨w.heap.size + 1, 1, none⟩ = some (.int .i64 d) := keep_cell hb4 (by first | assumption | (go_simp; done) | (simp; done) | simp [*])
              have cew1_heap_size4_0 : w4.cell? ⟨w1.heap.size, 0, none⟩ = some (.int .i64 0) := keep_cell hb4 (by first | assumption | (go_simp; done) | (simp; done) | simp [*])
              have zew1_heap_size4 : w1.heap.size < w4.heap.size := block_lt_of_cell cew1_heap_size4_0
              have cew1_heap_size4_1 : w4.cell? ⟨w1.heap.size, 1, none⟩ = some (.int .i64 0) := keep_cell hb4 (by first | assumption | (go_simp; done) | (simp; done) | simp [*])
              have cew1_heap_size_14_0 : w4.cell? ⟨w1.heap.size + 1, 0, none⟩ = some (.int .i64 0) := keep_cell hb4 (by first | assumption | (go_simp; done) | (simp; done) | simp [*])
              have zew1_heap_size_14 : w1.heap.size + 1 < w4.heap.size := block_lt_of_cell cew1_heap_size_14_0
              have cew1_heap_size_14_1 : w4.cell? ⟨w1.heap.size + 1, 1, none⟩ = some (.int .i64 0) := keep_cell hb4 (by first | assumption | (go_simp; done) | (simp; done) | simp [*])
              have B4 : Below w.heap.size w w4 := bl_call (by repeat (first | exact Below.refl _ _ | exact Nat.le_refl _ | refine Below.alloc ?_ ?_ _ | refine Below.setCell ?_ ?_ _ | refine Below.drew ?_ | refine bl_drewN ?_ _ | (assumption) | refine bl_call ?_ (by assumption) ?_ | omega | (simp <;> omega))) hb4 (by first | assumption | (simp; done) | (simp; omega) | omega)
              clear hb4
              have hsz_4 := B4.size
              go_wp2_with fail
              refine (refNumber _ _ _).mono ?_
              rintro e w5 ⟨rfl, hb5⟩
              have z5_0 : w.heap.size < w5.heap.size := by have := hb5.size; (try simp at this); omega
              have z5_1 : w.heap.size + 1 < w5.heap.size := by have := hb5.size; (try simp at this); omega
              have cew_heap_size5_0 : w5.cell? ⟨w.heap.size, 0, none⟩ = some (.int .i64 a) := keep_cell hb5 (by first | assumption | (go_simp; done) | (simp; done) | simp [*])
              have zew_heap_size5 : w.heap.size < w5.heap.size := block_lt_of_cell cew_heap_size5_0
              have cew_heap_size5_1 : w5.cell? ⟨w.heap.size, 1, none⟩ = some (.int .i64 b) := keep_cell hb5 (by first | assumption | (go_simp; done) | (simp; done) | simp [*])
              have cew_heap_size_15_0 : w5.cell? ⟨w.heap.size + 1, 0, none⟩ = some (.int .i64 c) := keep_cell hb5 (by first | assumption | (go_simp; done) | (simp; done) | simp [*])
              have zew_heap_size_15 : w.heap.size + 1 < w5.heap.size := block_lt_of_cell cew_heap_size_15_0
              have cew_heap_size_15_1 : w5.cell? ⟨w.heap.size + 1, 1, none⟩ = some (.int .i64 d) := keep_cell hb5 (by first | assumption | (go_simp; done) | (simp; done) | simp [*])
              have cew1_heap_size5_0 : w5.cell? ⟨w1.heap.size, 0, none⟩ = some (.int .i64 0) := keep_cell hb5 (by first | assumption | (go_simp; done) | (simp; done) | simp [*])
              have zew1_heap_size5 : w1.heap.size < w5.heap.size := block_lt_of_cell cew1_heap_size5_0
              have cew1_heap_size5_1 : w5.cell? ⟨w1.heap.size, 1, none⟩ = some (.int .i64 0) := keep_cell hb5 (by first | assumption | (go_simp; done) | (simp; done) | simp [*])
              have cew1_heap_size_15_0 : w5.cell? ⟨w1.heap.size + 1, 0, none⟩ = some (.int .i64 0) := keep_cell hb5 (by first | assumption | (go_simp; done) | (simp; done) | simp [*])
              have zew1_heap_size_15 : w1.heap.size + 1 < w5.heap.size := block_lt_of_cell cew1_heap_size_15_0
              have cew1_heap_size_15_1 : w5.cell? ⟨w1.heap.size + 1, 1, none⟩ = some (.int .i64 0) := keep_cell hb5 (by first | assumption | (go_simp; done) | (simp; done) | simp [*])
              have cew4_heap_size5_0 : w5.cell? ⟨w4.heap.size, 0, none⟩ = some (.int .i64 Q1) := keep_cell hb5 (by first | assumption | (go_simp; done) | (simp; done) | simp [*])
              have zew4_heap_size5 : w4.heap.size < w5.heap.size := block_lt_of_cell cew4_heap_size5_0
              have cew4_heap_size5_1 : w5.cell? ⟨w4.heap.size, 1, none⟩ = some (.int .i64 Q2) := keep_cell hb5 (by first | assumption | (go_simp; done) | (simp; done) | simp [*])
              have B5 : Below w.heap.size w w5 := bl_call (by repeat (first | exact Below.refl _ _ | exact Nat.le_refl _ | refine Below.alloc ?_ ?_ _ | refine Below.setCell ?_ ?_ _ | refine Below.drew ?_ | refine bl_drewN ?_ _ | (assumption) | refine bl_call ?_ (by assumption) ?_ | omega | (simp <;> omega))) hb5 (by first | assumption | (simp; done) | (simp; omega) | omega)
              clear hb5
              have hsz_5 := B5.size
              rw [K1.out]
              go_upto_region 6 with fail
              refine with_act fun a0 ha0 => ?_
              refine wp_region_inv (by kernel_rfl) (by kernel_rfl) (fun s a' w' => ∃ v50 v51 v52 v53 v54 v9 : Value, a' = putL a0 [(50, v50), (51, v51), (52, v52), (53, v53), (54, v54), (9, v9)] ∧ Hid ((s 0 = true → v50 = .agg #[.int .i64 a, .int .i64 b]) ∧ (s 1 = true → v51 = .agg #[.int .i64 Q1, .int .i64 Q2]) ∧ (s 2 = true → v52 = .agg #[.int .i64 c, .int .i64 d]) ∧ (s 3 = true → v53 = .agg #[.int .i64 (m1 + m2), .int .i64 (m3 + m4 + m2)]) ∧ (s 4 = true → v54 = .agg #[.int .i64 R1, .int .i64 R2]) ∧ True) ∧ BelX [] w5 w' ∧ (s 5 = true → ∃ (g : Nat) (c0 c1 : Value), v9 = .pointer (some ⟨g, 0, none⟩) ∧ w5.heap.size ≤ g ∧ w'.heap[g]? = some (.cells #[c0, c1] 23 (0, 0)) ∧ (s 6 = true → c0 = .int .i64 R1 ∧ c1 = .int .i64 R2)) ∧ (s 6 = true → s 5 = true) ∧ True) ?x3hzero ⟨?x3hs0, ?x3hs1, ?x3hs2, ?x3hs3, ?x3hs4, ?x3hs5, ?x3hs6, trivial⟩ ?x3hdone
              case x3hzero =>
                refine ⟨a0.tmps.getD 50 undef, a0.tmps.getD 51 undef, a0.tmps.getD 52 undef, a0.tmps.getD 53 undef, a0.tmps.getD 54 undef, a0.tmps.getD 9 undef, ?_, ?_, ?_, ?_, ?_, trivial⟩
                · simp only [putL, put_self]
                · exact Lib.hid ⟨fun h => (by simp at h), fun h => (by simp at h), fun h => (by simp at h), fun h => (by simp at h), fun h => (by simp at h), trivial⟩
                · exact BelX.start _ _
                · exact fun h => (by simp at h)
                · exact fun h => (by simp at h)
              case x3hs0 =>
                intro s a' w' hsk hdep hI K hK
                try dsimp only at hI hK
                obtain ⟨v50, v51, v52, v53, v54, v9, hact, hR, hX, hA9, hN9, _⟩ := hI
                subst hact
                have HK := Lib.hid hK
                clear hK
                have kc0 : w'.cell? ⟨w.heap.size, 0, none⟩ = some (.int .i64 a) := hX.cell (by first | (simp; done) | (simp; omega)) (by first | assumption | (go_simp; done) | (simp; done))
                have kc1 : w'.cell? ⟨w.heap.size, 1, none⟩ = some (.int .i64 b) := hX.cell (by first | (simp; done) | (simp; omega)) (by first | assumption | (go_simp; done) | (simp; done))
                have kc2 : w'.cell? ⟨w.heap.size + 1, 0, none⟩ = some (.int .i64 c) := hX.cell (by first | (simp; done) | (simp; omega)) (by first | assumption | (go_simp; done) | (simp; done))
                have kc3 : w'.cell? ⟨w.heap.size + 1, 1, none⟩ = some (.int .i64 d) := hX.cell (by first | (simp; done) | (simp; omega)) (by first | assumption | (go_simp; done) | (simp; done))
                have kc4 : w'.cell? ⟨w1.heap.size, 0, none⟩ = some (.int .i64 0) := hX.cell (by first | (simp; done) | (simp; omega)) (by first | assumption | (go_simp; done) | (simp; done))
                have kc5 : w'.cell? ⟨w1.heap.size, 1, none⟩ = some (.int .i64 0) := hX.cell (by first | (simp; done) | (simp; omega)) (by first | assumption | (go_simp; done) | (simp; done))
                have kc6 : w'.cell? ⟨w1.heap.size + 1, 0, none⟩ = some (.int .i64 0) := hX.cell (by first | (simp; done) | (simp; omega)) (by first | assumption | (go_simp; done) | (simp; done))
                have kc7 : w'.cell? ⟨w1.heap.size + 1, 1, none⟩ = some (.int .i64 0) := hX.cell (by first | (simp; done) | (simp; omega)) (by first | assumption | (go_simp; done) | (simp; done))
                have kc8 : w'.cell? ⟨w4.heap.size, 0, none⟩ = some (.int .i64 Q1) := hX.cell (by first | (simp; done) | (simp; omega)) (by first | assumption | (go_simp; done) | (simp; done))
                have kc9 : w'.cell? ⟨w4.heap.size, 1, none⟩ = some (.int .i64 Q2) := hX.cell (by first | (simp; done) | (simp; omega)) (by first | assumption | (go_simp; done) | (simp; done))
                clear hdep
                refine StepG.mk rfl ?_; rw [ha0]; simp only [putL, Act.put, List.setIfInBounds_toArray, List.set_cons_zero, List.set_cons_succ]
                go_wp2_with fail
                refine HK.out _ _ ?_
                refine ⟨(.agg #[.int .i64 a, .int .i64 b]), v51, v52, v53, v54, v9, (by rw [ha0]; simp only [putL, Act.put, List.setIfInBounds_toArray, List.set_cons_zero, List.set_cons_succ]), ?_, ?_, ?_, ?_, trivial⟩
                · obtain ⟨h50, h51, h52, h53, h54, _⟩ := hR.out
                  exact Lib.hid ⟨fun _ => rfl, fun h => h51 (by simpa using h), fun h => h52 (by simpa using h), fun h => h53 (by simpa using h), fun h => h54 (by simpa using h), trivial⟩
                · exact hX
                · intro h; obtain ⟨g, c0, c1, e, hg, hblk, hst⟩ := hA9 (by simpa using h); exact ⟨g, c0, c1, e, hg, hblk, fun h => hst (by simpa using h)⟩
                · exact fun h => (by have h1 := hN9 (by simpa using h); simp [h1])
              case x3hs1 =>
                intro s a' w' hsk hdep hI K hK
                try dsimp only at hI hK
                obtain ⟨v50, v51, v52, v53, v54, v9, hact, hR, hX, hA9, hN9, _⟩ := hI
                subst hact
                have HK := Lib.hid hK
                clear hK
                have kc0 : w'.cell? ⟨w.heap.size, 0, none⟩ = some (.int .i64 a) := hX.cell (by first | (simp; done) | (simp; omega)) (by first | assumption | (go_simp; done) | (simp; done))
                have kc1 : w'.cell? ⟨w.heap.size, 1, none⟩ = some (.int .i64 b) := hX.cell (by first | (simp; done) | (simp; omega)) (by first | assumption | (go_simp; done) | (simp; done))
                have kc2 : w'.cell? ⟨w.heap.size + 1, 0, none⟩ = some (.int .i64 c) := hX.cell (by first | (simp; done) | (simp; omega)) (by first | assumption | (go_simp; done) | (simp; done))
                have kc3 : w'.cell? ⟨w.heap.size + 1, 1, none⟩ = some (.int .i64 d) := hX.cell (by first | (simp; done) | (simp; omega)) (by first | assumption | (go_simp; done) | (simp; done))
                have kc4 : w'.cell? ⟨w1.heap.size, 0, none⟩ = some (.int .i64 0) := hX.cell (by first | (simp; done) | (simp; omega)) (by first | assumption | (go_simp; done) | (simp; done))
                have kc5 : w'.cell? ⟨w1.heap.size, 1, none⟩ = some (.int .i64 0) := hX.cell (by first | (simp; done) | (simp; omega)) (by first | assumption | (go_simp; done) | (simp; done))
                have kc6 : w'.cell? ⟨w1.heap.size + 1, 0, none⟩ = some (.int .i64 0) := hX.cell (by first | (simp; done) | (simp; omega)) (by first | assumption | (go_simp; done) | (simp; done))
                have kc7 : w'.cell? ⟨w1.heap.size + 1, 1, none⟩ = some (.int .i64 0) := hX.cell (by first | (simp; done) | (simp; omega)) (by first | assumption | (go_simp; done) | (simp; done))
                have kc8 : w'.cell? ⟨w4.heap.size, 0, none⟩ = some (.int .i64 Q1) := hX.cell (by first | (simp; done) | (simp; omega)) (by first | assumption | (go_simp; done) | (simp; done))
                have kc9 : w'.cell? ⟨w4.heap.size, 1, none⟩ = some (.int .i64 Q2) := hX.cell (by first | (simp; done) | (simp; omega)) (by first | assumption | (go_simp; done) | (simp; done))
                clear hdep
                refine StepG.mk rfl ?_; rw [ha0]; simp only [putL, Act.put, List.setIfInBounds_toArray, List.set_cons_zero, List.set_cons_succ]
                go_wp2_with fail
                refine HK.out _ _ ?_
                refine ⟨v50, (.agg #[.int .i64 Q1, .int .i64 Q2]), v52, v53, v54, v9, (by rw [ha0]; simp only [putL, Act.put, List.setIfInBounds_toArray, List.set_cons_zero, List.set_cons_succ]), ?_, ?_, ?_, ?_, trivial⟩
                · obtain ⟨h50, h51, h52, h53, h54, _⟩ := hR.out
                  exact Lib.hid ⟨fun h => h50 (by simpa using h), fun _ => rfl, fun h => h52 (by simpa using h), fun h => h53 (by simpa using h), fun h => h54 (by simpa using h), trivial⟩
                · exact hX
                · intro h; obtain ⟨g, c0, c1, e, hg, hblk, hst⟩ := hA9 (by simpa using h); exact ⟨g, c0, c1, e, hg, hblk, fun h => hst (by simpa using h)⟩
                · exact fun h => (by have h1 := hN9 (by simpa using h); simp [h1])
              case x3hs2 =>
                intro s a' w' hsk hdep hI K hK
                try dsimp only at hI hK
                obtain ⟨v50, v51, v52, v53, v54, v9, hact, hR, hX, hA9, hN9, _⟩ := hI
                subst hact
                have HK := Lib.hid hK
                clear hK
                have kc0 : w'.cell? ⟨w.heap.size, 0, none⟩ = some (.int .i64 a) := hX.cell (by first | (simp; done) | (simp; omega)) (by first | assumption | (go_simp; done) | (simp; done))
                have kc1 : w'.cell? ⟨w.heap.size, 1, none⟩ = some (.int .i64 b) := hX.cell (by first | (simp; done) | (simp; omega)) (by first | assumption | (go_simp; done) | (simp; done))
                have kc2 : w'.cell? ⟨w.heap.size + 1, 0, none⟩ = some (.int .i64 c) := hX.cell (by first | (simp; done) | (simp; omega)) (by first | assumption | (go_simp; done) | (simp; done))
                have kc3 : w'.cell? ⟨w.heap.size + 1, 1, none⟩ = some (.int .i64 d) := hX.cell (by first | (simp; done) | (simp; omega)) (by first | assumption | (go_simp; done) | (simp; done))
                have kc4 : w'.cell? ⟨w1.heap.size, 0, none⟩ = some (.int .i64 0) := hX.cell (by first | (simp; done) | (simp; omega)) (by first | assumption | (go_simp; done) | (simp; done))
                have kc5 : w'.cell? ⟨w1.heap.size, 1, none⟩ = some (.int .i64 0) := hX.cell (by first | (simp; done) | (simp; omega)) (by first | assumption | (go_simp; done) | (simp; done))
                have kc6 : w'.cell? ⟨w1.heap.size + 1, 0, none⟩ = some (.int .i64 0) := hX.cell (by first | (simp; done) | (simp; omega)) (by first | assumption | (go_simp; done) | (simp; done))
                have kc7 : w'.cell? ⟨w1.heap.size + 1, 1, none⟩ = some (.int .i64 0) := hX.cell (by first | (simp; done) | (simp; omega)) (by first | assumption | (go_simp; done) | (simp; done))
                have kc8 : w'.cell? ⟨w4.heap.size, 0, none⟩ = some (.int .i64 Q1) := hX.cell (by first | (simp; done) | (simp; omega)) (by first | assumption | (go_simp; done) | (simp; done))
                have kc9 : w'.cell? ⟨w4.heap.size, 1, none⟩ = some (.int .i64 Q2) := hX.cell (by first | (simp; done) | (simp; omega)) (by first | assumption | (go_simp; done) | (simp; done))
                clear hdep
                refine StepG.mk rfl ?_; rw [ha0]; simp only [putL, Act.put, List.setIfInBounds_toArray, List.set_cons_zero, List.set_cons_succ]
                go_wp2_with fail
                refine HK.out _ _ ?_
                refine ⟨v50, v51, (.agg #[.int .i64 c, .int .i64 d]), v53, v54, v9, (by rw [ha0]; simp only [putL, Act.put, List.setIfInBounds_toArray, List.set_cons_zero, List.set_cons_succ]), ?_, ?_, ?_, ?_, trivial⟩
                · obtain ⟨h50, h51, h52, h53, h54, _⟩ := hR.out
                  exact Lib.hid ⟨fun h => h50 (by simpa using h), fun h => h51 (by simpa using h), fun _ => rfl, fun h => h53 (by simpa using h), fun h => h54 (by simpa using h), trivial⟩
                · exact hX
                · intro h; obtain ⟨g, c0, c1, e, hg, hblk, hst⟩ := hA9 (by simpa using h); exact ⟨g, c0, c1, e, hg, hblk, fun h => hst (by simpa using h)⟩
                · exact fun h => (by have h1 := hN9 (by simpa using h); simp [h1])
              case x3hs3 =>
                intro s a' w' hsk hdep hI K hK
                try dsimp only at hI hK
                obtain ⟨v50, v51, v52, v53, v54, v9, hact, hR, hX, hA9, hN9, _⟩ := hI
                subst hact
                have HK := Lib.hid hK
                clear hK
                have e51 : v51 = .agg #[.int .i64 Q1, .int .i64 Q2] := by obtain ⟨h50, h51, h52, h53, h54, _⟩ := hR.out; exact h51 (hdep ⟨1, .data⟩ (by simp) rfl)
                subst e51
                have e52 : v52 = .agg #[.int .i64 c, .int .i64 d] := by obtain ⟨h50, h51, h52, h53, h54, _⟩ := hR.out; exact h52 (hdep ⟨2, .data⟩ (by simp) rfl)
                subst e52
                have kc0 : w'.cell? ⟨w.heap.size, 0, none⟩ = some (.int .i64 a) := hX.cell (by first | (simp; done) | (simp; omega)) (by first | assumption | (go_simp; done) | (simp; done))
                have kc1 : w'.cell? ⟨w.heap.size, 1, none⟩ = some (.int .i64 b) := hX.cell (by first | (simp; done) | (simp; omega)) (by first | assumption | (go_simp; done) | (simp; done))
                have kc2 : w'.cell? ⟨w.heap.size + 1, 0, none⟩ = some (.int .i64 c) := hX.cell (by first | (simp; done) | (simp; omega)) (by first | assumption | (go_simp; done) | (simp; done))
                have kc3 : w'.cell? ⟨w.heap.size + 1, 1, none⟩ = some (.int .i64 d) := hX.cell (by first | (simp; done) | (simp; omega)) (by first | assumption | (go_simp; done) | (simp; done))
                have kc4 : w'.cell? ⟨w1.heap.size, 0, none⟩ = some (.int .i64 0) := hX.cell (by first | (simp; done) | (simp; omega)) (by first | assumption | (go_simp; done) | (simp; done))
                have kc5 : w'.cell? ⟨w1.heap.size, 1, none⟩ = some (.int .i64 0) := hX.cell (by first | (simp; done) | (simp; omega)) (by first | assumption | (go_simp; done) | (simp; done))
                have kc6 : w'.cell? ⟨w1.heap.size + 1, 0, none⟩ = some (.int .i64 0) := hX.cell (by first | (simp; done) | (simp; omega)) (by first | assumption | (go_simp; done) | (simp; done))
                have kc7 : w'.cell? ⟨w1.heap.size + 1, 1, none⟩ = some (.int .i64 0) := hX.cell (by first | (simp; done) | (simp; omega)) (by first | assumption | (go_simp; done) | (simp; done))
                have kc8 : w'.cell? ⟨w4.heap.size, 0, none⟩ = some (.int .i64 Q1) := hX.cell (by first | (simp; done) | (simp; omega)) (by first | assumption | (go_simp; done) | (simp; done))
                have kc9 : w'.cell? ⟨w4.heap.size, 1, none⟩ = some (.int .i64 Q2) := hX.cell (by first | (simp; done) | (simp; omega)) (by first | assumption | (go_simp; done) | (simp; done))
                clear hdep
                refine StepG.mk rfl ?_; rw [ha0]; simp only [putL, Act.put, List.setIfInBounds_toArray, List.set_cons_zero, List.set_cons_succ]
                go_wp2_with fail
                refine ((HT.out _)).mono ?_
                rintro e wn ⟨rfl, hb⟩
                go_wp2_with fail
                refine HK.out _ _ ?_
                refine ⟨v50, (.agg #[.int .i64 Q1, .int .i64 Q2]), (.agg #[.int .i64 c, .int .i64 d]), (.agg #[.int .i64 (m1 + m2), .int .i64 (m3 + m4 + m2)]), v54, v9, (by rw [ha0]; simp only [putL, Act.put, List.setIfInBounds_toArray, List.set_cons_zero, List.set_cons_succ]), ?_, ?_, ?_, ?_, trivial⟩
                · obtain ⟨h50, h51, h52, h53, h54, _⟩ := hR.out
                  exact Lib.hid ⟨fun h => h50 (by simpa using h), fun _ => rfl, fun _ => rfl, fun _ => rfl, fun h => h54 (by simpa using h), trivial⟩
                · exact hX.call hb
                · intro h; obtain ⟨g, c0, c1, e, hg, hblk, hst⟩ := hA9 (by simpa using h); exact ⟨g, c0, c1, e, hg, (hb.block g (blk_lt hblk)).trans hblk, fun h => hst (by simpa using h)⟩
                · exact fun h => (by have h1 := hN9 (by simpa using h); simp [h1])
              case x3hs4 =>
                intro s a' w' hsk hdep hI K hK
                try dsimp only at hI hK
                obtain ⟨v50, v51, v52, v53, v54, v9, hact, hR, hX, hA9, hN9, _⟩ := hI
                subst hact
                have HK := Lib.hid hK
                clear hK
                have e50 : v50 = .agg #[.int .i64 a, .int .i64 b] := by obtain ⟨h50, h51, h52, h53, h54, _⟩ := hR.out; exact h50 (hdep ⟨0, .data⟩ (by simp) rfl)
                subst e50
                have e53 : v53 = .agg #[.int .i64 (m1 + m2), .int .i64 (m3 + m4 + m2)] := by obtain ⟨h50, h51, h52, h53, h54, _⟩ := hR.out; exact h53 (hdep ⟨3, .data⟩ (by simp) rfl)
                subst e53
                have kc0 : w'.cell? ⟨w.heap.size, 0, none⟩ = some (.int .i64 a) := hX.cell (by first | (simp; done) | (simp; omega)) (by first | assumption | (go_simp; done) | (simp; done))
                have kc1 : w'.cell? ⟨w.heap.size, 1, none⟩ = some (.int .i64 b) := hX.cell (by first | (simp; done) | (simp; omega)) (by first | assumption | (go_simp; done) | (simp; done))
                have kc2 : w'.cell? ⟨w.heap.size + 1, 0, none⟩ = some (.int .i64 c) := hX.cell (by first | (simp; done) | (simp; omega)) (by first | assumption | (go_simp; done) | (simp; done))
                have kc3 : w'.cell? ⟨w.heap.size + 1, 1, none⟩ = some (.int .i64 d) := hX.cell (by first | (simp; done) | (simp; omega)) (by first | assumption | (go_simp; done) | (simp; done))
                have kc4 : w'.cell? ⟨w1.heap.size, 0, none⟩ = some (.int .i64 0) := hX.cell (by first | (simp; done) | (simp; omega)) (by first | assumption | (go_simp; done) | (simp; done))
                have kc5 : w'.cell? ⟨w1.heap.size, 1, none⟩ = some (.int .i64 0) := hX.cell (by first | (simp; done) | (simp; omega)) (by first | assumption | (go_simp; done) | (simp; done))
                have kc6 : w'.cell? ⟨w1.heap.size + 1, 0, none⟩ = some (.int .i64 0) := hX.cell (by first | (simp; done) | (simp; omega)) (by first | assumption | (go_simp; done) | (simp; done))
                have kc7 : w'.cell? ⟨w1.heap.size + 1, 1, none⟩ = some (.int .i64 0) := hX.cell (by first | (simp; done) | (simp; omega)) (by first | assumption | (go_simp; done) | (simp; done))
                have kc8 : w'.cell? ⟨w4.heap.size, 0, none⟩ = some (.int .i64 Q1) := hX.cell (by first | (simp; done) | (simp; omega)) (by first | assumption | (go_simp; done) | (simp; done))
                have kc9 : w'.cell? ⟨w4.heap.size, 1, none⟩ = some (.int .i64 Q2) := hX.cell (by first | (simp; done) | (simp; omega)) (by first | assumption | (go_simp; done) | (simp; done))
                clear hdep
                refine StepG.mk rfl ?_; rw [ha0]; simp only [putL, Act.put, List.setIfInBounds_toArray, List.set_cons_zero, List.set_cons_succ]
                go_wp2_with fail
                refine ((HM.out _)).mono ?_
                rintro e wn ⟨rfl, hb⟩
                go_wp2_with fail
                refine HK.out _ _ ?_
                refine ⟨(.agg #[.int .i64 a, .int .i64 b]), v51, v52, (.agg #[.int .i64 (m1 + m2), .int .i64 (m3 + m4 + m2)]), (.agg #[.int .i64 R1, .int .i64 R2]), v9, (by rw [ha0]; simp only [putL, Act.put, List.setIfInBounds_toArray, List.set_cons_zero, List.set_cons_succ]), ?_, ?_, ?_, ?_, trivial⟩
                · obtain ⟨h50, h51, h52, h53, h54, _⟩ := hR.out
                  exact Lib.hid ⟨fun _ => rfl, fun h => h51 (by simpa using h), fun h => h52 (by simpa using h), fun _ => rfl, fun _ => rfl, trivial⟩
                · exact hX.call hb
                · intro h; obtain ⟨g, c0, c1, e, hg, hblk, hst⟩ := hA9 (by simpa using h); exact ⟨g, c0, c1, e, hg, (hb.block g (blk_lt hblk)).trans hblk, fun h => hst (by simpa using h)⟩
                · exact fun h => (by have h1 := hN9 (by simpa using h); simp [h1])
              case x3hs5 =>
                intro s a' w' hsk hdep hI K hK
                try dsimp only at hI hK
                obtain ⟨v50, v51, v52, v53, v54, v9, hact, hR, hX, hA9, hN9, _⟩ := hI
                subst hact
                have HK := Lib.hid hK
                clear hK
                have kc0 : w'.cell? ⟨w.heap.size, 0, none⟩ = some (.int .i64 a) := hX.cell (by first | (simp; done) | (simp; omega)) (by first | assumption | (go_simp; done) | (simp; done))
                have kc1 : w'.cell? ⟨w.heap.size, 1, none⟩ = some (.int .i64 b) := hX.cell (by first | (simp; done) | (simp; omega)) (by first | assumption | (go_simp; done) | (simp; done))
                have kc2 : w'.cell? ⟨w.heap.size + 1, 0, none⟩ = some (.int .i64 c) := hX.cell (by first | (simp; done) | (simp; omega)) (by first | assumption | (go_simp; done) | (simp; done))
                have kc3 : w'.cell? ⟨w.heap.size + 1, 1, none⟩ = some (.int .i64 d) := hX.cell (by first | (simp; done) | (simp; omega)) (by first | assumption | (go_simp; done) | (simp; done))
                have kc4 : w'.cell? ⟨w1.heap.size, 0, none⟩ = some (.int .i64 0) := hX.cell (by first | (simp; done) | (simp; omega)) (by first | assumption | (go_simp; done) | (simp; done))
                have kc5 : w'.cell? ⟨w1.heap.size, 1, none⟩ = some (.int .i64 0) := hX.cell (by first | (simp; done) | (simp; omega)) (by first | assumption | (go_simp; done) | (simp; done))
                have kc6 : w'.cell? ⟨w1.heap.size + 1, 0, none⟩ = some (.int .i64 0) := hX.cell (by first | (simp; done) | (simp; omega)) (by first | assumption | (go_simp; done) | (simp; done))
                have kc7 : w'.cell? ⟨w1.heap.size + 1, 1, none⟩ = some (.int .i64 0) := hX.cell (by first | (simp; done) | (simp; omega)) (by first | assumption | (go_simp; done) | (simp; done))
                have kc8 : w'.cell? ⟨w4.heap.size, 0, none⟩ = some (.int .i64 Q1) := hX.cell (by first | (simp; done) | (simp; omega)) (by first | assumption | (go_simp; done) | (simp; done))
                have kc9 : w'.cell? ⟨w4.heap.size, 1, none⟩ = some (.int .i64 Q2) := hX.cell (by first | (simp; done) | (simp; omega)) (by first | assumption | (go_simp; done) | (simp; done))
                clear hdep
                refine StepG.mk rfl ?_; rw [ha0]; simp only [putL, Act.put, List.setIfInBounds_toArray, List.set_cons_zero, List.set_cons_succ]
                go_wp2_with fail
                refine HK.out _ _ ?_
                refine ⟨v50, v51, v52, v53, v54, (.pointer (some ⟨w'.heap.size, 0, none⟩)), (by rw [ha0]; simp only [putL, Act.put, List.setIfInBounds_toArray, List.set_cons_zero, List.set_cons_succ]), ?_, ?_, ?_, ?_, trivial⟩
                · obtain ⟨h50, h51, h52, h53, h54, _⟩ := hR.out
                  exact Lib.hid ⟨fun h => h50 (by simpa using h), fun h => h51 (by simpa using h), fun h => h52 (by simpa using h), fun h => h53 (by simpa using h), fun h => h54 (by simpa using h), trivial⟩
                · exact hX.alloc _
                · exact fun _ => ⟨w'.heap.size, .int .i64 0, .int .i64 0, rfl, hX.size, blk_new w' _, fun h => (by have h1 := hN9 (by simpa using h); rw [h1] at hsk; cases hsk)⟩
                · exact fun _ => rfl
              case x3hs6 =>
                intro s a' w' hsk hdep hI K hK
                try dsimp only at hI hK
                obtain ⟨v50, v51, v52, v53, v54, v9, hact, hR, hX, hA9, hN9, _⟩ := hI
                subst hact
                have HK := Lib.hid hK
                clear hK
                have e54 : v54 = .agg #[.int .i64 R1, .int .i64 R2] := by obtain ⟨h50, h51, h52, h53, h54, _⟩ := hR.out; exact h54 (hdep ⟨4, .data⟩ (by simp) rfl)
                subst e54
                obtain ⟨g, c0, c1, ev, hg, hblk, hst⟩ := hA9 (hdep ⟨5, .data⟩ (by simp) rfl)
                subst ev
                have kc0 : w'.cell? ⟨w.heap.size, 0, none⟩ = some (.int .i64 a) := hX.cell (by first | (simp; done) | (simp; omega)) (by first | assumption | (go_simp; done) | (simp; done))
                have kc1 : w'.cell? ⟨w.heap.size, 1, none⟩ = some (.int .i64 b) := hX.cell (by first | (simp; done) | (simp; omega)) (by first | assumption | (go_simp; done) | (simp; done))
                have kc2 : w'.cell? ⟨w.heap.size + 1, 0, none⟩ = some (.int .i64 c) := hX.cell (by first | (simp; done) | (simp; omega)) (by first | assumption | (go_simp; done) | (simp; done))
                have kc3 : w'.cell? ⟨w.heap.size + 1, 1, none⟩ = some (.int .i64 d) := hX.cell (by first | (simp; done) | (simp; omega)) (by first | assumption | (go_simp; done) | (simp; done))
                have kc4 : w'.cell? ⟨w1.heap.size, 0, none⟩ = some (.int .i64 0) := hX.cell (by first | (simp; done) | (simp; omega)) (by first | assumption | (go_simp; done) | (simp; done))
                have kc5 : w'.cell? ⟨w1.heap.size, 1, none⟩ = some (.int .i64 0) := hX.cell (by first | (simp; done) | (simp; omega)) (by first | assumption | (go_simp; done) | (simp; done))
                have kc6 : w'.cell? ⟨w1.heap.size + 1, 0, none⟩ = some (.int .i64 0) := hX.cell (by first | (simp; done) | (simp; omega)) (by first | assumption | (go_simp; done) | (simp; done))
                have kc7 : w'.cell? ⟨w1.heap.size + 1, 1, none⟩ = some (.int .i64 0) := hX.cell (by first | (simp; done) | (simp; omega)) (by first | assumption | (go_simp; done) | (simp; done))
                have kc8 : w'.cell? ⟨w4.heap.size, 0, none⟩ = some (.int .i64 Q1) := hX.cell (by first | (simp; done) | (simp; omega)) (by first | assumption | (go_simp; done) | (simp; done))
                have kc9 : w'.cell? ⟨w4.heap.size, 1, none⟩ = some (.int .i64 Q2) := hX.cell (by first | (simp; done) | (simp; omega)) (by first | assumption | (go_simp; done) | (simp; done))
                have kb0 : w'.cell? ⟨g, 0, none⟩ = some c0 := cell_of_row w' g 0 _ _ _ hblk
                have kb1 : w'.cell? ⟨g, 1, none⟩ = some c1 := cell_of_row w' g 1 _ _ _ hblk
                have kf : ∀ o, w'.frozen? ⟨g, o, none⟩ = false := fun o => frozen_of_row w' g o _ _ hblk
                have hBlk := Lib.hid hblk
                clear hblk
                have hdepA : s 5 = true := hdep ⟨5, .data⟩ (by simp) rfl
                clear hdep
                refine StepG.mk rfl ?_; rw [ha0]; simp only [putL, Act.put, List.setIfInBounds_toArray, List.set_cons_zero, List.set_cons_succ]
                go_wp2_with fail
                refine HK.out _ _ ?_
                refine ⟨v50, v51, v52, v53, (.agg #[.int .i64 R1, .int .i64 R2]), (.pointer (some ⟨g, 0, none⟩)), (by rw [ha0]; simp only [putL, Act.put, List.setIfInBounds_toArray, List.set_cons_zero, List.set_cons_succ]), ?_, ?_, ?_, ?_, trivial⟩
                · obtain ⟨h50, h51, h52, h53, h54, _⟩ := hR.out
                  exact Lib.hid ⟨fun h => h50 (by simpa using h), fun h => h51 (by simpa using h), fun h => h52 (by simpa using h), fun h => h53 (by simpa using h), fun _ => rfl, trivial⟩
                · exact ((hX.setNew (p := ⟨g, 0, none⟩) hg _).setNew (p := ⟨g, 1, none⟩) hg _)
                · exact fun _ => ⟨g, _, _, rfl, hg, blk_set2 hBlk.out, fun _ => ⟨rfl, rfl⟩⟩
                · exact fun _ => (by simp [hdepA])
              intro s a' w6 hall hI
              try dsimp only at hI
              obtain ⟨v50, v51, v52, v53, v54, v9, hact, hR, hXR, hA9, hN9, _⟩ := hI
              subst hact
              obtain ⟨h50, h51, h52, h53, h54, _⟩ := hR.out
              clear hR
              have e50 := h50 (hall 0 (by decide))
              subst e50
              clear h50
              have e51 := h51 (hall 1 (by decide))
              subst e51
              clear h51
              have e52 := h52 (hall 2 (by decide))
              subst e52
              clear h52
              have e53 := h53 (hall 3 (by decide))
              subst e53
              clear h53
              have e54 := h54 (hall 4 (by decide))
              subst e54
              clear h54
              obtain ⟨g9, c0, c1, ev, hg9, hblk9, hst⟩ := hA9 (hall 5 (by decide))
              subst ev
              clear hA9 hN9
              obtain ⟨es0, es1⟩ := hst (hall 6 (by decide))
              subst es0
              subst es1
              clear hst
              clear hall
              rw [ha0]; simp only [putL, Act.put, List.setIfInBounds_toArray, List.set_cons_zero, List.set_cons_succ]
              clear ha0
              have B6 : Below w.heap.size w w6 := hXR.below (by first | assumption | exact (by repeat (first | exact Below.refl _ _ | exact Nat.le_refl _ | refine Below.alloc ?_ ?_ _ | refine Below.setCell ?_ ?_ _ | refine Below.drew ?_ | refine bl_drewN ?_ _ | (assumption) | refine bl_call ?_ (by assumption) ?_ | omega | (simp <;> omega)))) (by first | omega | (simp <;> omega)) (by simp <;> omega)
              have cew_heap_size6_0 : w6.cell? ⟨w.heap.size, 0, none⟩ = some (.int .i64 a) := hXR.cell (by first | (simp; done) | (simp; omega)) (by first | assumption | (go_simp; done) | (simp; done))
              have cew_heap_size6_1 : w6.cell? ⟨w.heap.size, 1, none⟩ = some (.int .i64 b) := hXR.cell (by first | (simp; done) | (simp; omega)) (by first | assumption | (go_simp; done) | (simp; done))
              have zew_heap_size6 : w.heap.size < w6.heap.size := block_lt_of_cell cew_heap_size6_0
              have cew_heap_size_16_0 : w6.cell? ⟨w.heap.size + 1, 0, none⟩ = some (.int .i64 c) := hXR.cell (by first | (simp; done) | (simp; omega)) (by first | assumption | (go_simp; done) | (simp; done))
              have cew_heap_size_16_1 : w6.cell? ⟨w.heap.size + 1, 1, none⟩ = some (.int .i64 d) := hXR.cell (by first | (simp; done) | (simp; omega)) (by first | assumption | (go_simp; done) | (simp; done))
              have zew_heap_size_16 : w.heap.size + 1 < w6.heap.size := block_lt_of_cell cew_heap_size_16_0
              have cew1_heap_size6_0 : w6.cell? ⟨w1.heap.size, 0, none⟩ = some (.int .i64 0) := hXR.cell (by first | (simp; done) | (simp; omega)) (by first | assumption | (go_simp; done) | (simp; done))
              have cew1_heap_size6_1 : w6.cell? ⟨w1.heap.size, 1, none⟩ = some (.int .i64 0) := hXR.cell (by first | (simp; done) | (simp; omega)) (by first | assumption | (go_simp; done) | (simp; done))
              have zew1_heap_size6 : w1.heap.size < w6.heap.size := block_lt_of_cell cew1_heap_size6_0
              have cew1_heap_size_16_0 : w6.cell? ⟨w1.heap.size + 1, 0, none⟩ = some (.int .i64 0) := hXR.cell (by first | (simp; done) | (simp; omega)) (by first | assumption | (go_simp; done) | (simp; done))
              have cew1_heap_size_16_1 : w6.cell? ⟨w1.heap.size + 1, 1, none⟩ = some (.int .i64 0) := hXR.cell (by first | (simp; done) | (simp; omega)) (by first | assumption | (go_simp; done) | (simp; done))
              have zew1_heap_size_16 : w1.heap.size + 1 < w6.heap.size := block_lt_of_cell cew1_heap_size_16_0
              have cew4_heap_size6_0 : w6.cell? ⟨w4.heap.size, 0, none⟩ = some (.int .i64 Q1) := hXR.cell (by first | (simp; done) | (simp; omega)) (by first | assumption | (go_simp; done) | (simp; done))
              have cew4_heap_size6_1 : w6.cell? ⟨w4.heap.size, 1, none⟩ = some (.int .i64 Q2) := hXR.cell (by first | (simp; done) | (simp; omega)) (by first | assumption | (go_simp; done) | (simp; done))
              have zew4_heap_size6 : w4.heap.size < w6.heap.size := block_lt_of_cell cew4_heap_size6_0
              have ceg96_0 := row2_0 hblk9
              have ceg96_1 := row2_1 hblk9
              have zeg96 := blk_lt hblk9
              have hsz_6 := B6.size
              clear hXR
              go_wp2_with fail
              refine (refNumber _ _ _).mono ?_
              rintro e w7 ⟨rfl, hb7⟩
              have z7_0 : w.heap.size < w7.heap.size := by have := hb7.size; (try simp at this); omega
              have z7_1 : w.heap.size + 1 < w7.heap.size := by have := hb7.size; (try simp at this); omega
              have cew_heap_size7_0 : w7.cell? ⟨w.heap.size, 0, none⟩ = some (.int .i64 a) := keep_cell hb7 (by first | assumption | (go_simp; done) | (simp; done) | simp [*])
              have zew_heap_size7 : w.heap.size < w7.heap.size := block_lt_of_cell cew_heap_size7_0
              have cew_heap_size7_1 : w7.cell? ⟨w.heap.size, 1, none⟩ = some (.int .i64 b) := keep_cell hb7 (by first | assumption | (go_simp; done) | (simp; done) | simp [*])
              have cew_heap_size_17_0 : w7.cell? ⟨w.heap.size + 1, 0, none⟩ = some (.int .i64 c) := keep_cell hb7 (by first | assumption | (go_simp; done) | (simp; done) | simp [*])
              have zew_heap_size_17 : w.heap.size + 1 < w7.heap.size := block_lt_of_cell cew_heap_size_17_0
              have cew_heap_size_17_1 : w7.cell? ⟨w.heap.size + 1, 1, none⟩ = some (.int .i64 d) := keep_cell hb7 (by first | assumption | (go_simp; done) | (simp; done) | simp [*])
              have cew1_heap_size7_0 : w7.cell? ⟨w1.heap.size, 0, none⟩ = some (.int .i64 0) := keep_cell hb7 (by first | assumption | (go_simp; done) | (simp; done) | simp [*])
              have zew1_heap_size7 : w1.heap.size < w7.heap.size := block_lt_of_cell cew1_heap_size7_0
              have cew1_heap_size7_1 : w7.cell? ⟨w1.heap.size, 1, none⟩ = some (.int .i64 0) := keep_cell hb7 (by first | assumption | (go_simp; done) | (simp; done) | simp [*])
              have cew1_heap_size_17_0 : w7.cell? ⟨w1.heap.size + 1, 0, none⟩ = some (.int .i64 0) := keep_cell hb7 (by first | assumption | (go_simp; done) | (simp; done) | simp [*])
              have zew1_heap_size_17 : w1.heap.size + 1 < w7.heap.size := block_lt_of_cell cew1_heap_size_17_0
              have cew1_heap_size_17_1 : w7.cell? ⟨w1.heap.size + 1, 1, none⟩ = some (.int .i64 0) := keep_cell hb7 (by first | assumption | (go_simp; done) | (simp; done) | simp [*])
              have cew4_heap_size7_0 : w7.cell? ⟨w4.heap.size, 0, none⟩ = some (.int .i64 Q1) := keep_cell hb7 (by first | assumption | (go_simp; done) | (simp; done) | simp [*])
              have zew4_heap_size7 : w4.heap.size < w7.heap.size := block_lt_of_cell cew4_heap_size7_0
              have cew4_heap_size7_1 : w7.cell? ⟨w4.heap.size, 1, none⟩ = some (.int .i64 Q2) := keep_cell hb7 (by first | assumption | (go_simp; done) | (simp; done) | simp [*])
              have ceg97_0 : w7.cell? ⟨g9, 0, none⟩ = some (.int .i64 R1) := keep_cell hb7 (by first | assumption | (go_simp; done) | (simp; done) | simp [*])
              have zeg97 : g9 < w7.heap.size := block_lt_of_cell ceg97_0
              have ceg97_1 : w7.cell? ⟨g9, 1, none⟩ = some (.int .i64 R2) := keep_cell hb7 (by first | assumption | (go_simp; done) | (simp; done) | simp [*])
              have B7 : Below w.heap.size w w7 := bl_call (by repeat (first | exact Below.refl _ _ | exact Nat.le_refl _ | refine Below.alloc ?_ ?_ _ | refine Below.setCell ?_ ?_ _ | refine Below.drew ?_ | refine bl_drewN ?_ _ | (assumption) | refine bl_call ?_ (by assumption) ?_ | omega | (simp <;> omega))) hb7 (by first | assumption | (simp; done) | (simp; omega) | omega)
              clear hb7
              have hsz_7 := B7.size
              rw [K2.out]
              go_wp2_with fail
              refine (awake_any _).mono ?_
              rintro e w8 ⟨rfl, hb8⟩
              have z8_0 : w.heap.size < w8.heap.size := by have := hb8.size; (try simp at this); omega
              have z8_1 : w.heap.size + 1 < w8.heap.size := by have := hb8.size; (try simp at this); omega
              have cew_heap_size8_0 : w8.cell? ⟨w.heap.size, 0, none⟩ = some (.int .i64 a) := keep_cell hb8 (by first | assumption | (go_simp; done) | (simp; done) | simp [*])
              have zew_heap_size8 : w.heap.size < w8.heap.size := block_lt_of_cell cew_heap_size8_0
              have cew_heap_size8_1 : w8.cell? ⟨w.heap.size, 1, none⟩ = some (.int .i64 b) := keep_cell hb8 (by first | assumption | (go_simp; done) | (simp; done) | simp [*])
              have cew_heap_size_18_0 : w8.cell? ⟨w.heap.size + 1, 0, none⟩ = some (.int .i64 c) := keep_cell hb8 (by first | assumption | (go_simp; done) | (simp; done) | simp [*])
              have zew_heap_size_18 : w.heap.size + 1 < w8.heap.size := block_lt_of_cell cew_heap_size_18_0
              have cew_heap_size_18_1 : w8.cell? ⟨w.heap.size + 1, 1, none⟩ = some (.int .i64 d) := keep_cell hb8 (by first | assumption | (go_simp; done) | (simp; done) | simp [*])
              have cew1_heap_size8_0 : w8.cell? ⟨w1.heap.size, 0, none⟩ = some (.int .i64 0) := keep_cell hb8 (by first | assumption | (go_simp; done) | (simp; done) | simp [*])
              have zew1_heap_size8 : w1.heap.size < w8.heap.size := block_lt_of_cell cew1_heap_size8_0
              have cew1_heap_size8_1 : w8.cell? ⟨w1.heap.size, 1, none⟩ = some (.int .i64 0) := keep_cell hb8 (by first | assumption | (go_simp; done) | (simp; done) | simp [*])
              have cew1_heap_size_18_0 : w8.cell? ⟨w1.heap.size + 1, 0, none⟩ = some (.int .i64 0) := keep_cell hb8 (by first | assumption | (go_simp; done) | (simp; done) | simp [*])
              have zew1_heap_size_18 : w1.heap.size + 1 < w8.heap.size := block_lt_of_cell cew1_heap_size_18_0
              have cew1_heap_size_18_1 : w8.cell? ⟨w1.heap.size + 1, 1, none⟩ = some (.int .i64 0) := keep_cell hb8 (by first | assumption | (go_simp; done) | (simp; done) | simp [*])
              have cew4_heap_size8_0 : w8.cell? ⟨w4.heap.size, 0, none⟩ = some (.int .i64 Q1) := keep_cell hb8 (by first | assumption | (go_simp; done) | (simp; done) | simp [*])
              have zew4_heap_size8 : w4.heap.size < w8.heap.size := block_lt_of_cell cew4_heap_size8_0
              have cew4_heap_size8_1 : w8.cell? ⟨w4.heap.size, 1, none⟩ = some (.int .i64 Q2) := keep_cell hb8 (by first | assumption | (go_simp; done) | (simp; done) | simp [*])
              have ceg98_0 : w8.cell? ⟨g9, 0, none⟩ = some (.int .i64 R1) := keep_cell hb8 (by first | assumption | (go_simp; done) | (simp; done) | simp [*])
              have zeg98 : g9 < w8.heap.size := block_lt_of_cell ceg98_0
              have ceg98_1 : w8.cell? ⟨g9, 1, none⟩ = some (.int .i64 R2) := keep_cell hb8 (by first | assumption | (go_simp; done) | (simp; done) | simp [*])
              have B8 : Below w.heap.size w w8 := bl_call (by repeat (first | exact Below.refl _ _ | exact Nat.le_refl _ | refine Below.alloc ?_ ?_ _ | refine Below.setCell ?_ ?_ _ | refine Below.drew ?_ | refine bl_drewN ?_ _ | (assumption) | refine bl_call ?_ (by assumption) ?_ | omega | (simp <;> omega))) hb8 (by first | assumption | (simp; done) | (simp; omega) | omega)
              clear hb8
              have hsz_8 := B8.size
              go_wp2_with fail
              go_ret
              exact ⟨rfl, (by repeat (first | exact Below.refl _ _ | exact Nat.le_refl _ | refine Below.alloc ?_ ?_ _ | refine Below.setCell ?_ ?_ _ | refine Below.drew ?_ | refine bl_drewN ?_ _ | (assumption) | refine bl_call ?_ (by assumption) ?_ | omega | (simp <;> omega)))⟩
            ·
              go_enter Tryd.func4, Tryd.ntmps4
              go_wp2_with fail
              refine (HC.out _).mono ?_
              rintro e w1 ⟨rfl, hb1⟩
              have z1_0 : w.heap.size < w1.heap.size := by have := hb1.size; (try simp at this); omega
              have z1_1 : w.heap.size + 1 < w1.heap.size := by have := hb1.size; (try simp at this); omega
              have cew_heap_size1_0 : w1.cell? ⟨w.heap.size, 0, none⟩ = some (.int .i64 a) := keep_cell hb1 (by first | assumption | (go_simp; done) | (simp; done) | simp [*])
              have zew_heap_size1 : w.heap.size < w1.heap.size := block_lt_of_cell cew_heap_size1_0
              have cew_heap_size1_1 : w1.cell? ⟨w.heap.size, 1, none⟩ = some (.int .i64 b) := keep_cell hb1 (by first | assumption | (go_simp; done) | (simp; done) | simp [*])
              have cew_heap_size_11_0 : w1.cell? ⟨w.heap.size + 1, 0, none⟩ = some (.int .i64 0) := keep_cell hb1 (by first | assumption | (go_simp; done) | (simp; done) | simp [*])
              have zew_heap_size_11 : w.heap.size + 1 < w1.heap.size := block_lt_of_cell cew_heap_size_11_0
              have cew_heap_size_11_1 : w1.cell? ⟨w.heap.size + 1, 1, none⟩ = some (.int .i64 d) := keep_cell hb1 (by first | assumption | (go_simp; done) | (simp; done) | simp [*])
              have B1 : Below w.heap.size w w1 := bl_call (by repeat (first | exact Below.refl _ _ | exact Nat.le_refl _ | refine Below.alloc ?_ ?_ _ | refine Below.setCell ?_ ?_ _ | refine Below.drew ?_ | refine bl_drewN ?_ _ | (assumption) | refine bl_call ?_ (by assumption) ?_ | omega | (simp <;> omega))) hb1 (by first | assumption | (simp; done) | (simp; omega) | omega)
              clear hb1
              have hsz_1 := B1.size
              go_wp2_with fail
              refine (refNumber _ _ _).mono ?_
              rintro e w2 ⟨rfl, hb2⟩
              have z2_0 : w.heap.size < w2.heap.size := by have := hb2.size; (try simp at this); omega
              have z2_1 : w.heap.size + 1 < w2.heap.size := by have := hb2.size; (try simp at this); omega
              have cew_heap_size2_0 : w2.cell? ⟨w.heap.size, 0, none⟩ = some (.int .i64 a) := keep_cell hb2 (by first | assumption | (go_simp; done) | (simp; done) | simp [*])
              have zew_heap_size2 : w.heap.size < w2.heap.size := block_lt_of_cell cew_heap_size2_0
              have cew_heap_size2_1 : w2.cell? ⟨w.heap.size, 1, none⟩ = some (.int .i64 b) := keep_cell hb2 (by first | assumption | (go_simp; done) | (simp; done) | simp [*])
              have cew_heap_size_12_0 : w2.cell? ⟨w.heap.size + 1, 0, none⟩ = some (.int .i64 0) := keep_cell hb2 (by first | assumption | (go_simp; done) | (simp; done) | simp [*])
              have zew_heap_size_12 : w.heap.size + 1 < w2.heap.size := block_lt_of_cell cew_heap_size_12_0
              have cew_heap_size_12_1 : w2.cell? ⟨w.heap.size + 1, 1, none⟩ = some (.int .i64 d) := keep_cell hb2 (by first | assumption | (go_simp; done) | (simp; done) | simp [*])
              have cew1_heap_size2_0 : w2.cell? ⟨w1.heap.size, 0, none⟩ = some (.int .i64 0) := keep_cell hb2 (by first | assumption | (go_simp; done) | (simp; done) | simp [*])
              have zew1_heap_size2 : w1.heap.size < w2.heap.size := block_lt_of_cell cew1_heap_size2_0
              have cew1_heap_size2_1 : w2.cell? ⟨w1.heap.size, 1, none⟩ = some (.int .i64 0) := keep_cell hb2 (by first | assumption | (go_simp; done) | (simp; done) | simp [*])
              have cew1_heap_size_12_0 : w2.cell? ⟨w1.heap.size + 1, 0, none⟩ = some (.int .i64 0) := keep_cell hb2 (by first | assumption | (go_simp; done) | (simp; done) | simp [*])
              have zew1_heap_size_12 : w1.heap.size + 1 < w2.heap.size := block_lt_of_cell cew1_heap_size_12_0
              have cew1_heap_size_12_1 : w2.cell? ⟨w1.heap.size + 1, 1, none⟩ = some (.int .i64 0) := keep_cell hb2 (by first | assumption | (go_simp; done) | (simp; done) | simp [*])
              have B2 : Below w.heap.size w w2 := bl_call (by repeat (first | exact Below.refl _ _ | exact Nat.le_refl _ | refine Below.alloc ?_ ?_ _ | refine Below.setCell ?_ ?_ _ | refine Below.drew ?_ | refine bl_drewN ?_ _ | (assumption) | refine bl_call ?_ (by assumption) ?_ | omega | (simp <;> omega))) hb2 (by first | assumption | (simp; done) | (simp; omega) | omega)
              clear hb2
              have hsz_2 := B2.size
              rw [H1.out]
              go_wp2_with fail
              refine (refNumber _ _ _).mono ?_
              rintro e w3 ⟨rfl, hb3⟩
              have z3_0 : w.heap.size < w3.heap.size := by have := hb3.size; (try simp at this); omega
              have z3_1 : w.heap.size + 1 < w3.heap.size := by have := hb3.size; (try simp at this); omega
              have cew_heap_size3_0 : w3.cell? ⟨w.heap.size, 0, none⟩ = some (.int .i64 a) := keep_cell hb3 (by first | assumption | (go_simp; done) | (simp; done) | simp [*])
              have zew_heap_size3 : w.heap.size < w3.heap.size := block_lt_of_cell cew_heap_size3_0
              have cew_heap_size3_1 : w3.cell? ⟨w.heap.size, 1, none⟩ = some (.int .i64 b) := keep_cell hb3 (by first | assumption | (go_simp; done) | (simp; done) | simp [*])
              have cew_heap_size_13_0 : w3.cell? ⟨w.heap.size + 1, 0, none⟩ = some (.int .i64 0) := keep_cell hb3 (by first | assumption | (go_simp; done) | (simp; done) | simp [*])
              have zew_heap_size_13 : w.heap.size + 1 < w3.heap.size := block_lt_of_cell cew_heap_size_13_0
              have cew_heap_size_13_1 : w3.cell? ⟨w.heap.size + 1, 1, none⟩ = some (.int .i64 d) := keep_cell hb3 (by first | assumption | (go_simp; done) | (simp; done) | simp [*])
              have cew1_heap_size3_0 : w3.cell? ⟨w1.heap.size, 0, none⟩ = some (.int .i64 0) := keep_cell hb3 (by first | assumption | (go_simp; done) | (simp; done) | simp [*])
              have zew1_heap_size3 : w1.heap.size < w3.heap.size := block_lt_of_cell cew1_heap_size3_0
              have cew1_heap_size3_1 : w3.cell? ⟨w1.heap.size, 1, none⟩ = some (.int .i64 0) := keep_cell hb3 (by first | assumption | (go_simp; done) | (simp; done) | simp [*])
              have cew1_heap_size_13_0 : w3.cell? ⟨w1.heap.size + 1, 0, none⟩ = some (.int .i64 0) := keep_cell hb3 (by first | assumption | (go_simp; done) | (simp; done) | simp [*])
              have zew1_heap_size_13 : w1.heap.size + 1 < w3.heap.size := block_lt_of_cell cew1_heap_size_13_0
              have cew1_heap_size_13_1 : w3.cell? ⟨w1.heap.size + 1, 1, none⟩ = some (.int .i64 0) := keep_cell hb3 (by first | assumption | (go_simp; done) | (simp; done) | simp [*])
              have B3 : Below w.heap.size w w3 := bl_call (by repeat (first | exact Below.refl _ _ | exact Nat.le_refl _ | refine Below.alloc ?_ ?_ _ | refine Below.setCell ?_ ?_ _ | refine Below.drew ?_ | refine bl_drewN ?_ _ | (assumption) | refine bl_call ?_ (by assumption) ?_ | omega | (simp <;> omega))) hb3 (by first | assumption | (simp; done) | (simp; omega) | omega)
              clear hb3
              have hsz_3 := B3.size
              rw [H2.out]
              go_wp2_with fail
              refine (HQ.out _).mono ?_
              rintro e w4 ⟨rfl, hb4⟩
              have z4_0 : w.heap.size < w4.heap.size := by have := hb4.size; (try simp at this); omega
              have z4_1 : w.heap.size + 1 < w4.heap.size := by have := hb4.size; (try simp at this); omega
              have cew_heap_size4_0 : w4.cell? ⟨w.heap.size, 0, none⟩ = some (.int .i64 a) := keep_cell hb4 (by first | assumption | (go_simp; done) | (simp; done) | simp [*])
              have zew_heap_size4 : w.heap.size < w4.heap.size := block_lt_of_cell cew_heap_size4_0
              have cew_heap_size4_1 : w4.cell? ⟨w.heap.size, 1, none⟩ = some (.int .i64 b) := keep_cell hb4 (by first | assumption | (go_simp; done) | (simp; done) | simp [*])
              have cew_heap_size_14_0 : w4.cell? ⟨w.heap.size + 1, 0, none⟩ = some (.int .i64 0) := keep_cell hb4 (by first | assumption | (go_simp; done) | (simp; done) | simp [*])
              have zew_heap_size_14 : w.heap.size + 1 < w4.heap.size := block_lt_of_cell cew_heap_size_14_0
              have cew_heap_size_14_1 : w4.cell? ⟨w.heap.size + 1, 1, none⟩ = some (.int .i64 d) := keep_cell hb4 (by first | assumption | (go_simp; done) | (simp; done) | simp [*])
              have cew1_heap_size4_0 : w4.cell? ⟨w1.heap.size, 0, none⟩ = some (.int .i64 0) := keep_cell hb4 (by first | assumption | (go_simp; done) | (simp; done) | simp [*])
              have zew1_heap_size4 : w1.heap.size < w4.heap.size := block_lt_of_cell cew1_heap_size4_0
              have cew1_heap_size4_1 : w4.cell? ⟨w1.heap.size, 1, none⟩ = some (.int .i64 0) := keep_cell hb4 (by first | assumption | (go_simp; done) | (simp; done) | simp [*])
              have cew1_heap_size_14_0 : w4.cell? ⟨w1.heap.size + 1, 0, none⟩ = some (.int .i64 0) := keep_cell hb4 (by first | assumption | (go_simp; done) | (simp; done) | simp [*])
              have zew1_heap_size_14 : w1.heap.size + 1 < w4.heap.size := block_lt_of_cell cew1_heap_size_14_0
              have cew1_heap_size_14_1 : w4.cell? ⟨w1.heap.size + 1, 1, none⟩ = some (.int .i64 0) := keep_cell hb4 (by first | assumption | (go_simp; done) | (simp; done) | simp [*])
              have B4 : Below w.heap.size w w4 := bl_call (by repeat (first | exact Below.refl _ _ | exact Nat.le_refl _ | refine Below.alloc ?_ ?_ _ | refine Below.setCell ?_ ?_ _ | refine Below.drew ?_ | refine bl_drewN ?_ _ | (assumption) | refine bl_call ?_ (by assumption) ?_ | omega | (simp <;> omega))) hb4 (by first | assumption | (simp; done) | (simp; omega) | omega)
              clear hb4
              have hsz_4 := B4.size
              go_wp2_with fail
              refine (refNumber _ _ _).mono ?_
              rintro e w5 ⟨rfl, hb5⟩
              have z5_0 : w.heap.size < w5.heap.size := by have := hb5.size; (try simp at this); omega
              have z5_1 : w.heap.size + 1 < w5.heap.size := by have := hb5.size; (try simp at this); omega
              have cew_heap_size5_0 : w5.cell? ⟨w.heap.size, 0, none⟩ = some (.int .i64 a) := keep_cell hb5 (by first | assumption | (go_simp; done) | (simp; done) | simp [*])
              have zew_heap_size5 : w.heap.size < w5.heap.size := block_lt_of_cell cew_heap_size5_0
              have cew_heap_size5_1 : w5.cell? ⟨w.heap.size, 1, none⟩ = some (.int .i64 b) := keep_cell hb5 (by first | assumption | (go_simp; done) | (simp; done) | simp [*])
              have cew_heap_size_15_0 : w5.cell? ⟨w.heap.size + 1, 0, none⟩ = some (.int .i64 0) := keep_cell hb5 (by first | assumption | (go_simp; done) | (simp; done) | simp [*])
              have zew_heap_size_15 : w.heap.size + 1 < w5.heap.size := block_lt_of_cell cew_heap_size_15_0
              have cew_heap_size_15_1 : w5.cell? ⟨w.heap.size + 1, 1, none⟩ = some (.int .i64 d) := keep_cell hb5 (by first | assumption | (go_simp; done) | (simp; done) | simp [*])
              have cew1_heap_size5_0 : w5.cell? ⟨w1.heap.size, 0, none⟩ = some (.int .i64 0) := keep_cell hb5 (by first | assumption | (go_simp; done) | (simp; done) | simp [*])
              have zew1_heap_size5 : w1.heap.size < w5.heap.size := block_lt_of_cell cew1_heap_size5_0
              have cew1_heap_size5_1 : w5.cell? ⟨w1.heap.size, 1, none⟩ = some (.int .i64 0) := keep_cell hb5 (by first | assumption | (go_simp; done) | (simp; done) | simp [*])
              have cew1_heap_size_15_0 : w5.cell? ⟨w1.heap.size + 1, 0, none⟩ = some (.int .i64 0) := keep_cell hb5 (by first | assumption | (go_simp; done) | (simp; done) | simp [*])
              have zew1_heap_size_15 : w1.heap.size + 1 < w5.heap.size := block_lt_of_cell cew1_heap_size_15_0
              have cew1_heap_size_15_1 : w5.cell? ⟨w1.heap.size + 1, 1, none⟩ = some (.int .i64 0) := keep_cell hb5 (by first | assumption | (go_simp; done) | (simp; done) | simp [*])
              have cew4_heap_size5_0 : w5.cell? ⟨w4.heap.size, 0, none⟩ = some (.int .i64 Q1) := keep_cell hb5 (by first | assumption | (go_simp; done) | (simp; done) | simp [*])
              have zew4_heap_size5 : w4.heap.size < w5.heap.size := block_lt_of_cell cew4_heap_size5_0
              have cew4_heap_size5_1 : w5.cell? ⟨w4.heap.size, 1, none⟩ = some (.int .i64 Q2) := keep_cell hb5 (by first | assumption | (go_simp; done) | (simp; done) | simp [*])
              have B5 : Below w.heap.size w w5 := bl_call (by repeat (first | exact Below.refl _ _ | exact Nat.le_refl _ | refine Below.alloc ?_ ?_ _ | refine Below.setCell ?_ ?_ _ | refine Below.drew ?_ | refine bl_drewN ?_ _ | (assumption) | refine bl_call ?_ (by assumption) ?_ | omega | (simp <;> omega))) hb5 (by first | assumption | (simp; done) | (simp; omega) | omega)
              clear hb5
              have hsz_5 := B5.size
              rw [K1.out]
              go_upto_region 6 with fail
              refine with_act fun a0 ha0 => ?_
              refine wp_region_inv (by kernel_rfl) (by kernel_rfl) (fun s a' w' => ∃ v50 v51 v52 v53 v54 v9 : Value, a' = putL a0 [(50, v50), (51, v51), (52, v52), (53, v53), (54, v54), (9, v9)] ∧ Hid ((s 0 = true → v50 = .agg #[.int .i64 a, .int .i64 b]) ∧ (s 1 = true → v51 = .agg #[.int .i64 Q1, .int .i64 Q2]) ∧ (s 2 = true → v52 = .agg #[.int .i64 0, .int .i64 d]) ∧ (s 3 = true → v53 = .agg #[.int .i64 (m1 + m2), .int .i64 (m3 + m4 + m2)]) ∧ (s 4 = true → v54 = .agg #[.int .i64 R1, .int .i64 R2]) ∧ True) ∧ BelX [] w5 w' ∧ (s 5 = true → ∃ (g : Nat) (c0 c1 : Value), v9 = .pointer (some ⟨g, 0, none⟩) ∧ w5.heap.size ≤ g ∧ w'.heap[g]? = some (.cells #[c0, c1] 23 (0, 0)) ∧ (s 6 = true → c0 = .int .i64 R1 ∧ c1 = .int .i64 R2)) ∧ (s 6 = true → s 5 = true) ∧ True) ?x4hzero ⟨?x4hs0, ?x4hs1, ?x4hs2, ?x4hs3, ?x4hs4, ?x4hs5, ?x4hs6, trivial⟩ ?x4hdone
              case x4hzero =>
                refine ⟨a0.tmps.getD 50 undef, a0.tmps.getD 51 undef, a0.tmps.getD 52 undef, a0.tmps.getD 53 undef, a0.tmps.getD 54 undef, a0.tmps.getD 9 undef, ?_, ?_, ?_, ?_, ?_, trivial⟩
                · simp only [putL, put_self]
                · exact Lib.hid ⟨fun h => (by simp at h), fun h => (by simp at h), fun h => (by simp at h), fun h => (by simp at h), fun h => (by simp at h), trivial⟩
                · exact BelX.start _ _
                · exact fun h => (by simp at h)
                · exact fun h => (by simp at h)
              case x4hs0 =>
                intro s a' w' hsk hdep hI K hK
                try dsimp only at hI hK
                obtain ⟨v50, v51, v52, v53, v54, v9, hact, hR, hX, hA9, hN9, _⟩ := hI
                subst hact
                have HK := Lib.hid hK
                clear hK
                have kc0 : w'.cell? ⟨w.heap.size, 0, none⟩ = some (.int .i64 a) := hX.cell (by first | (simp; done) | (simp; omega)) (by first | assumption | (go_simp; done) | (simp; done))
                have kc1 : w'.cell? ⟨w.heap.size, 1, none⟩ = some (.int .i64 b) := hX.cell (by first | (simp; done) | (simp; omega)) (by first | assumption | (go_simp; done) | (simp; done))
                have kc2 : w'.cell? ⟨w.heap.size + 1, 0, none⟩ = some (.int .i64 0) := hX.cell (by first | (simp; done) | (simp; omega)) (by first | assumption | (go_simp; done) | (simp; done))
                have kc3 : w'.cell? ⟨w.heap.size + 1, 1, none⟩ = some (.int .i64 d) := hX.cell (by first | (simp; done) | (simp; omega)) (by first | assumption | (go_simp; done) | (simp; done))
                have kc4 : w'.cell? ⟨w1.heap.size, 0, none⟩ = some (.int .i64 0) := hX.cell (by first | (simp; done) | (simp; omega)) (by first | assumption | (go_simp; done) | (simp; done))
                have kc5 : w'.cell? ⟨w1.heap.size, 1, none⟩ = some (.int .i64 0) := hX.cell (by first | (simp; done) | (simp; omega)) (by first | assumption | (go_simp; done) | (simp; done))
                have kc6 : w'.cell? ⟨w1.heap.size + 1, 0, none⟩ = some (.int .i64 0) := hX.cell (by first | (simp; done) | (simp; omega)) (by first | assumption | (go_simp; done) | (simp; done))
                have kc7 : w'.cell? ⟨w1.heap.size + 1, 1, none⟩ = some (.int .i64 0) := hX.cell (by first | (simp; done) | (simp; omega)) (by first | assumption | (go_simp; done) | (simp; done))
                have kc8 : w'.cell? ⟨w4.heap.size, 0, none⟩ = some (.int .i64 Q1) := hX.cell (by first | (simp; done) | (simp; omega)) (by first | assumption | (go_simp; done) | (simp; done))
                have kc9 : w'.cell? ⟨w4.heap.size, 1, none⟩ = some (.int .i64 Q2) := hX.cell (by first | (simp; done) | (simp; omega)) (by first | assumption | (go_simp; done) | (simp; done))
                clear hdep
                refine StepG.mk rfl ?_; rw [ha0]; simp only [putL, Act.put, List.setIfInBounds_toArray, List.set_cons_zero, List.set_cons_succ]
                go_wp2_with fail
                refine HK.out _ _ ?_
                refine ⟨(.agg #[.int .i64 a, .int .i64 b]), v51, v52, v53, v54, v9, (by rw [ha0]; simp only [putL, Act.put, List.setIfInBounds_toArray, List.set_cons_zero, List.set_cons_succ]), ?_, ?_, ?_, ?_, trivial⟩
                · obtain ⟨h50, h51, h52, h53, h54, _⟩ := hR.out
                  exact Lib.hid ⟨fun _ => rfl, fun h => h51 (by simpa using h), fun h => h52 (by simpa using h), fun h => h53 (by simpa using h), fun h => h54 (by simpa using h), trivial⟩
                · exact hX
                · intro h; obtain ⟨g, c0, c1, e, hg, hblk, hst⟩ := hA9 (by simpa using h); exact ⟨g, c0, c1, e, hg, hblk, fun h => hst (by simpa using h)⟩
                · exact fun h => (by have h1 := hN9 (by simpa using h); simp [h1])
              case x4hs1 =>
                intro s a' w' hsk hdep hI K hK
                try dsimp only at hI hK
                obtain ⟨v50, v51, v52, v53, v54, v9, hact, hR, hX, hA9, hN9, _⟩ := hI
                subst hact
                have HK := Lib.hid hK
                clear hK
                have kc0 : w'.cell? ⟨w.heap.size, 0, none⟩ = some (.int .i64 a) := hX.cell (by first | (simp; done) | (simp; omega)) (by first | assumption | (go_simp; done) | (simp; done))
                have kc1 : w'.cell? ⟨w.heap.size, 1, none⟩ = some (.int .i64 b) := hX.cell (by first | (simp; done) | (simp; omega)) (by first | assumption | (go_simp; done) | (simp; done))
                have kc2 : w'.cell? ⟨w.heap.size + 1, 0, none⟩ = some (.int .i64 0) := hX.cell (by first | (simp; done) | (simp; omega)) (by first | assumption | (go_simp; done) | (simp; done))
                have kc3 : w'.cell? ⟨w.heap.size + 1, 1, none⟩ = some (.int .i64 d) := hX.cell (by first | (simp; done) | (simp; omega)) (by first | assumption | (go_simp; done) | (simp; done))
                have kc4 : w'.cell? ⟨w1.heap.size, 0, none⟩ = some (.int .i64 0) := hX.cell (by first | (simp; done) | (simp; omega)) (by first | assumption | (go_simp; done) | (simp; done))
                have kc5 : w'.cell? ⟨w1.heap.size, 1, none⟩ = some (.int .i64 0) := hX.cell (by first | (simp; done) | (simp; omega)) (by first | assumption | (go_simp; done) | (simp; done))
                have kc6 : w'.cell? ⟨w1.heap.size + 1, 0, none⟩ = some (.int .i64 0) := hX.cell (by first | (simp; done) | (simp; omega)) (by first | assumption | (go_simp; done) | (simp; done))
                have kc7 : w'.cell? ⟨w1.heap.size + 1, 1, none⟩ = some (.int .i64 0) := hX.cell (by first | (simp; done) | (simp; omega)) (by first | assumption | (go_simp; done) | (simp; done))
                have kc8 : w'.cell? ⟨w4.heap.size, 0, none⟩ = some (.int .i64 Q1) := hX.cell (by first | (simp; done) | (simp; omega)) (by first | assumption | (go_simp; done) | (simp; done))
                have kc9 : w'.cell? ⟨w4.heap.size, 1, none⟩ = some (.int .i64 Q2) := hX.cell (by first | (simp; done) | (simp; omega)) (by first | assumption | (go_simp; done) | (simp; done))
                clear hdep
                refine StepG.mk rfl ?_; rw [ha0]; simp only [putL, Act.put, List.setIfInBounds_toArray, List.set_cons_zero, List.set_cons_succ]
                go_wp2_with fail
                refine HK.out _ _ ?_
                refine ⟨v50, (.agg #[.int .i64 Q1, .int .i64 Q2]), v52, v53, v54, v9, (by rw [ha0]; simp only [putL, Act.put, List.setIfInBounds_toArray, List.set_cons_zero, List.set_cons_succ]), ?_, ?_, ?_, ?_, trivial⟩
                · obtain ⟨h50, h51, h52, h53, h54, _⟩ := hR.out
                  exact Lib.hid ⟨fun h => h50 (by simpa using h), fun _ => rfl, fun h => h52 (by simpa using h), fun h => h53 (by simpa using h), fun h => h54 (by simpa using h), trivial⟩
                · exact hX
                · intro h; obtain ⟨g, c0, c1, e, hg, hblk, hst⟩ := hA9 (by simpa using h); exact ⟨g, c0, c1, e, hg, hblk, fun h => hst (by simpa using h)⟩
                · exact fun h => (by have h1 := hN9 (by simpa using h); simp [h1])
              case x4hs2 =>
                intro s a' w' hsk hdep hI K hK
                try dsimp only at hI hK
                obtain ⟨v50, v51, v52, v53, v54, v9, hact, hR, hX, hA9, hN9, _⟩ := hI
                subst hact
                have HK := Lib.hid hK
                clear hK
                have kc0 : w'.cell? ⟨w.heap.size, 0, none⟩ = some (.int .i64 a) := hX.cell (by first | (simp; done) | (simp; omega)) (by first | assumption | (go_simp; done) | (simp; done))
                have kc1 : w'.cell? ⟨w.heap.size, 1, none⟩ = some (.int .i64 b) := hX.cell (by first | (simp; done) | (simp; omega)) (by first | assumption | (go_simp; done) | (simp; done))
                have kc2 : w'.cell? ⟨w.heap.size + 1, 0, none⟩ = some (.int .i64 0) := hX.cell (by first | (simp; done) | (simp; omega)) (by first | assumption | (go_simp; done) | (simp; done))
                have kc3 : w'.cell? ⟨w.heap.size + 1, 1, none⟩ = some (.int .i64 d) := hX.cell (by first | (simp; done) | (simp; omega)) (by first | assumption | (go_simp; done) | (simp; done))
                have kc4 : w'.cell? ⟨w1.heap.size, 0, none⟩ = some (.int .i64 0) := hX.cell (by first | (simp; done) | (simp; omega)) (by first | assumption | (go_simp; done) | (simp; done))
                have kc5 : w'.cell? ⟨w1.heap.size, 1, none⟩ = some (.int .i64 0) := hX.cell (by first | (simp; done) | (simp; omega)) (by first | assumption | (go_simp; done) | (simp; done))
                have kc6 : w'.cell? ⟨w1.heap.size + 1, 0, none⟩ = some (.int .i64 0) := hX.cell (by first | (simp; done) | (simp; omega)) (by first | assumption | (go_simp; done) | (simp; done))
                have kc7 : w'.cell? ⟨w1.heap.size + 1, 1, none⟩ = some (.int .i64 0) := hX.cell (by first | (simp; done) | (simp; omega)) (by first | assumption | (go_simp; done) | (simp; done))
                have kc8 : w'.cell? ⟨w4.heap.size, 0, none⟩ = some (.int .i64 Q1) := hX.cell (by first | (simp; done) | (simp; omega)) (by first | assumption | (go_simp; done) | (simp; done))
                have kc9 : w'.cell? ⟨w4.heap.size, 1, none⟩ = some (.int .i64 Q2) := hX.cell (by first | (simp; done) | (simp; omega)) (by first | assumption | (go_simp; done) | (simp; done))
                clear hdep
                refine StepG.mk rfl ?_; rw [ha0]; simp only [putL, Act.put, List.setIfInBounds_toArray, List.set_cons_zero, List.set_cons_succ]
                go_wp2_with fail
                refine HK.out _ _ ?_
                refine ⟨v50, v51, (.agg #[.int .i64 0, .int .i64 d]), v53, v54, v9, (by rw [ha0]; simp only [putL, Act.put, List.setIfInBounds_toArray, List.set_cons_zero, List.set_cons_succ]), ?_, ?_, ?_, ?_, trivial⟩
                · obtain ⟨h50, h51, h52, h53, h54, _⟩ := hR.out
                  exact Lib.hid ⟨fun h => h50 (by simpa using h), fun h => h51 (by simpa using h), fun _ => rfl, fun h => h53 (by simpa using h), fun h => h54 (by simpa using h), trivial⟩
                · exact hX
                · intro h; obtain ⟨g, c0, c1, e, hg, hblk, hst⟩ := hA9 (by simpa using h); exact ⟨g, c0, c1, e, hg, hblk, fun h => hst (by simpa using h)⟩
                · exact fun h => (by have h1 := hN9 (by simpa using h); simp [h1])
              case x4hs3 =>
                intro s a' w' hsk hdep hI K hK
                try dsimp only at hI hK
                obtain ⟨v50, v51, v52, v53, v54, v9, hact, hR, hX, hA9, hN9, _⟩ := hI
                subst hact
                have HK := Lib.hid hK
                clear hK
                have e51 : v51 = .agg #[.int .i64 Q1, .int .i64 Q2] := by obtain ⟨h50, h51, h52, h53, h54, _⟩ := hR.out; exact h51 (hdep ⟨1, .data⟩ (by simp) rfl)
                subst e51
                have e52 : v52 = .agg #[.int .i64 0, .int .i64 d] := by obtain ⟨h50, h51, h52, h53, h54, _⟩ := hR.out; exact h52 (hdep ⟨2, .data⟩ (by simp) rfl)
                subst e52
                have kc0 : w'.cell? ⟨w.heap.size, 0, none⟩ = some (.int .i64 a) := hX.cell (by first | (simp; done) | (simp; omega)) (by first | assumption | (go_simp; done) | (simp; done))
                have kc1 : w'.cell? ⟨w.heap.size, 1, none⟩ = some (.int .i64 b) := hX.cell (by first | (simp; done) | (simp; omega)) (by first | assumption | (go_simp; done) | (simp; done))
                have kc2 : w'.cell? ⟨w.heap.size + 1, 0, none⟩ = some (.int .i64 0) := hX.cell (by first | (simp; done) | (simp; omega)) (by first | assumption | (go_simp; done) | (simp; done))
                have kc3 : w'.cell? ⟨w.heap.size + 1, 1, none⟩ = some (.int .i64 d) := hX.cell (by first | (simp; done) | (simp; omega)) (by first | assumption | (go_simp; done) | (simp; done))
                have kc4 : w'.cell? ⟨w1.heap.size, 0, none⟩ = some (.int .i64 0) := hX.cell (by first | (simp; done) | (simp; omega)) (by first | assumption | (go_simp; done) | (simp; done))
                have kc5 : w'.cell? ⟨w1.heap.size, 1, none⟩ = some (.int .i64 0) := hX.cell (by first | (simp; done) | (simp; omega)) (by first | assumption | (go_simp; done) | (simp; done))
                have kc6 : w'.cell? ⟨w1.heap.size + 1, 0, none⟩ = some (.int .i64 0) := hX.cell (by first | (simp; done) | (simp; omega)) (by first | assumption | (go_simp; done) | (simp; done))
                have kc7 : w'.cell? ⟨w1.heap.size + 1, 1, none⟩ = some (.int .i64 0) := hX.cell (by first | (simp; done) | (simp; omega)) (by first | assumption | (go_simp; done) | (simp; done))
                have kc8 : w'.cell? ⟨w4.heap.size, 0, none⟩ = some (.int .i64 Q1) := hX.cell (by first | (simp; done) | (simp; omega)) (by first | assumption | (go_simp; done) | (simp; done))
                have kc9 : w'.cell? ⟨w4.heap.size, 1, none⟩ = some (.int .i64 Q2) := hX.cell (by first | (simp; done) | (simp; omega)) (by first | assumption | (go_simp; done) | (simp; done))
                clear hdep
                refine StepG.mk rfl ?_; rw [ha0]; simp only [putL, Act.put, List.setIfInBounds_toArray, List.set_cons_zero, List.set_cons_succ]
                go_wp2_with fail
                refine ((HT.out _)).mono ?_
                rintro e wn ⟨rfl, hb⟩
                go_wp2_with fail
                refine HK.out _ _ ?_
                refine ⟨v50, (.agg #[.int .i64 Q1, .int .i64 Q2]), (.agg #[.int .i64 0, .int .i64 d]), (.agg #[.int .i64 (m1 + m2), .int .i64 (m3 + m4 + m2)]), v54, v9, (by rw [ha0]; simp only [putL, Act.put, List.setIfInBounds_toArray, List.set_cons_zero, List.set_cons_succ]), ?_, ?_, ?_, ?_, trivial⟩
                · obtain ⟨h50, h51, h52, h53, h54, _⟩ := hR.out
                  exact Lib.hid ⟨fun h => h50 (by simpa using h), fun _ => rfl, fun _ => rfl, fun _ => rfl, fun h => h54 (by simpa using h), trivial⟩
                · exact hX.call hb
                · intro h; obtain ⟨g, c0, c1, e, hg, hblk, hst⟩ := hA9 (by simpa using h); exact ⟨g, c0, c1, e, hg, (hb.block g (blk_lt hblk)).trans hblk, fun h => hst (by simpa using h)⟩
                · exact fun h => (by have h1 := hN9 (by simpa using h); simp [h1])
              case x4hs4 =>
                intro s a' w' hsk hdep hI K hK
                try dsimp only at hI hK
                obtain ⟨v50, v51, v52, v53, v54, v9, hact, hR, hX, hA9, hN9, _⟩ := hI
                subst hact
                have HK := Lib.hid hK
                clear hK
                have e50 : v50 = .agg #[.int .i64 a, .int .i64 b] := by obtain ⟨h50, h51, h52, h53, h54, _⟩ := hR.out; exact h50 (hdep ⟨0, .data⟩ (by simp) rfl)
                subst e50
                have e53 : v53 = .agg #[.int .i64 (m1 + m2), .int .i64 (m3 + m4 + m2)] := by obtain ⟨h50, h51, h52, h53, h54, _⟩ := hR.out; exact h53 (hdep ⟨3, .data⟩ (by simp) rfl)
                subst e53
                have kc0 : w'.cell? ⟨w.heap.size, 0, none⟩ = some (.int .i64 a) := hX.cell (by first | (simp; done) | (simp; omega)) (by first | assumption | (go_simp; done) | (simp; done))
                have kc1 : w'.cell? ⟨w.heap.size, 1, none⟩ = some (.int .i64 b) := hX.cell (by first | (simp; done) | (simp; omega)) (by first | assumption | (go_simp; done) | (simp; done))
                have kc2 : w'.cell? ⟨w.heap.size + 1, 0, none⟩ = some (.int .i64 0) := hX.cell (by first | (simp; done) | (simp; omega)) (by first | assumption | (go_simp; done) | (simp; done))
                have kc3 : w'.cell? ⟨w.heap.size + 1, 1, none⟩ = some (.int .i64 d) := hX.cell (by first | (simp; done) | (simp; omega)) (by first | assumption | (go_simp; done) | (simp; done))
                have kc4 : w'.cell? ⟨w1.heap.size, 0, none⟩ = some (.int .i64 0) := hX.cell (by first | (simp; done) | (simp; omega)) (by first | assumption | (go_simp; done) | (simp; done))
                have kc5 : w'.cell? ⟨w1.heap.size, 1, none⟩ = some (.int .i64 0) := hX.cell (by first | (simp; done) | (simp; omega)) (by first | assumption | (go_simp; done) | (simp; done))
                have kc6 : w'.cell? ⟨w1.heap.size + 1, 0, none⟩ = some (.int .i64 0) := hX.cell (by first | (simp; done) | (simp; omega)) (by first | assumption | (go_simp; done) | (simp; done))
                have kc7 : w'.cell? ⟨w1.heap.size + 1, 1, none⟩ = some (.int .i64 0) := hX.cell (by first | (simp; done) | (simp; omega)) (by first | assumption | (go_simp; done) | (simp; done))
                have kc8 : w'.cell? ⟨w4.heap.size, 0, none⟩ = some (.int .i64 Q1) := hX.cell (by first | (simp; done) | (simp; omega)) (by first | assumption | (go_simp; done) | (simp; done))
                have kc9 : w'.cell? ⟨w4.heap.size, 1, none⟩ = some (.int .i64 Q2) := hX.cell (by first | (simp; done) | (simp; omega)) (by first | assumption | (go_simp; done) | (simp; done))
                clear hdep
                refine StepG.mk rfl ?_; rw [ha0]; simp only [putL, Act.put, List.setIfInBounds_toArray, List.set_cons_zero, List.set_cons_succ]
                go_wp2_with fail
                refine ((HM.out _)).mono ?_
                rintro e wn ⟨rfl, hb⟩
                go_wp2_with fail
                refine HK.out _ _ ?_
                refine ⟨(.agg #[.int .i64 a, .int .i64 b]), v51, v52, (.agg #[.int .i64 (m1 + m2), .int .i64 (m3 + m4 + m2)]), (.agg #[.int .i64 R1, .int .i64 R2]), v9, (by rw [ha0]; simp only [putL, Act.put, List.setIfInBounds_toArray, List.set_cons_zero, List.set_cons_succ]), ?_, ?_, ?_, ?_, trivial⟩
                · obtain ⟨h50, h51, h52, h53, h54, _⟩ := hR.out
                  exact Lib.hid ⟨fun _ => rfl, fun h => h51 (by simpa using h), fun h => h52 (by simpa using h), fun _ => rfl, fun _ => rfl, trivial⟩
                · exact hX.call hb
                · intro h; obtain ⟨g, c0, c1, e, hg, hblk, hst⟩ := hA9 (by simpa using h); exact ⟨g, c0, c1, e, hg, (hb.block g (blk_lt hblk)).trans hblk, fun h => hst (by simpa using h)⟩
                · exact fun h => (by have h1 := hN9 (by simpa using h); simp [h1])
              case x4hs5 =>
                intro s a' w' hsk hdep hI K hK
                try dsimp only at hI hK
                obtain ⟨v50, v51, v52, v53, v54, v9, hact, hR, hX, hA9, hN9, _⟩ := hI
                subst hact
                have HK := Lib.hid hK
                clear hK
                have kc0 : w'.cell? ⟨w.heap.size, 0, none⟩ = some (.int .i64 a) := hX.cell (by first | (simp; done) | (simp; omega)) (by first | assumption | (go_simp; done) | (simp; done))
                have kc1 : w'.cell? ⟨w.heap.size, 1, none⟩ = some (.int .i64 b) := hX.cell (by first | (simp; done) | (simp; omega)) (by first | assumption | (go_simp; done) | (simp; done))
                have kc2 : w'.cell? ⟨w.heap.size + 1, 0, none⟩ = some (.int .i64 0) := hX.cell (by first | (simp; done) | (simp; omega)) (by first | assumption | (go_simp; done) | (simp; done))
                have kc3 : w'.cell? ⟨w.heap.size + 1, 1, none⟩ = some (.int .i64 d) := hX.cell (by first | (simp; done) | (simp; omega)) (by first | assumption | (go_simp; done) | (simp; done))
                have kc4 : w'.cell? ⟨w1.heap.size, 0, none⟩ = some (.int .i64 0) := hX.cell (by first | (simp; done) | (simp; omega)) (by first | assumption | (go_simp; done) | (simp; done))
                have kc5 : w'.cell? ⟨w1.heap.size, 1, none⟩ = some (.int .i64 0) := hX.cell (by first | (simp; done) | (simp; omega)) (by first | assumption | (go_simp; done) | (simp; done))
                have kc6 : w'.cell? ⟨w1.heap.size + 1, 0, none⟩ = some (.int .i64 0) := hX.cell (by first | (simp; done) | (simp; omega)) (by first | assumption | (go_simp; done) | (simp; done))
                have kc7 : w'.cell? ⟨w1.heap.size + 1, 1, none⟩ = some (.int .i64 0) := hX.cell (by first | (simp; done) | (simp; omega)) (by first | assumption | (go_simp; done) | (simp; done))
                have kc8 : w'.cell? ⟨w4.heap.size, 0, none⟩ = some (.int .i64 Q1) := hX.cell (by first | (simp; done) | (simp; omega)) (by first | assumption | (go_simp; done) | (simp; done))
                have kc9 : w'.cell? ⟨w4.heap.size, 1, none⟩ = some (.int .i64 Q2) := hX.cell (by first | (simp; done) | (simp; omega)) (by first | assumption | (go_simp; done) | (simp; done))
                clear hdep
                refine StepG.mk rfl ?_; rw [ha0]; simp only [putL, Act.put, List.setIfInBounds_toArray, List.set_cons_zero, List.set_cons_succ]
                go_wp2_with fail
                refine HK.out _ _ ?_
                refine ⟨v50, v51, v52, v53, v54, (.pointer (some ⟨w'.heap.size, 0, none⟩)), (by rw [ha0]; simp only [putL, Act.put, List.setIfInBounds_toArray, List.set_cons_zero, List.set_cons_succ]), ?_, ?_, ?_, ?_, trivial⟩
                · obtain ⟨h50, h51, h52, h53, h54, _⟩ := hR.out
                  exact Lib.hid ⟨fun h => h50 (by simpa using h), fun h => h51 (by simpa using h), fun h => h52 (by simpa using h), fun h => h53 (by simpa using h), fun h => h54 (by simpa using h), trivial⟩
                · exact hX.alloc _
                · exact fun _ => ⟨w'.heap.size, .int .i64 0, .int .i64 0, rfl, hX.size, blk_new w' _, fun h => (by have h1 := hN9 (by simpa using h); rw [h1] at hsk; cases hsk)⟩
                · exact fun _ => rfl
              case x4hs6 =>
                intro s a' w' hsk hdep hI K hK
                try dsimp only at hI hK
                obtain ⟨v50, v51, v52, v53, v54, v9, hact, hR, hX, hA9, hN9, _⟩ := hI
                subst hact
                have HK := Lib.hid hK
                clear hK
                have e54 : v54 = .agg #[.int .i64 R1, .int .i64 R2] := by obtain ⟨h50, h51, h52, h53, h54, _⟩ := hR.out; exact h54 (hdep ⟨4, .data⟩ (by simp) rfl)
                subst e54
                obtain ⟨g, c0, c1, ev, hg, hblk, hst⟩ := hA9 (hdep ⟨5, .data⟩ (by simp) rfl)
                subst ev
                have kc0 : w'.cell? ⟨w.heap.size, 0, none⟩ = some (.int .i64 a) := hX.cell (by first | (simp; done) | (simp; omega)) (by first | assumption | (go_simp; done) | (simp; done))
                have kc1 : w'.cell? ⟨w.heap.size, 1, none⟩ = some (.int .i64 b) := hX.cell (by first | (simp; done) | (simp; omega)) (by first | assumption | (go_simp; done) | (simp; done))
                have kc2 : w'.cell? ⟨w.heap.size + 1, 0, none⟩ = some (.int .i64 0) := hX.cell (by first | (simp; done) | (simp; omega)) (by first | assumption | (go_simp; done) | (simp; done))
                have kc3 : w'.cell? ⟨w.heap.size + 1, 1, none⟩ = some (.int .i64 d) := hX.cell (by first | (simp; done) | (simp; omega)) (by first | assumption | (go_simp; done) | (simp; done))
                have kc4 : w'.cell? ⟨w1.heap.size, 0, none⟩ = some (.int .i64 0) := hX.cell (by first | (simp; done) | (simp; omega)) (by first | assumption | (go_simp; done) | (simp; done))
                have kc5 : w'.cell? ⟨w1.heap.size, 1, none⟩ = some (.int .i64 0) := hX.cell (by first | (simp; done) | (simp; omega)) (by first | assumption | (go_simp; done) | (simp; done))
                have kc6 : w'.cell? ⟨w1.heap.size + 1, 0, none⟩ = some (.int .i64 0) := hX.cell (by first | (simp; done) | (simp; omega)) (by first | assumption | (go_simp; done) | (simp; done))
                have kc7 : w'.cell? ⟨w1.heap.size + 1, 1, none⟩ = some (.int .i64 0) := hX.cell (by first | (simp; done) | (simp; omega)) (by first | assumption | (go_simp; done) | (simp; done))
                have kc8 : w'.cell? ⟨w4.heap.size, 0, none⟩ = some (.int .i64 Q1) := hX.cell (by first | (simp; done) | (simp; omega)) (by first | assumption | (go_simp; done) | (simp; done))
                have kc9 : w'.cell? ⟨w4.heap.size, 1, none⟩ = some (.int .i64 Q2) := hX.cell (by first | (simp; done) | (simp; omega)) (by first | assumption | (go_simp; done) | (simp; done))
                have kb0 : w'.cell? ⟨g, 0, none⟩ = some c0 := cell_of_row w' g 0 _ _ _ hblk
                have kb1 : w'.cell? ⟨g, 1, none⟩ = some c1 := cell_of_row w' g 1 _ _ _ hblk
                have kf : ∀ o, w'.frozen? ⟨g, o, none⟩ = false := fun o => frozen_of_row w' g o _ _ hblk
                have hBlk := Lib.hid hblk
                clear hblk
                have hdepA : s 5 = true := hdep ⟨5, .data⟩ (by simp) rfl
                clear hdep
                refine StepG.mk rfl ?_; rw [ha0]; simp only [putL, Act.put, List.setIfInBounds_toArray, List.set_cons_zero, List.set_cons_succ]
                go_wp2_with fail
                refine HK.out _ _ ?_
                refine ⟨v50, v51, v52, v53, (.agg #[.int .i64 R1, .int .i64 R2]), (.pointer (some ⟨g, 0, none⟩)), (by rw [ha0]; simp only [putL, Act.put, List.setIfInBounds_toArray, List.set_cons_zero, List.set_cons_succ]), ?_, ?_, ?_, ?_, trivial⟩
                · obtain ⟨h50, h51, h52, h53, h54, _⟩ := hR.out
                  exact Lib.hid ⟨fun h => h50 (by simpa using h), fun h => h51 (by simpa using h), fun h => h52 (by simpa using h), fun h => h53 (by simpa using h), fun _ => rfl, trivial⟩
                · exact ((hX.setNew (p := ⟨g, 0, none⟩) hg _).setNew (p := ⟨g, 1, none⟩) hg _)
                · exact fun _ => ⟨g, _, _, rfl, hg, blk_set2 hBlk.out, fun _ => ⟨rfl, rfl⟩⟩
                · exact fun _ => (by simp [hdepA])
              intro s a' w6 hall hI
              try dsimp only at hI
              obtain ⟨v50, v51, v52, v53, v54, v9, hact, hR, hXR, hA9, hN9, _⟩ := hI
              subst hact
              obtain ⟨h50, h51, h52, h53, h54, _⟩ := hR.out
              clear hR
              have e50 := h50 (hall 0 (by decide))
              subst e50
              clear h50
              have e51 := h51 (hall 1 (by decide))
              subst e51
              clear h51
              have e52 := h52 (hall 2 (by decide))
              subst e52
              clear h52
              have e53 := h53 (hall 3 (by decide))
              subst e53
              clear h53
              have e54 := h54 (hall 4 (by decide))
              subst e54
              clear h54
              obtain ⟨g9, c0, c1, ev, hg9, hblk9, hst⟩ := hA9 (hall 5 (by decide))
              subst ev
              clear hA9 hN9
              obtain ⟨es0, es1⟩ := hst (hall 6 (by decide))
              subst es0
              subst es1
              clear hst
              clear hall
              rw [ha0]; simp only [putL, Act.put, List.setIfInBounds_toArray, List.set_cons_zero, List.set_cons_succ]
              clear ha0
              have B6 : Below w.heap.size w w6 := hXR.below (by first | assumption | exact (by repeat (first | exact Below.refl _ _ | exact Nat.le_refl _ | refine Below.alloc ?_ ?_ _ | refine Below.setCell ?_ ?_ _ | refine Below.drew ?_ | refine bl_drewN ?_ _ | (assumption) | refine bl_call ?_ (by assumption) ?_ | omega | (simp <;> omega)))) (by first | omega | (simp <;> omega)) (by simp <;> omega)
              have cew_heap_size6_0 : w6.cell? ⟨w.heap.size, 0, none⟩ = some (.int .i64 a) := hXR.cell (by first | (simp; done) | (simp; omega)) (by first | assumption | (go_simp; done) | (simp; done))
              have cew_heap_size6_1 : w6.cell? ⟨w.heap.size, 1, none⟩ = some (.int .i64 b) := hXR.cell (by first | (simp; done) | (simp; omega)) (by first | assumption | (go_simp; done) | (simp; done))
              have zew_heap_size6 : w.heap.size < w6.heap.size := block_lt_of_cell cew_heap_size6_0
              have cew_heap_size_16_0 : w6.cell? ⟨w.heap.size + 1, 0, none⟩ = some (.int .i64 0) := hXR.cell (by first | (simp; done) | (simp; omega)) (by first | assumption | (go_simp; done) | (simp; done))
              have cew_heap_size_16_1 : w6.cell? ⟨w.heap.size + 1, 1, none⟩ = some (.int .i64 d) := hXR.cell (by first | (simp; done) | (simp; omega)) (by first | assumption | (go_simp; done) | (simp; done))
              have zew_heap_size_16 : w.heap.size + 1 < w6.heap.size := block_lt_of_cell cew_heap_size_16_0
              have cew1_heap_size6_0 : w6.cell? ⟨w1.heap.size, 0, none⟩ = some (.int .i64 0) := hXR.cell (by first | (simp; done) | (simp; omega)) (by first | assumption | (go_simp; done) | (simp; done))
              have cew1_heap_size6_1 : w6.cell? ⟨w1.heap.size, 1, none⟩ = some (.int .i64 0) := hXR.cell (by first | (simp; done) | (simp; omega)) (by first | assumption | (go_simp; done) | (simp; done))
              have zew1_heap_size6 : w1.heap.size < w6.heap.size := block_lt_of_cell cew1_heap_size6_0
              have cew1_heap_size_16_0 : w6.cell? ⟨w1.heap.size + 1, 0, none⟩ = some (.int .i64 0) := hXR.cell (by first | (simp; done) | (simp; omega)) (by first | assumption | (go_simp; done) | (simp; done))
              have cew1_heap_size_16_1 : w6.cell? ⟨w1.heap.size + 1, 1, none⟩ = some (.int .i64 0) := hXR.cell (by first | (simp; done) | (simp; omega)) (by first | assumption | (go_simp; done) | (simp; done))
              have zew1_heap_size_16 : w1.heap.size + 1 < w6.heap.size := block_lt_of_cell cew1_heap_size_16_0
              have cew4_heap_size6_0 : w6.cell? ⟨w4.heap.size, 0, none⟩ = some (.int .i64 Q1) := hXR.cell (by first | (simp; done) | (simp; omega)) (by first | assumption | (go_simp; done) | (simp; done))
              have cew4_heap_size6_1 : w6.cell? ⟨w4.heap.size, 1, none⟩ = some (.int .i64 Q2) := hXR.cell (by first | (simp; done) | (simp; omega)) (by first | assumption | (go_simp; done) | (simp; done))
              have zew4_heap_size6 : w4.heap.size < w6.heap.size := block_lt_of_cell cew4_heap_size6_0
              have ceg96_0 := row2_0 hblk9
              have ceg96_1 := row2_1 hblk9
              have zeg96 := blk_lt hblk9
              have hsz_6 := B6.size
              clear hXR
              go_wp2_with fail
              refine (refNumber _ _ _).mono ?_
              rintro e w7 ⟨rfl, hb7⟩
              have z7_0 : w.heap.size < w7.heap.size := by have := hb7.size; (try simp at this); omega
              have z7_1 : w.heap.size + 1 < w7.heap.size := by have := hb7.size; (try simp at this); omega
              have cew_heap_size7_0 : w7.cell? ⟨w.heap.size, 0, none⟩ = some (.int .i64 a) := keep_cell hb7 (by first | assumption | (go_simp; done) | (simp; done) | simp [*])
              have zew_heap_size7 : w.heap.size < w7.heap.size := block_lt_of_cell cew_heap_size7_0
              have cew_heap_size7_1 : w7.cell? ⟨w.heap.size, 1, none⟩ = some (.int .i64 b) := keep_cell hb7 (by first | assumption | (go_simp; done) | (simp; done) | simp [*])
              have cew_heap_size_17_0 : w7.cell? ⟨w.heap.size + 1, 0, none⟩ = some (.int .i64 0) := keep_cell hb7 (by first | assumption | (go_simp; done) | (simp; done) | simp [*])
              have zew_heap_size_17 : w.heap.size + 1 < w7.heap.size := block_lt_of_cell cew_heap_size_17_0
              have cew_heap_size_17_1 : w7.cell? ⟨w.heap.size + 1, 1, none⟩ = some (.int .i64 d) := keep_cell hb7 (by first | assumption | (go_simp; done) | (simp; done) | simp [*])
              have cew1_heap_size7_0 : w7.cell? ⟨w1.heap.size, 0, none⟩ = some (.int .i64 0) := keep_cell hb7 (by first | assumption | (go_simp; done) | (simp; done) | simp [*])
              have zew1_heap_size7 : w1.heap.size < w7.heap.size := block_lt_of_cell cew1_heap_size7_0
              have cew1_heap_size7_1 : w7.cell? ⟨w1.heap.size, 1, none⟩ = some (.int .i64 0) := keep_cell hb7 (by first | assumption | (go_simp; done) | (simp; done) | simp [*])
              have cew1_heap_size_17_0 : w7.cell? ⟨w1.heap.size + 1, 0, none⟩ = some (.int .i64 0) := keep_cell hb7 (by first | assumption | (go_simp; done) | (simp; done) | simp [*])
              have zew1_heap_size_17 : w1.heap.size + 1 < w7.heap.size := block_lt_of_cell cew1_heap_size_17_0
              have cew1_heap_size_17_1 : w7.cell? ⟨w1.heap.size + 1, 1, none⟩ = some (.int .i64 0) := keep_cell hb7 (by first | assumption | (go_simp; done) | (simp; done) | simp [*])
              have cew4_heap_size7_0 : w7.cell? ⟨w4.heap.size, 0, none⟩ = some (.int .i64 Q1) := keep_cell hb7 (by first | assumption | (go_simp; done) | (simp; done) | simp [*])
              have zew4_heap_size7 : w4.heap.size < w7.heap.size := block_lt_of_cell cew4_heap_size7_0
              have cew4_heap_size7_1 : w7.cell? ⟨w4.heap.size, 1, none⟩ = some (.int .i64 Q2) := keep_cell hb7 (by first | assumption | (go_simp; done) | (simp; done) | simp [*])
              have ceg97_0 : w7.cell? ⟨g9, 0, none⟩ = some (.int .i64 R1) := keep_cell hb7 (by first | assumption | (go_simp; done) | (simp; done) | simp [*])
              have zeg97 : g9 < w7.heap.size := block_lt_of_cell ceg97_0
              have ceg97_1 : w7.cell? ⟨g9, 1, none⟩ = some (.int .i64 R2) := keep_cell hb7 (by first | assumption | (go_simp; done) | (simp; done) | simp [*])
              have B7 : Below w.heap.size w w7 := bl_call (by repeat (first | exact Below.refl _ _ | exact Nat.le_refl _ | refine Below.alloc ?_ ?_ _ | refine Below.setCell ?_ ?_ _ | refine Below.drew ?_ | refine bl_drewN ?_ _ | (assumption) | refine bl_call ?_ (by assumption) ?_ | omega | (simp <;> omega))) hb7 (by first | assumption | (simp; done) | (simp; omega) | omega)
              clear hb7
              have hsz_7 := B7.size
              rw [K2.out]
              go_wp2_with fail
              refine (awake_any _).mono ?_
              rintro e w8 ⟨rfl, hb8⟩
              have z8_0 : w.heap.size < w8.heap.size := by have := hb8.size; (try simp at this); omega
              have z8_1 : w.heap.size + 1 < w8.heap.size := by have := hb8.size; (try simp at this); omega
              have cew_heap_size8_0 : w8.cell? ⟨w.heap.size, 0, none⟩ = some (.int .i64 a) := keep_cell hb8 (by first | assumption | (go_simp; done) | (simp; done) | simp [*])
              have zew_heap_size8 : w.heap.size < w8.heap.size := block_lt_of_cell cew_heap_size8_0
              have cew_heap_size8_1 : w8.cell? ⟨w.heap.size, 1, none⟩ = some (.int .i64 b) := keep_cell hb8 (by first | assumption | (go_simp; done) | (simp; done) | simp [*])
              have cew_heap_size_18_0 : w8.cell? ⟨w.heap.size + 1, 0, none⟩ = some (.int .i64 0) := keep_cell hb8 (by first | assumption | (go_simp; done) | (simp; done) | simp [*])
              have zew_heap_size_18 : w.heap.size + 1 < w8.heap.size := block_lt_of_cell cew_heap_size_18_0
              have cew_heap_size_18_1 : w8.cell? ⟨w.heap.size + 1, 1, none⟩ = some (.int .i64 d) := keep_cell hb8 (by first | assumption | (go_simp; done) | (simp; done) | simp [*])
              have cew1_heap_size8_0 : w8.cell? ⟨w1.heap.size, 0, none⟩ = some (.int .i64 0) := keep_cell hb8 (by first | assumption | (go_simp; done) | (simp; done) | simp [*])
              have zew1_heap_size8 : w1.heap.size < w8.heap.size := block_lt_of_cell cew1_heap_size8_0
              have cew1_heap_size8_1 : w8.cell? ⟨w1.heap.size, 1, none⟩ = some (.int .i64 0) := keep_cell hb8 (by first | assumption | (go_simp; done) | (simp; done) | simp [*])
              have cew1_heap_size_18_0 : w8.cell? ⟨w1.heap.size + 1, 0, none⟩ = some (.int .i64 0) := keep_cell hb8 (by first | assumption | (go_simp; done) | (simp; done) | simp [*])
              have zew1_heap_size_18 : w1.heap.size + 1 < w8.heap.size := block_lt_of_cell cew1_heap_size_18_0
              have cew1_heap_size_18_1 : w8.cell? ⟨w1.heap.size + 1, 1, none⟩ = some (.int .i64 0) := keep_cell hb8 (by first | assumption | (go_simp; done) | (simp; done) | simp [*])
              have cew4_heap_size8_0 : w8.cell? ⟨w4.heap.size, 0, none⟩ = some (.int .i64 Q1) := keep_cell hb8 (by first | assumption | (go_simp; done) | (simp; done) | simp [*])
              have zew4_heap_size8 : w4.heap.size < w8.heap.size := block_lt_of_cell cew4_heap_size8_0
              have cew4_heap_size8_1 : w8.cell? ⟨w4.heap.size, 1, none⟩ = some (.int .i64 Q2) := keep_cell hb8 (by first | assumption | (go_simp; done) | (simp; done) | simp [*])
              have ceg98_0 : w8.cell? ⟨g9, 0, none⟩ = some (.int .i64 R1) := keep_cell hb8 (by first | assumption | (go_simp; done) | (simp; done) | simp [*])
              have zeg98 : g9 < w8.heap.size := block_lt_of_cell ceg98_0
              have ceg98_1 : w8.cell? ⟨g9, 1, none⟩ = some (.int .i64 R2) := keep_cell hb8 (by first | assumption | (go_simp; done) | (simp; done) | simp [*])
              have B8 : Below w.heap.size w w8 := bl_call (by repeat (first | exact Below.refl _ _ | exact Nat.le_refl _ | refine Below.alloc ?_ ?_ _ | refine Below.setCell ?_ ?_ _ | refine Below.drew ?_ | refine bl_drewN ?_ _ | (assumption) | refine bl_call ?_ (by assumption) ?_ | omega | (simp <;> omega))) hb8 (by first | assumption | (simp; done) | (simp; omega) | omega)
              clear hb8
              have hsz_8 := B8.size
              go_wp2_with fail
              go_ret
              exact ⟨rfl, (by repeat (first | exact Below.refl _ _ | exact Nat.le_refl _ | refine Below.alloc ?_ ?_ _ | refine Below.setCell ?_ ?_ _ | refine Below.drew ?_ | refine bl_drewN ?_ _ | (assumption) | refine bl_call ?_ (by assumption) ?_ | omega | (simp <;> omega)))⟩
        · have k1' : isN Q1 Q2 = false := by simpa using k1
          have HC := Lib.hid (fun wx => by have := hD wx; rw [if_neg (by rw [k1', Bool.false_and]; decide)] at this; exact this)
          have K1 := Lib.hid k1'
          clear hD k1 k1'
          rcases hy with hy | ⟨rfl, hy⟩
          ·
            go_enter Tryd.func4, Tryd.ntmps4
            go_wp2_with fail
            refine (HC.out _).mono ?_
            rintro e w1 ⟨rfl, hb1⟩
            have z1_0 : w.heap.size < w1.heap.size := by have := hb1.size; (try simp at this); omega
            have z1_1 : w.heap.size + 1 < w1.heap.size := by have := hb1.size; (try simp at this); omega
            have cew_heap_size1_0 : w1.cell? ⟨w.heap.size, 0, none⟩ = some (.int .i64 a) := keep_cell hb1 (by first | assumption | (go_simp; done) | (simp; done) | simp [*])
            have zew_heap_size1 : w.heap.size < w1.heap.size := block_lt_of_cell cew_heap_size1_0
            have cew_heap_size1_1 : w1.cell? ⟨w.heap.size, 1, none⟩ = some (.int .i64 b) := keep_cell hb1 (by first | assumption | (go_simp; done) | (simp; done) | simp [*])
            have cew_heap_size_11_0 : w1.cell? ⟨w.heap.size + 1, 0, none⟩ = some (.int .i64 c) := keep_cell hb1 (by first | assumption | (go_simp; done) | (simp; done) | simp [*])
            have zew_heap_size_11 : w.heap.size + 1 < w1.heap.size := block_lt_of_cell cew_heap_size_11_0
            have cew_heap_size_11_1 : w1.cell? ⟨w.heap.size + 1, 1, none⟩ = some (.int .i64 d) := keep_cell hb1 (by first | assumption | (go_simp; done) | (simp; done) | simp [*])
            have B1 : Below w.heap.size w w1 := bl_call (by repeat (first | exact Below.refl _ _ | exact Nat.le_refl _ | refine Below.alloc ?_ ?_ _ | refine Below.setCell ?_ ?_ _ | refine Below.drew ?_ | refine bl_drewN ?_ _ | (assumption) | refine bl_call ?_ (by assumption) ?_ | omega | (simp <;> omega))) hb1 (by first | assumption | (simp; done) | (simp; omega) | omega)
            clear hb1
            have hsz_1 := B1.size
            go_wp2_with fail
            refine (refNumber _ _ _).mono ?_
            rintro e w2 ⟨rfl, hb2⟩
            have z2_0 : w.heap.size < w2.heap.size := by have := hb2.size; (try simp at this); omega
            have z2_1 : w.heap.size + 1 < w2.heap.size := by have := hb2.size; (try simp at this); omega
            have cew_heap_size2_0 : w2.cell? ⟨w.heap.size, 0, none⟩ = some (.int .i64 a) := keep_cell hb2 (by first | assumption | (go_simp; done) | (simp; done) | simp [*])
            have zew_heap_size2 : w.heap.size < w2.heap.size := block_lt_of_cell cew_heap_size2_0
            have cew_heap_size2_1 : w2.cell? ⟨w.heap.size, 1, none⟩ = some (.int .i64 b) := keep_cell hb2 (by first | assumption | (go_simp; done) | (simp; done) | simp [*])
            have cew_heap_size_12_0 : w2.cell? ⟨w.heap.size + 1, 0, none⟩ = some (.int .i64 c) := keep_cell hb2 (by first | assumption | (go_simp; done) | (simp; done) | simp [*])
            have zew_heap_size_12 : w.heap.size + 1 < w2.heap.size := block_lt_of_cell cew_heap_size_12_0
            have cew_heap_size_12_1 : w2.cell? ⟨w.heap.size + 1, 1, none⟩ = some (.int .i64 d) := keep_cell hb2 (by first | assumption | (go_simp; done) | (simp; done) | simp [*])
            have cew1_heap_size2_0 : w2.cell? ⟨w1.heap.size, 0, none⟩ = some (.int .i64 0) := keep_cell hb2 (by first | assumption | (go_simp; done) | (simp; done) | simp [*])
            have zew1_heap_size2 : w1.heap.size < w2.heap.size := block_lt_of_cell cew1_heap_size2_0
            have cew1_heap_size2_1 : w2.cell? ⟨w1.heap.size, 1, none⟩ = some (.int .i64 0) := keep_cell hb2 (by first | assumption | (go_simp; done) | (simp; done) | simp [*])
            have cew1_heap_size_12_0 : w2.cell? ⟨w1.heap.size + 1, 0, none⟩ = some (.int .i64 0) := keep_cell hb2 (by first | assumption | (go_simp; done) | (simp; done) | simp [*])
            have zew1_heap_size_12 : w1.heap.size + 1 < w2.heap.size := block_lt_of_cell cew1_heap_size_12_0
            have cew1_heap_size_12_1 : w2.cell? ⟨w1.heap.size + 1, 1, none⟩ = some (.int .i64 0) := keep_cell hb2 (by first | assumption | (go_simp; done) | (simp; done) | simp [*])
            have B2 : Below w.heap.size w w2 := bl_call (by repeat (first | exact Below.refl _ _ | exact Nat.le_refl _ | refine Below.alloc ?_ ?_ _ | refine Below.setCell ?_ ?_ _ | refine Below.drew ?_ | refine bl_drewN ?_ _ | (assumption) | refine bl_call ?_ (by assumption) ?_ | omega | (simp <;> omega))) hb2 (by first | assumption | (simp; done) | (simp; omega) | omega)
            clear hb2
            have hsz_2 := B2.size
            rw [H1.out]
            go_wp2_with fail
            refine (refNumber _ _ _).mono ?_
            rintro e w3 ⟨rfl, hb3⟩
            have z3_0 : w.heap.size < w3.heap.size := by have := hb3.size; (try simp at this); omega
            have z3_1 : w.heap.size + 1 < w3.heap.size := by have := hb3.size; (try simp at this); omega
            have cew_heap_size3_0 : w3.cell? ⟨w.heap.size, 0, none⟩ = some (.int .i64 a) := keep_cell hb3 (by first | assumption | (go_simp; done) | (simp; done) | simp [*])
            have zew_heap_size3 : w.heap.size < w3.heap.size := block_lt_of_cell cew_heap_size3_0
            have cew_heap_size3_1 : w3.cell? ⟨w.heap.size, 1, none⟩ = some (.int .i64 b) := keep_cell hb3 (by first | assumption | (go_simp; done) | (simp; done) | simp [*])
            have cew_heap_size_13_0 : w3.cell? ⟨w.heap.size + 1, 0, none⟩ = some (.int .i64 c) := keep_cell hb3 (by first | assumption | (go_simp; done) | (simp; done) | simp [*])
            have zew_heap_size_13 : w.heap.size + 1 < w3.heap.size := block_lt_of_cell cew_heap_size_13_0
            have cew_heap_size_13_1 : w3.cell? ⟨w.heap.size + 1, 1, none⟩ = some (.int .i64 d) := keep_cell hb3 (by first | assumption | (go_simp; done) | (simp; done) | simp [*])
            have cew1_heap_size3_0 : w3.cell? ⟨w1.heap.size, 0, none⟩ = some (.int .i64 0) := keep_cell hb3 (by first | assumption | (go_simp; done) | (simp; done) | simp [*])
            have zew1_heap_size3 : w1.heap.size < w3.heap.size := block_lt_of_cell cew1_heap_size3_0
            have cew1_heap_size3_1 : w3.cell? ⟨w1.heap.size, 1, none⟩ = some (.int .i64 0) := keep_cell hb3 (by first | assumption | (go_simp; done) | (simp; done) | simp [*])
            have cew1_heap_size_13_0 : w3.cell? ⟨w1.heap.size + 1, 0, none⟩ = some (.int .i64 0) := keep_cell hb3 (by first | assumption | (go_simp; done) | (simp; done) | simp [*])
            have zew1_heap_size_13 : w1.heap.size + 1 < w3.heap.size := block_lt_of_cell cew1_heap_size_13_0
            have cew1_heap_size_13_1 : w3.cell? ⟨w1.heap.size + 1, 1, none⟩ = some (.int .i64 0) := keep_cell hb3 (by first | assumption | (go_simp; done) | (simp; done) | simp [*])
            have B3 : Below w.heap.size w w3 := bl_call (by repeat (first | exact Below.refl _ _ | exact Nat.le_refl _ | refine Below.alloc ?_ ?_ _ | refine Below.setCell ?_ ?_ _ | refine Below.drew ?_ | refine bl_drewN ?_ _ | (assumption) | refine bl_call ?_ (by assumption) ?_ | omega | (simp <;> omega))) hb3 (by first | assumption | (simp; done) | (simp; omega) | omega)
            clear hb3
            have hsz_3 := B3.size
            rw [H2.out]
            go_wp2_with fail
            refine (HQ.out _).mono ?_
            rintro e w4 ⟨rfl, hb4⟩
            have z4_0 : w.heap.size < w4.heap.size := by have := hb4.size; (try simp at this); omega
            have z4_1 : w.heap.size + 1 < w4.heap.size := by have := hb4.size; (try simp at this); omega
            have cew_heap_size4_0 : w4.cell? ⟨w.heap.size, 0, none⟩ = some (.int .i64 a) := keep_cell hb4 (by first | assumption | (go_simp; done) | (simp; done) | simp [*])
            have zew_heap_size4 : w.heap.size < w4.heap.size := block_lt_of_cell cew_heap_size4_0
            have cew_heap_size4_1 : w4.cell? ⟨w.heap.size, 1, none⟩ = some (.int .i64 b) := keep_cell hb4 (by first | assumption | (go_simp; done) | (simp; done) | simp [*])
            have cew_heap_size_14_0 : w4.cell? ⟨w.heap.size + 1, 0, none⟩ = some (.int .i64 c) := keep_cell hb4 (by first | assumption | (go_simp; done) | (simp; done) | simp [*])
            have zew_heap_size_14 : w.heap.size + 1 < w4.heap.size := block_lt_of_cell cew_heap_size_14_0
            have cew_heap_size_14_1 : w4.cell? ⟨w.heap.size + 1, 1, none⟩ = some (.int .i64 d) := keep_cell hb4 (by first | assumption | (go_simp; done) | (simp; done) | simp [*])
            have cew1_heap_size4_0 : w4.cell? ⟨w1.heap.size, 0, none⟩ = some (.int .i64 0) := keep_cell hb4 (by first | assumption | (go_simp; done) | (simp; done) | simp [*])
            have zew1_heap_size4 : w1.heap.size < w4.heap.size := block_lt_of_cell cew1_heap_size4_0
            have cew1_heap_size4_1 : w4.cell? ⟨w1.heap.size, 1, none⟩ = some (.int .i64 0) := keep_cell hb4 (by first | assumption | (go_simp; done) | (simp; done) | simp [*])
            have cew1_heap_size_14_0 : w4.cell? ⟨w1.heap.size + 1, 0, none⟩ = some (.int .i64 0) := keep_cell hb4 (by first | assumption | (go_simp; done) | (simp; done) | simp [*])
            have zew1_heap_size_14 : w1.heap.size + 1 < w4.heap.size := block_lt_of_cell cew1_heap_size_14_0
            have cew1_heap_size_14_1 : w4.cell? ⟨w1.heap.size + 1, 1, none⟩ = some (.int .i64 0) := keep_cell hb4 (by first | assumption | (go_simp; done) | (simp; done) | simp [*])
            have B4 : Below w.heap.size w w4 := bl_call (by repeat (first | exact Below.refl _ _ | exact Nat.le_refl _ | refine Below.alloc ?_ ?_ _ | refine Below.setCell ?_ ?_ _ | refine Below.drew ?_ | refine bl_drewN ?_ _ | (assumption) | refine bl_call ?_ (by assumption) ?_ | omega | (simp <;> omega))) hb4 (by first | assumption | (simp; done) | (simp; omega) | omega)
            clear hb4
            have hsz_4 := B4.size
            go_wp2_with fail
            refine (refNumber _ _ _).mono ?_
            rintro e w5 ⟨rfl, hb5⟩
            have z5_0 : w.heap.size < w5.heap.size := by have := hb5.size; (try simp at this); omega
            have z5_1 : w.heap.size + 1 < w5.heap.size := by have := hb5.size; (try simp at this); omega
            have cew_heap_size5_0 : w5.cell? ⟨w.heap.size, 0, none⟩ = some (.int .i64 a) := keep_cell hb5 (by first | assumption | (go_simp; done) | (simp; done) | simp [*])
            have zew_heap_size5 : w.heap.size < w5.heap.size := block_lt_of_cell cew_heap_size5_0
            have cew_heap_size5_1 : w5.cell? ⟨w.heap.size, 1, none⟩ = some (.int .i64 b) := keep_cell hb5 (by first | assumption | (go_simp; done) | (simp; done) | simp [*])
            have cew_heap_size_15_0 : w5.cell? ⟨w.heap.size + 1, 0, none⟩ = some (.int .i64 c) := keep_cell hb5 (by first | assumption | (go_simp; done) | (simp; done) | simp [*])
            have zew_heap_size_15 : w.heap.size + 1 < w5.heap.size := block_lt_of_cell cew_heap_size_15_0
            have cew_heap_size_15_1 : w5.cell? ⟨w.heap.size + 1, 1, none⟩ = some (.int .i64 d) := keep_cell hb5 (by first | assumption | (go_simp; done) | (simp; done) | simp [*])
            have cew1_heap_size5_0 : w5.cell? ⟨w1.heap.size, 0, none⟩ = some (.int .i64 0) := keep_cell hb5 (by first | assumption | (go_simp; done) | (simp; done) | simp [*])
            have zew1_heap_size5 : w1.heap.size < w5.heap.size := block_lt_of_cell cew1_heap_size5_0
            have cew1_heap_size5_1 : w5.cell? ⟨w1.heap.size, 1, none⟩ = some (.int .i64 0) := keep_cell hb5 (by first | assumption | (go_simp; done) | (simp; done) | simp [*])
            have cew1_heap_size_15_0 : w5.cell? ⟨w1.heap.size + 1, 0, none⟩ = some (.int .i64 0) := keep_cell hb5 (by first | assumption | (go_simp; done) | (simp; done) | simp [*])
            have zew1_heap_size_15 : w1.heap.size + 1 < w5.heap.size := block_lt_of_cell cew1_heap_size_15_0
            have cew1_heap_size_15_1 : w5.cell? ⟨w1.heap.size + 1, 1, none⟩ = some (.int .i64 0) := keep_cell hb5 (by first | assumption | (go_simp; done) | (simp; done) | simp [*])
            have cew4_heap_size5_0 : w5.cell? ⟨w4.heap.size, 0, none⟩ = some (.int .i64 Q1) := keep_cell hb5 (by first | assumption | (go_simp; done) | (simp; done) | simp [*])
            have zew4_heap_size5 : w4.heap.size < w5.heap.size := block_lt_of_cell cew4_heap_size5_0
            have cew4_heap_size5_1 : w5.cell? ⟨w4.heap.size, 1, none⟩ = some (.int .i64 Q2) := keep_cell hb5 (by first | assumption | (go_simp; done) | (simp; done) | simp [*])
            have B5 : Below w.heap.size w w5 := bl_call (by repeat (first | exact Below.refl _ _ | exact Nat.le_refl _ | refine Below.alloc ?_ ?_ _ | refine Below.setCell ?_ ?_ _ | refine Below.drew ?_ | refine bl_drewN ?_ _ | (assumption) | refine bl_call ?_ (by assumption) ?_ | omega | (simp <;> omega))) hb5 (by first | assumption | (simp; done) | (simp; omega) | omega)
            clear hb5
            have hsz_5 := B5.size
            rw [K1.out]
            go_wp2_with fail
            refine (awake_any _).mono ?_
            rintro e w6 ⟨rfl, hb6⟩
            have z6_0 : w.heap.size < w6.heap.size := by have := hb6.size; (try simp at this); omega
            have z6_1 : w.heap.size + 1 < w6.heap.size := by have := hb6.size; (try simp at this); omega
            have cew_heap_size6_0 : w6.cell? ⟨w.heap.size, 0, none⟩ = some (.int .i64 a) := keep_cell hb6 (by first | assumption | (go_simp; done) | (simp; done) | simp [*])
            have zew_heap_size6 : w.heap.size < w6.heap.size := block_lt_of_cell cew_heap_size6_0
            have cew_heap_size6_1 : w6.cell? ⟨w.heap.size, 1, none⟩ = some (.int .i64 b) := keep_cell hb6 (by first | assumption | (go_simp; done) | (simp; done) | simp [*])
            have cew_heap_size_16_0 : w6.cell? ⟨w.heap.size + 1, 0, none⟩ = some (.int .i64 c) := keep_cell hb6 (by first | assumption | (go_simp; done) | (simp; done) | simp [*])
            have zew_heap_size_16 : w.heap.size + 1 < w6.heap.size := block_lt_of_cell cew_heap_size_16_0
            have cew_heap_size_16_1 : w6.cell? ⟨w.heap.size + 1, 1, none⟩ = some (.int .i64 d) := keep_cell hb6 (by first | assumption | (go_simp; done) | (simp; done) | simp [*])
            have cew1_heap_size6_0 : w6.cell? ⟨w1.heap.size, 0, none⟩ = some (.int .i64 0) := keep_cell hb6 (by first | assumption | (go_simp; done) | (simp; done) | simp [*])
            have zew1_heap_size6 : w1.heap.size < w6.heap.size := block_lt_of_cell cew1_heap_size6_0
            have cew1_heap_size6_1 : w6.cell? ⟨w1.heap.size, 1, none⟩ = some (.int .i64 0) := keep_cell hb6 (by first | assumption | (go_simp; done) | (simp; done) | simp [*])
            have cew1_heap_size_16_0 : w6.cell? ⟨w1.heap.size + 1, 0, none⟩ = some (.int .i64 0) := keep_cell hb6 (by first | assumption | (go_simp; done) | (simp; done) | simp [*])
            have zew1_heap_size_16 : w1.heap.size + 1 < w6.heap.size := block_lt_of_cell cew1_heap_size_16_0
            have cew1_heap_size_16_1 : w6.cell? ⟨w1.heap.size + 1, 1, none⟩ = some (.int .i64 0) := keep_cell hb6 (by first | assumption | (go_simp; done) | (simp; done) | simp [*])
            have cew4_heap_size6_0 : w6.cell? ⟨w4.heap.size, 0, none⟩ = some (.int .i64 Q1) := keep_cell hb6 (by first | assumption | (go_simp; done) | (simp; done) | simp [*])
            have zew4_heap_size6 : w4.heap.size < w6.heap.size := block_lt_of_cell cew4_heap_size6_0
            have cew4_heap_size6_1 : w6.cell? ⟨w4.heap.size, 1, none⟩ = some (.int .i64 Q2) := keep_cell hb6 (by first | assumption | (go_simp; done) | (simp; done) | simp [*])
            have B6 : Below w.heap.size w w6 := bl_call (by repeat (first | exact Below.refl _ _ | exact Nat.le_refl _ | refine Below.alloc ?_ ?_ _ | refine Below.setCell ?_ ?_ _ | refine Below.drew ?_ | refine bl_drewN ?_ _ | (assumption) | refine bl_call ?_ (by assumption) ?_ | omega | (simp <;> omega))) hb6 (by first | assumption | (simp; done) | (simp; omega) | omega)
            clear hb6
            have hsz_6 := B6.size
            go_wp2_with fail
            go_ret
            exact ⟨rfl, (by repeat (first | exact Below.refl _ _ | exact Nat.le_refl _ | refine Below.alloc ?_ ?_ _ | refine Below.setCell ?_ ?_ _ | refine Below.drew ?_ | refine bl_drewN ?_ _ | (assumption) | refine bl_call ?_ (by assumption) ?_ | omega | (simp <;> omega)))⟩
          ·
            go_enter Tryd.func4, Tryd.ntmps4
            go_wp2_with fail
            refine (HC.out _).mono ?_
            rintro e w1 ⟨rfl, hb1⟩
            have z1_0 : w.heap.size < w1.heap.size := by have := hb1.size; (try simp at this); omega
            have z1_1 : w.heap.size + 1 < w1.heap.size := by have := hb1.size; (try simp at this); omega
            have cew_heap_size1_0 : w1.cell? ⟨w.heap.size, 0, none⟩ = some (.int .i64 a) := keep_cell hb1 (by first | assumption | (go_simp; done) | (simp; done) | simp [*])
            have zew_heap_size1 : w.heap.size < w1.heap.size := block_lt_of_cell cew_heap_size1_0
            have cew_heap_size1_1 : w1.cell? ⟨w.heap.size, 1, none⟩ = some (.int .i64 b) := keep_cell hb1 (by first | assumption | (go_simp; done) | (simp; done) | simp [*])
            have cew_heap_size_11_0 : w1.cell? ⟨w.heap.size + 1, 0, none⟩ = some (.int .i64 0) := keep_cell hb1 (by first | assumption | (go_simp; done) | (simp; done) | simp [*])
            have zew_heap_size_11 : w.heap.size + 1 < w1.heap.size := block_lt_of_cell cew_heap_size_11_0
            have cew_heap_size_11_1 : w1.cell? ⟨w.heap.size + 1, 1, none⟩ = some (.int .i64 d) := keep_cell hb1 (by first | assumption | (go_simp; done) | (simp; done) | simp [*])
            have B1 : Below w.heap.size w w1 := bl_call (by repeat (first | exact Below.refl _ _ | exact Nat.le_refl _ | refine Below.alloc ?_ ?_ _ | refine Below.setCell ?_ ?_ _ | refine Below.drew ?_ | refine bl_drewN ?_ _ | (assumption) | refine bl_call ?_ (by assumption) ?_ | omega | (simp <;> omega))) hb1 (by first | assumption | (simp; done) | (simp; omega) | omega)
            clear hb1
            have hsz_1 := B1.size
            go_wp2_with fail
            refine (refNumber _ _ _).mono ?_
            rintro e w2 ⟨rfl, hb2⟩
            have z2_0 : w.heap.size < w2.heap.size := by have := hb2.size; (try simp at this); omega
            have z2_1 : w.heap.size + 1 < w2.heap.size := by have := hb2.size; (try simp at this); omega
            have cew_heap_size2_0 : w2.cell? ⟨w.heap.size, 0, none⟩ = some (.int .i64 a) := keep_cell hb2 (by first | assumption | (go_simp; done) | (simp; done) | simp [*])
            have zew_heap_size2 : w.heap.size < w2.heap.size := block_lt_of_cell cew_heap_size2_0
            have cew_heap_size2_1 : w2.cell? ⟨w.heap.size, 1, none⟩ = some (.int .i64 b) := keep_cell hb2 (by first | assumption | (go_simp; done) | (simp; done) | simp [*])
            have cew_heap_size_12_0 : w2.cell? ⟨w.heap.size + 1, 0, none⟩ = some (.int .i64 0) := keep_cell hb2 (by first | assumption | (go_simp; done) | (simp; done) | simp [*])
            have zew_heap_size_12 : w.heap.size + 1 < w2.heap.size := block_lt_of_cell cew_heap_size_12_0
            have cew_heap_size_12_1 : w2.cell? ⟨w.heap.size + 1, 1, none⟩ = some (.int .i64 d) := keep_cell hb2 (by first | assumption | (go_simp; done) | (simp; done) | simp [*])
            have cew1_heap_size2_0 : w2.cell? ⟨w1.heap.size, 0, none⟩ = some (.int .i64 0) := keep_cell hb2 (by first | assumption | (go_simp; done) | (simp; done) | simp [*])
            have zew1_heap_size2 : w1.heap.size < w2.heap.size := block_lt_of_cell cew1_heap_size2_0
            have cew1_heap_size2_1 : w2.cell? ⟨w1.heap.size, 1, none⟩ = some (.int .i64 0) := keep_cell hb2 (by first | assumption | (go_simp; done) | (simp; done) | simp [*])
            have cew1_heap_size_12_0 : w2.cell? ⟨w1.heap.size + 1, 0, none⟩ = some (.int .i64 0) := keep_cell hb2 (by first | assumption | (go_simp; done) | (simp; done) | simp [*])
            have zew1_heap_size_12 : w1.heap.size + 1 < w2.heap.size := block_lt_of_cell cew1_heap_size_12_0
            have cew1_heap_size_12_1 : w2.cell? ⟨w1.heap.size + 1, 1, none⟩ = some (.int .i64 0) := keep_cell hb2 (by first | assumption | (go_simp; done) | (simp; done) | simp [*])
            have B2 : Below w.heap.size w w2 := bl_call (by repeat (first | exact Below.refl _ _ | exact Nat.le_refl _ | refine Below.alloc ?_ ?_ _ | refine Below.setCell ?_ ?_ _ | refine Below.drew ?_ | refine bl_drewN ?_ _ | (assumption) | refine bl_call ?_ (by assumption) ?_ | omega | (simp <;> omega))) hb2 (by first | assumption | (simp; done) | (simp; omega) | omega)
            clear hb2
            have hsz_2 := B2.size
            rw [H1.out]
            go_wp2_with fail
            refine (refNumber _ _ _).mono ?_
            rintro e w3 ⟨rfl, hb3⟩
            have z3_0 : w.heap.size < w3.heap.size := by have := hb3.size; (try simp at this); omega
            have z3_1 : w.heap.size + 1 < w3.heap.size := by have := hb3.size; (try simp at this); omega
            have cew_heap_size3_0 : w3.cell? ⟨w.heap.size, 0, none⟩ = some (.int .i64 a) := keep_cell hb3 (by first | assumption | (go_simp; done) | (simp; done) | simp [*])
            have zew_heap_size3 : w.heap.size < w3.heap.size := block_lt_of_cell cew_heap_size3_0
            have cew_heap_size3_1 : w3.cell? ⟨w.heap.size, 1, none⟩ = some (.int .i64 b) := keep_cell hb3 (by first | assumption | (go_simp; done) | (simp; done) | simp [*])
            have cew_heap_size_13_0 : w3.cell? ⟨w.heap.size + 1, 0, none⟩ = some (.int .i64 0) := keep_cell hb3 (by first | assumption | (go_simp; done) | (simp; done) | simp [*])
            have zew_heap_size_13 : w.heap.size + 1 < w3.heap.size := block_lt_of_cell cew_heap_size_13_0
            have cew_heap_size_13_1 : w3.cell? ⟨w.heap.size + 1, 1, none⟩ = some (.int .i64 d) := keep_cell hb3 (by first | assumption | (go_simp; done) | (simp; done) | simp [*])
            have cew1_heap_size3_0 : w3.cell? ⟨w1.heap.size, 0, none⟩ = some (.int .i64 0) := keep_cell hb3 (by first | assumption | (go_simp; done) | (simp; done) | simp [*])
            have zew1_heap_size3 : w1.heap.size < w3.heap.size := block_lt_of_cell cew1_heap_size3_0
            have cew1_heap_size3_1 : w3.cell? ⟨w1.heap.size, 1, none⟩ = some (.int .i64 0) := keep_cell hb3 (by first | assumption | (go_simp; done) | (simp; done) | simp [*])
            have cew1_heap_size_13_0 : w3.cell? ⟨w1.heap.size + 1, 0, none⟩ = some (.int .i64 0) := keep_cell hb3 (by first | assumption | (go_simp; done) | (simp; done) | simp [*])
            have zew1_heap_size_13 : w1.heap.size + 1 < w3.heap.size := block_lt_of_cell cew1_heap_size_13_0
            have cew1_heap_size_13_1 : w3.cell? ⟨w1.heap.size + 1, 1, none⟩ = some (.int .i64 0) := keep_cell hb3 (by first | assumption | (go_simp; done) | (simp; done) | simp [*])
            have B3 : Below w.heap.size w w3 := bl_call (by repeat (first | exact Below.refl _ _ | exact Nat.le_refl _ | refine Below.alloc ?_ ?_ _ | refine Below.setCell ?_ ?_ _ | refine Below.drew ?_ | refine bl_drewN ?_ _ | (assumption) | refine bl_call ?_ (by assumption) ?_ | omega | (simp <;> omega))) hb3 (by first | assumption | (simp; done) | (simp; omega) | omega)
            clear hb3
            have hsz_3 := B3.size
            rw [H2.out]
            go_wp2_with fail
            refine (HQ.out _).mono ?_
            rintro e w4 ⟨rfl, hb4⟩
            have z4_0 : w.heap.size < w4.heap.size := by have := hb4.size; (try simp at this); omega
            have z4_1 : w.heap.size + 1 < w4.heap.size := by have := hb4.size; (try simp at this); omega
            have cew_heap_size4_0 : w4.cell? ⟨w.heap.size, 0, none⟩ = some (.int .i64 a) := keep_cell hb4 (by first | assumption | (go_simp; done) | (simp; done) | simp [*])
            have zew_heap_size4 : w.heap.size < w4.heap.size := block_lt_of_cell cew_heap_size4_0
            have cew_heap_size4_1 : w4.cell? ⟨w.heap.size, 1, none⟩ = some (.int .i64 b) := keep_cell hb4 (by first | assumption | (go_simp; done) | (simp; done) | simp [*])
            have cew_heap_size_14_0 : w4.cell? ⟨w.heap.size + 1, 0, none⟩ = some (.int .i64 0) := keep_cell hb4 (by first | assumption | (go_simp; done) | (simp; done) | simp [*])
            have zew_heap_size_14 : w.heap.size + 1 < w4.heap.size := block_lt_of_cell cew_heap_size_14_0
            have cew_heap_size_14_1 : w4.cell? ⟨w.heap.size + 1, 1, none⟩ = some (.int .i64 d) := keep_cell hb4 (by first | assumption | (go_simp; done) | (simp; done) | simp [*])
            have cew1_heap_size4_0 : w4.cell? ⟨w1.heap.size, 0, none⟩ = some (.int .i64 0) := keep_cell hb4 (by first | assumption | (go_simp; done) | (simp; done) | simp [*])
            have zew1_heap_size4 : w1.heap.size < w4.heap.size := block_lt_of_cell cew1_heap_size4_0
            have cew1_heap_size4_1 : w4.cell? ⟨w1.heap.size, 1, none⟩ = some (.int .i64 0) := keep_cell hb4 (by first | assumption | (go_simp; done) | (simp; done) | simp [*])
            have cew1_heap_size_14_0 : w4.cell? ⟨w1.heap.size + 1, 0, none⟩ = some (.int .i64 0) := keep_cell hb4 (by first | assumption | (go_simp; done) | (simp; done) | simp [*])
            have zew1_heap_size_14 : w1.heap.size + 1 < w4.heap.size := block_lt_of_cell cew1_heap_size_14_0
            have cew1_heap_size_14_1 : w4.cell? ⟨w1.heap.size + 1, 1, none⟩ = some (.int .i64 0) := keep_cell hb4 (by first | assumption | (go_simp; done) | (simp; done) | simp [*])
            have B4 : Below w.heap.size w w4 := bl_call (by repeat (first | exact Below.refl _ _ | exact Nat.le_refl _ | refine Below.alloc ?_ ?_ _ | refine Below.setCell ?_ ?_ _ | refine Below.drew ?_ | refine bl_drewN ?_ _ | (assumption) | refine bl_call ?_ (by assumption) ?_ | omega | (simp <;> omega))) hb4 (by first | assumption | (simp; done) | (simp; omega) | omega)
            clear hb4
            have hsz_4 := B4.size
            go_wp2_with fail
            refine (refNumber _ _ _).mono ?_
            rintro e w5 ⟨rfl, hb5⟩
            have z5_0 : w.heap.size < w5.heap.size := by have := hb5.size; (try simp at this); omega
            have z5_1 : w.heap.size + 1 < w5.heap.size := by have := hb5.size; (try simp at this); omega
            have cew_heap_size5_0 : w5.cell? ⟨w.heap.size, 0, none⟩ = some (.int .i64 a) := keep_cell hb5 (by first | assumption | (go_simp; done) | (simp; done) | simp [*])
            have zew_heap_size5 : w.heap.size < w5.heap.size := block_lt_of_cell cew_heap_size5_0
            have cew_heap_size5_1 : w5.cell? ⟨w.heap.size, 1, none⟩ = some (.int .i64 b) := keep_cell hb5 (by first | assumption | (go_simp; done) | (simp; done) | simp [*])
            have cew_heap_size_15_0 : w5.cell? ⟨w.heap.size + 1, 0, none⟩ = some (.int .i64 0) := keep_cell hb5 (by first | assumption | (go_simp; done) | (simp; done) | simp [*])
            have zew_heap_size_15 : w.heap.size + 1 < w5.heap.size := block_lt_of_cell cew_heap_size_15_0
            have cew_heap_size_15_1 : w5.cell? ⟨w.heap.size + 1, 1, none⟩ = some (.int .i64 d) := keep_cell hb5 (by first | assumption | (go_simp; done) | (simp; done) | simp [*])
            have cew1_heap_size5_0 : w5.cell? ⟨w1.heap.size, 0, none⟩ = some (.int .i64 0) := keep_cell hb5 (by first | assumption | (go_simp; done) | (simp; done) | simp [*])
            have zew1_heap_size5 : w1.heap.size < w5.heap.size := block_lt_of_cell cew1_heap_size5_0
            have cew1_heap_size5_1 : w5.cell? ⟨w1.heap.size, 1, none⟩ = some (.int .i64 0) := keep_cell hb5 (by first | assumption | (go_simp; done) | (simp; done) | simp [*])
            have cew1_heap_size_15_0 : w5.cell? ⟨w1.heap.size + 1, 0, none⟩ = some (.int .i64 0) := keep_cell hb5 (by first | assumption | (go_simp; done) | (simp; done) | simp [*])
            have zew1_heap_size_15 : w1.heap.size + 1 < w5.heap.size := block_lt_of_cell cew1_heap_size_15_0
            have cew1_heap_size_15_1 : w5.cell? ⟨w1.heap.size + 1, 1, none⟩ = some (.int .i64 0) := keep_cell hb5 (by first | assumption | (go_simp; done) | (simp; done) | simp [*])
            have cew4_heap_size5_0 : w5.cell? ⟨w4.heap.size, 0, none⟩ = some (.int .i64 Q1) := keep_cell hb5 (by first | assumption | (go_simp; done) | (simp; done) | simp [*])
            have zew4_heap_size5 : w4.heap.size < w5.heap.size := block_lt_of_cell cew4_heap_size5_0
            have cew4_heap_size5_1 : w5.cell? ⟨w4.heap.size, 1, none⟩ = some (.int .i64 Q2) := keep_cell hb5 (by first | assumption | (go_simp; done) | (simp; done) | simp [*])
            have B5 : Below w.heap.size w w5 := bl_call (by repeat (first | exact Below.refl _ _ | exact Nat.le_refl _ | refine Below.alloc ?_ ?_ _ | refine Below.setCell ?_ ?_ _ | refine Below.drew ?_ | refine bl_drewN ?_ _ | (assumption) | refine bl_call ?_ (by assumption) ?_ | omega | (simp <;> omega))) hb5 (by first | assumption | (simp; done) | (simp; omega) | omega)
            clear hb5
            have hsz_5 := B5.size
            rw [K1.out]
            go_wp2_with fail
            refine (awake_any _).mono ?_
            rintro e w6 ⟨rfl, hb6⟩
            have z6_0 : w.heap.size < w6.heap.size := by have := hb6.size; (try simp at this); omega
            have z6_1 : w.heap.size + 1 < w6.heap.size := by have := hb6.size; (try simp at this); omega
            have cew_heap_size6_0 : w6.cell? ⟨w.heap.size, 0, none⟩ = some (.int .i64 a) := keep_cell hb6 (by first | assumption | (go_simp; done) | (simp; done) | simp [*])
            have zew_heap_size6 : w.heap.size < w6.heap.size := block_lt_of_cell cew_heap_size6_0
            have cew_heap_size6_1 : w6.cell? ⟨w.heap.size, 1, none⟩ = some (.int .i64 b) := keep_cell hb6 (by first | assumption | (go_simp; done) | (simp; done) | simp [*])
            have cew_heap_size_16_0 : w6.cell? ⟨w.heap.size + 1, 0, none⟩ = some (.int .i64 0) := keep_cell hb6 (by first | assumption | (go_simp; done) | (simp; done) | simp [*])
            have zew_heap_size_16 : w.heap.size + 1 < w6.heap.size := block_lt_of_cell cew_heap_size_16_0
            have cew_heap_size_16_1 : w6.cell? ⟨w.heap.size + 1, 1, none⟩ = some (.int .i64 d) := keep_cell hb6 (by first | assumption | (go_simp; done) | (simp; done) | simp [*])
            have cew1_heap_size6_0 : w6.cell? ⟨w1.heap.size, 0, none⟩ = some (.int .i64 0) := keep_cell hb6 (by first | assumption | (go_simp; done) | (simp; done) | simp [*])
            have zew1_heap_size6 : w1.heap.size < w6.heap.size := block_lt_of_cell cew1_heap_size6_0
            have cew1_heap_size6_1 : w6.cell? ⟨w1.heap.size, 1, none⟩ = some (.int .i64 0) := keep_cell hb6 (by first | assumption | (go_simp; done) | (simp; done) | simp [*])
            have cew1_heap_size_16_0 : w6.cell? ⟨w1.heap.size + 1, 0, none⟩ = some (.int .i64 0) := keep_cell hb6 (by first | assumption | (go_simp; done) | (simp; done) | simp [*])
            have zew1_heap_size_16 : w1.heap.size + 1 < w6.heap.size := block_lt_of_cell cew1_heap_size_16_0
            have cew1_heap_size_16_1 : w6.cell? ⟨w1.heap.size + 1, 1, none⟩ = some (.int .i64 0) := keep_cell hb6 (by first | assumption | (go_simp; done) | (simp; done) | simp [*])
            have cew4_heap_size6_0 : w6.cell? ⟨w4.heap.size, 0, none⟩ = some (.int .i64 Q1) := keep_cell hb6 (by first | assumption | (go_simp; done) | (simp; done) | simp [*])
            have zew4_heap_size6 : w4.heap.size < w6.heap.size := block_lt_of_cell cew4_heap_size6_0
            have cew4_heap_size6_1 : w6.cell? ⟨w4.heap.size, 1, none⟩ = some (.int .i64 Q2) := keep_cell hb6 (by first | assumption | (go_simp; done) | (simp; done) | simp [*])
            have B6 : Below w.heap.size w w6 := bl_call (by repeat (first | exact Below.refl _ _ | exact Nat.le_refl _ | refine Below.alloc ?_ ?_ _ | refine Below.setCell ?_ ?_ _ | refine Below.drew ?_ | refine bl_drewN ?_ _ | (assumption) | refine bl_call ?_ (by assumption) ?_ | omega | (simp <;> omega))) hb6 (by first | assumption | (simp; done) | (simp; omega) | omega)
            clear hb6
            have hsz_6 := B6.size
            go_wp2_with fail
            go_ret
            exact ⟨rfl, (by repeat (first | exact Below.refl _ _ | exact Nat.le_refl _ | refine Below.alloc ?_ ?_ _ | refine Below.setCell ?_ ?_ _ | refine Below.drew ?_ | refine bl_drewN ?_ _ | (assumption) | refine bl_call ?_ (by assumption) ?_ | omega | (simp <;> omega)))⟩
    · have h2' : isN c d = false := by simpa using h2
      have HC := Lib.hid (fun wx => Divide_no a b c d wx (.inl (by rw [h2', Bool.and_false])))
      have H1 := Lib.hid h1; clear h1
      have H2 := Lib.hid h2'; clear h2 h2'
      go_enter Tryd.func4, Tryd.ntmps4
      go_wp2_with fail
      refine (HC.out _).mono ?_
      rintro e w1 ⟨rfl, hb1⟩
      have z1_0 : w.heap.size < w1.heap.size := by have := hb1.size; (try simp at this); omega
      have z1_1 : w.heap.size + 1 < w1.heap.size := by have := hb1.size; (try simp at this); omega
      have cew_heap_size1_0 : w1.cell? ⟨w.heap.size, 0, none⟩ = some (.int .i64 a) := keep_cell hb1 (by first | assumption | (go_simp; done) | (simp; done) | simp [*])
      have zew_heap_size1 : w.heap.size < w1.heap.size := block_lt_of_cell cew_heap_size1_0
      have cew_heap_size1_1 : w1.cell? ⟨w.heap.size, 1, none⟩ = some (.int .i64 b) := keep_cell hb1 (by first | assumption | (go_simp; done) | (simp; done) | simp [*])
      have cew_heap_size_11_0 : w1.cell? ⟨w.heap.size + 1, 0, none⟩ = some (.int .i64 c) := keep_cell hb1 (by first | assumption | (go_simp; done) | (simp; done) | simp [*])
      have zew_heap_size_11 : w.heap.size + 1 < w1.heap.size := block_lt_of_cell cew_heap_size_11_0
      have cew_heap_size_11_1 : w1.cell? ⟨w.heap.size + 1, 1, none⟩ = some (.int .i64 d) := keep_cell hb1 (by first | assumption | (go_simp; done) | (simp; done) | simp [*])
      have B1 : Below w.heap.size w w1 := bl_call (by repeat (first | exact Below.refl _ _ | exact Nat.le_refl _ | refine Below.alloc ?_ ?_ _ | refine Below.setCell ?_ ?_ _ | refine Below.drew ?_ | refine bl_drewN ?_ _ | (assumption) | refine bl_call ?_ (by assumption) ?_ | omega | (simp <;> omega))) hb1 (by first | assumption | (simp; done) | (simp; omega) | omega)
      clear hb1
      have hsz_1 := B1.size
      go_wp2_with fail
      refine (refNumber _ _ _).mono ?_
      rintro e w2 ⟨rfl, hb2⟩
      have z2_0 : w.heap.size < w2.heap.size := by have := hb2.size; (try simp at this); omega
      have z2_1 : w.heap.size + 1 < w2.heap.size := by have := hb2.size; (try simp at this); omega
      have cew_heap_size2_0 : w2.cell? ⟨w.heap.size, 0, none⟩ = some (.int .i64 a) := keep_cell hb2 (by first | assumption | (go_simp; done) | (simp; done) | simp [*])
      have zew_heap_size2 : w.heap.size < w2.heap.size := block_lt_of_cell cew_heap_size2_0
      have cew_heap_size2_1 : w2.cell? ⟨w.heap.size, 1, none⟩ = some (.int .i64 b) := keep_cell hb2 (by first | assumption | (go_simp; done) | (simp; done) | simp [*])
      have cew_heap_size_12_0 : w2.cell? ⟨w.heap.size + 1, 0, none⟩ = some (.int .i64 c) := keep_cell hb2 (by first | assumption | (go_simp; done) | (simp; done) | simp [*])
      have zew_heap_size_12 : w.heap.size + 1 < w2.heap.size := block_lt_of_cell cew_heap_size_12_0
      have cew_heap_size_12_1 : w2.cell? ⟨w.heap.size + 1, 1, none⟩ = some (.int .i64 d) := keep_cell hb2 (by first | assumption | (go_simp; done) | (simp; done) | simp [*])
      have cew1_heap_size2_0 : w2.cell? ⟨w1.heap.size, 0, none⟩ = some (.int .i64 0) := keep_cell hb2 (by first | assumption | (go_simp; done) | (simp; done) | simp [*])
      have zew1_heap_size2 : w1.heap.size < w2.heap.size := block_lt_of_cell cew1_heap_size2_0
      have cew1_heap_size2_1 : w2.cell? ⟨w1.heap.size, 1, none⟩ = some (.int .i64 0) := keep_cell hb2 (by first | assumption | (go_simp; done) | (simp; done) | simp [*])
      have cew1_heap_size_12_0 : w2.cell? ⟨w1.heap.size + 1, 0, none⟩ = some (.int .i64 0) := keep_cell hb2 (by first | assumption | (go_simp; done) | (simp; done) | simp [*])
      have zew1_heap_size_12 : w1.heap.size + 1 < w2.heap.size := block_lt_of_cell cew1_heap_size_12_0
      have cew1_heap_size_12_1 : w2.cell? ⟨w1.heap.size + 1, 1, none⟩ = some (.int .i64 0) := keep_cell hb2 (by first | assumption | (go_simp; done) | (simp; done) | simp [*])
      have B2 : Below w.heap.size w w2 := bl_call (by repeat (first | exact Below.refl _ _ | exact Nat.le_refl _ | refine Below.alloc ?_ ?_ _ | refine Below.setCell ?_ ?_ _ | refine Below.drew ?_ | refine bl_drewN ?_ _ | (assumption) | refine bl_call ?_ (by assumption) ?_ | omega | (simp <;> omega))) hb2 (by first | assumption | (simp; done) | (simp; omega) | omega)
      clear hb2
      have hsz_2 := B2.size
      rw [H1.out]
      go_wp2_with fail
      refine (refNumber _ _ _).mono ?_
      rintro e w3 ⟨rfl, hb3⟩
      have z3_0 : w.heap.size < w3.heap.size := by have := hb3.size; (try simp at this); omega
      have z3_1 : w.heap.size + 1 < w3.heap.size := by have := hb3.size; (try simp at this); omega
      have cew_heap_size3_0 : w3.cell? ⟨w.heap.size, 0, none⟩ = some (.int .i64 a) := keep_cell hb3 (by first | assumption | (go_simp; done) | (simp; done) | simp [*])
      have zew_heap_size3 : w.heap.size < w3.heap.size := block_lt_of_cell cew_heap_size3_0
      have cew_heap_size3_1 : w3.cell? ⟨w.heap.size, 1, none⟩ = some (.int .i64 b) := keep_cell hb3 (by first | assumption | (go_simp; done) | (simp; done) | simp [*])
      have cew_heap_size_13_0 : w3.cell? ⟨w.heap.size + 1, 0, none⟩ = some (.int .i64 c) := keep_cell hb3 (by first | assumption | (go_simp; done) | (simp; done) | simp [*])
      have zew_heap_size_13 : w.heap.size + 1 < w3.heap.size := block_lt_of_cell cew_heap_size_13_0
      have cew_heap_size_13_1 : w3.cell? ⟨w.heap.size + 1, 1, none⟩ = some (.int .i64 d) := keep_cell hb3 (by first | assumption | (go_simp; done) | (simp; done) | simp [*])
      have cew1_heap_size3_0 : w3.cell? ⟨w1.heap.size, 0, none⟩ = some (.int .i64 0) := keep_cell hb3 (by first | assumption | (go_simp; done) | (simp; done) | simp [*])
      have zew1_heap_size3 : w1.heap.size < w3.heap.size := block_lt_of_cell cew1_heap_size3_0
      have cew1_heap_size3_1 : w3.cell? ⟨w1.heap.size, 1, none⟩ = some (.int .i64 0) := keep_cell hb3 (by first | assumption | (go_simp; done) | (simp; done) | simp [*])
      have cew1_heap_size_13_0 : w3.cell? ⟨w1.heap.size + 1, 0, none⟩ = some (.int .i64 0) := keep_cell hb3 (by first | assumption | (go_simp; done) | (simp; done) | simp [*])
      have zew1_heap_size_13 : w1.heap.size + 1 < w3.heap.size := block_lt_of_cell cew1_heap_size_13_0
      have cew1_heap_size_13_1 : w3.cell? ⟨w1.heap.size + 1, 1, none⟩ = some (.int .i64 0) := keep_cell hb3 (by first | assumption | (go_simp; done) | (simp; done) | simp [*])
      have B3 : Below w.heap.size w w3 := bl_call (by repeat (first | exact Below.refl _ _ | exact Nat.le_refl _ | refine Below.alloc ?_ ?_ _ | refine Below.setCell ?_ ?_ _ | refine Below.drew ?_ | refine bl_drewN ?_ _ | (assumption) | refine bl_call ?_ (by assumption) ?_ | omega | (simp <;> omega))) hb3 (by first | assumption | (simp; done) | (simp; omega) | omega)
      clear hb3
      have hsz_3 := B3.size
      rw [H2.out]
      go_wp2_with fail
      refine (awake_any _).mono ?_
      rintro e w4 ⟨rfl, hb4⟩
      have z4_0 : w.heap.size < w4.heap.size := by have := hb4.size; (try simp at this); omega
      have z4_1 : w.heap.size + 1 < w4.heap.size := by have := hb4.size; (try simp at this); omega
      have cew_heap_size4_0 : w4.cell? ⟨w.heap.size, 0, none⟩ = some (.int .i64 a) := keep_cell hb4 (by first | assumption | (go_simp; done) | (simp; done) | simp [*])
      have zew_heap_size4 : w.heap.size < w4.heap.size := block_lt_of_cell cew_heap_size4_0
      have cew_heap_size4_1 : w4.cell? ⟨w.heap.size, 1, none⟩ = some (.int .i64 b) := keep_cell hb4 (by first | assumption | (go_simp; done) | (simp; done) | simp [*])
      have cew_heap_size_14_0 : w4.cell? ⟨w.heap.size + 1, 0, none⟩ = some (.int .i64 c) := keep_cell hb4 (by first | assumption | (go_simp; done) | (simp; done) | simp [*])
      have zew_heap_size_14 : w.heap.size + 1 < w4.heap.size := block_lt_of_cell cew_heap_size_14_0
      have cew_heap_size_14_1 : w4.cell? ⟨w.heap.size + 1, 1, none⟩ = some (.int .i64 d) := keep_cell hb4 (by first | assumption | (go_simp; done) | (simp; done) | simp [*])
      have cew1_heap_size4_0 : w4.cell? ⟨w1.heap.size, 0, none⟩ = some (.int .i64 0) := keep_cell hb4 (by first | assumption | (go_simp; done) | (simp; done) | simp [*])
      have zew1_heap_size4 : w1.heap.size < w4.heap.size := block_lt_of_cell cew1_heap_size4_0
      have cew1_heap_size4_1 : w4.cell? ⟨w1.heap.size, 1, none⟩ = some (.int .i64 0) := keep_cell hb4 (by first | assumption | (go_simp; done) | (simp; done) | simp [*])
      have cew1_heap_size_14_0 : w4.cell? ⟨w1.heap.size + 1, 0, none⟩ = some (.int .i64 0) := keep_cell hb4 (by first | assumption | (go_simp; done) | (simp; done) | simp [*])
      have zew1_heap_size_14 : w1.heap.size + 1 < w4.heap.size := block_lt_of_cell cew1_heap_size_14_0
      have cew1_heap_size_14_1 : w4.cell? ⟨w1.heap.size + 1, 1, none⟩ = some (.int .i64 0) := keep_cell hb4 (by first | assumption | (go_simp; done) | (simp; done) | simp [*])
      have B4 : Below w.heap.size w w4 := bl_call (by repeat (first | exact Below.refl _ _ | exact Nat.le_refl _ | refine Below.alloc ?_ ?_ _ | refine Below.setCell ?_ ?_ _ | refine Below.drew ?_ | refine bl_drewN ?_ _ | (assumption) | refine bl_call ?_ (by assumption) ?_ | omega | (simp <;> omega))) hb4 (by first | assumption | (simp; done) | (simp; omega) | omega)
      clear hb4
      have hsz_4 := B4.size
      go_wp2_with fail
      go_ret
      exact ⟨rfl, (by repeat (first | exact Below.refl _ _ | exact Nat.le_refl _ | refine Below.alloc ?_ ?_ _ | refine Below.setCell ?_ ?_ _ | refine Below.drew ?_ | refine bl_drewN ?_ _ | (assumption) | refine bl_call ?_ (by assumption) ?_ | omega | (simp <;> omega)))⟩
  · have h1' : isN a b = false := by simpa using h1
    have HC := Lib.hid (fun wx => Divide_no a b c d wx (.inl (by rw [h1', Bool.false_and])))
    have H1 := Lib.hid h1'; clear h1 h1'
    go_enter Tryd.func4, Tryd.ntmps4
    go_wp2_with fail
    refine (HC.out _).mono ?_
    rintro e w1 ⟨rfl, hb1⟩
    have z1_0 : w.heap.size < w1.heap.size := by have := hb1.size; (try simp at this); omega
    have z1_1 : w.heap.size + 1 < w1.heap.size := by have := hb1.size; (try simp at this); omega
    have cew_heap_size1_0 : w1.cell? ⟨w.heap.size, 0, none⟩ = some (.int .i64 a) := keep_cell hb1 (by first | assumption | (go_simp; done) | (simp; done) | simp [*])
    have zew_heap_size1 : w.heap.size < w1.heap.size := block_lt_of_cell cew_heap_size1_0
    have cew_heap_size1_1 : w1.cell? ⟨w.heap.size, 1, none⟩ = some (.int .i64 b) := keep_cell hb1 (by first | assumption | (go_simp; done) | (simp; done) | simp [*])
    have cew_heap_size_11_0 : w1.cell? ⟨w.heap.size + 1, 0, none⟩ = some (.int .i64 c) := keep_cell hb1 (by first | assumption | (go_simp; done) | (simp; done) | simp [*])
    have zew_heap_size_11 : w.heap.size + 1 < w1.heap.size := block_lt_of_cell cew_heap_size_11_0
    have cew_heap_size_11_1 : w1.cell? ⟨w.heap.size + 1, 1, none⟩ = some (.int .i64 d) := keep_cell hb1 (by first | assumption | (go_simp; done) | (simp; done) | simp [*])
    have B1 : Below w.heap.size w w1 := bl_call (by repeat (first | exact Below.refl _ _ | exact Nat.le_refl _ | refine Below.alloc ?_ ?_ _ | refine Below.setCell ?_ ?_ _ | refine Below.drew ?_ | refine bl_drewN ?_ _ | (assumption) | refine bl_call ?_ (by assumption) ?_ | omega | (simp <;> omega))) hb1 (by first | assumption | (simp; done) | (simp; omega) | omega)
    clear hb1
    have hsz_1 := B1.size
    go_wp2_with fail
    refine (refNumber _ _ _).mono ?_
    rintro e w2 ⟨rfl, hb2⟩
    have z2_0 : w.heap.size < w2.heap.size := by have := hb2.size; (try simp at this); omega
    have z2_1 : w.heap.size + 1 < w2.heap.size := by have := hb2.size; (try simp at this); omega
    have cew_heap_size2_0 : w2.cell? ⟨w.heap.size, 0, none⟩ = some (.int .i64 a) := keep_cell hb2 (by first | assumption | (go_simp; done) | (simp; done) | simp [*])
    have zew_heap_size2 : w.heap.size < w2.heap.size := block_lt_of_cell cew_heap_size2_0
    have cew_heap_size2_1 : w2.cell? ⟨w.heap.size, 1, none⟩ = some (.int .i64 b) := keep_cell hb2 (by first | assumption | (go_simp; done) | (simp; done) | simp [*])
    have cew_heap_size_12_0 : w2.cell? ⟨w.heap.size + 1, 0, none⟩ = some (.int .i64 c) := keep_cell hb2 (by first | assumption | (go_simp; done) | (simp; done) | simp [*])
    have zew_heap_size_12 : w.heap.size + 1 < w2.heap.size := block_lt_of_cell cew_heap_size_12_0
    have cew_heap_size_12_1 : w2.cell? ⟨w.heap.size + 1, 1, none⟩ = some (.int .i64 d) := keep_cell hb2 (by first | assumption | (go_simp; done) | (simp; done) | simp [*])
    have cew1_heap_size2_0 : w2.cell? ⟨w1.heap.size, 0, none⟩ = some (.int .i64 0) := keep_cell hb2 (by first | assumption | (go_simp; done) | (simp; done) | simp [*])
    have zew1_heap_size2 : w1.heap.size < w2.heap.size := block_lt_of_cell cew1_heap_size2_0
    have cew1_heap_size2_1 : w2.cell? ⟨w1.heap.size, 1, none⟩ = some (.int .i64 0) := keep_cell hb2 (by first | assumption | (go_simp; done) | (simp; done) | simp [*])
    have cew1_heap_size_12_0 : w2.cell? ⟨w1.heap.size + 1, 0, none⟩ = some (.int .i64 0) := keep_cell hb2 (by first | assumption | (go_simp; done) | (simp; done) | simp [*])
    have zew1_heap_size_12 : w1.heap.size + 1 < w2.heap.size := block_lt_of_cell cew1_heap_size_12_0
    have cew1_heap_size_12_1 : w2.cell? ⟨w1.heap.size + 1, 1, none⟩ = some (.int .i64 0) := keep_cell hb2 (by first | assumption | (go_simp; done) | (simp; done) | simp [*])
    have B2 : Below w.heap.size w w2 := bl_call (by repeat (first | exact Below.refl _ _ | exact Nat.le_refl _ | refine Below.alloc ?_ ?_ _ | refine Below.setCell ?_ ?_ _ | refine Below.drew ?_ | refine bl_drewN ?_ _ | (assumption) | refine bl_call ?_ (by assumption) ?_ | omega | (simp <;> omega))) hb2 (by first | assumption | (simp; done) | (simp; omega) | omega)
    clear hb2
    have hsz_2 := B2.size
    rw [H1.out]
    go_wp2_with fail
    refine (awake_any _).mono ?_
    rintro e w3 ⟨rfl, hb3⟩
    have z3_0 : w.heap.size < w3.heap.size := by have := hb3.size; (try simp at this); omega
    have z3_1 : w.heap.size + 1 < w3.heap.size := by have := hb3.size; (try simp at this); omega
    have cew_heap_size3_0 : w3.cell? ⟨w.heap.size, 0, none⟩ = some (.int .i64 a) := keep_cell hb3 (by first | assumption | (go_simp; done) | (simp; done) | simp [*])
    have zew_heap_size3 : w.heap.size < w3.heap.size := block_lt_of_cell cew_heap_size3_0
    have cew_heap_size3_1 : w3.cell? ⟨w.heap.size, 1, none⟩ = some (.int .i64 b) := keep_cell hb3 (by first | assumption | (go_simp; done) | (simp; done) | simp [*])
    have cew_heap_size_13_0 : w3.cell? ⟨w.heap.size + 1, 0, none⟩ = some (.int .i64 c) := keep_cell hb3 (by first | assumption | (go_simp; done) | (simp; done) | simp [*])
    have zew_heap_size_13 : w.heap.size + 1 < w3.heap.size := block_lt_of_cell cew_heap_size_13_0
    have cew_heap_size_13_1 : w3.cell? ⟨w.heap.size + 1, 1, none⟩ = some (.int .i64 d) := keep_cell hb3 (by first | assumption | (go_simp; done) | (simp; done) | simp [*])
    have cew1_heap_size3_0 : w3.cell? ⟨w1.heap.size, 0, none⟩ = some (.int .i64 0) := keep_cell hb3 (by first | assumption | (go_simp; done) | (simp; done) | simp [*])
    have zew1_heap_size3 : w1.heap.size < w3.heap.size := block_lt_of_cell cew1_heap_size3_0
    have cew1_heap_size3_1 : w3.cell? ⟨w1.heap.size, 1, none⟩ = some (.int .i64 0) := keep_cell hb3 (by first | assumption | (go_simp; done) | (simp; done) | simp [*])
    have cew1_heap_size_13_0 : w3.cell? ⟨w1.heap.size + 1, 0, none⟩ = some (.int .i64 0) := keep_cell hb3 (by first | assumption | (go_simp; done) | (simp; done) | simp [*])
    have zew1_heap_size_13 : w1.heap.size + 1 < w3.heap.size := block_lt_of_cell cew1_heap_size_13_0
    have cew1_heap_size_13_1 : w3.cell? ⟨w1.heap.size + 1, 1, none⟩ = some (.int .i64 0) := keep_cell hb3 (by first | assumption | (go_simp; done) | (simp; done) | simp [*])
    have B3 : Below w.heap.size w w3 := bl_call (by repeat (first | exact Below.refl _ _ | exact Nat.le_refl _ | refine Below.alloc ?_ ?_ _ | refine Below.setCell ?_ ?_ _ | refine Below.drew ?_ | refine bl_drewN ?_ _ | (assumption) | refine bl_call ?_ (by assumption) ?_ | omega | (simp <;> omega))) hb3 (by first | assumption | (simp; done) | (simp; omega) | omega)
    clear hb3
    have hsz_3 := B3.size
    go_wp2_with fail
    go_ret
    exact ⟨rfl, (by repeat (first | exact Below.refl _ _ | exact Nat.le_refl _ | refine Below.alloc ?_ ?_ _ | refine Below.setCell ?_ ?_ _ | refine Below.drew ?_ | refine bl_drewN ?_ _ | (assumption) | refine bl_call ?_ (by assumption) ?_ | omega | (simp <;> omega)))⟩
namespace gaugeDivides
open Go.ChangeShapes Go.WideShapes Go.ChangeAt Go.RowKit
open Go.Lib Go.Joins
set_option maxRecDepth 100000 in
theorem contract (H : Type) (enc : TypeId × Value → H) (W : World) (base : Nat) (args : Array Value) (ds gs : List (DataW H)) (before : List MemPlace)
    (hval : ∀ (j : Nat) t v, Tryd.f4.params[j]? = some t → args[j]? = some v → Value.okWide Tryd.prog W .any base t v)
    (hW : DataW.Whole enc Tryd.prog Tryd.f4.params.toList Rows.gaugeDividesSpec.vars false W args.toList ds gs before) :
    Calls Tryd.prog 4 args W fun e W' => ∃ v, e = .returned v ∧ Rows.gaugeDividesSpec.post enc Tryd.prog Tryd.f4 false true false false W args v W' := by
  have hW' := hW
  obtain ⟨p, q, hA0, hV, rfl, hfz, hnd⟩ := hW
  have hA : DataW.TrodAll enc Tryd.prog W 0 (fun _ => true) true Tryd.f4.params.toList args.toList ds p := hA0
  rw [Tryd.params4] at hA hval
  obtain ⟨v0, vs0, d0, ds0, p0, q0, hargs, rfl, rfl, h0, r0⟩ := trodAll_cons hA
  obtain ⟨v1, vs1, d1, ds1, p1, q1, rfl, rfl, rfl, h1, r1⟩ := trodAll_cons r0
  obtain ⟨rfl, rfl, rfl⟩ := trodAll_nil r1
  obtain rfl : args = #[v0, v1] := by cases args; simp_all
  obtain ⟨rfl, rfl⟩ := trodVars_none hV
  obtain ⟨u0, t0, y0, z0, n0, rfl, rfl, rfl, tu0, tt0⟩ := open_agg2 Tryd.underlying23 (by kernel_rfl) (by kernel_rfl) (hval 0 23 v0 rfl rfl) h0
  obtain ⟨a0, ea0, rfl, wa0⟩ := DataW.trod_int Tryd.underlying3 tu0
  obtain ⟨b0, eb0, rfl, wb0⟩ := DataW.trod_int Tryd.underlying3 tt0
  obtain rfl : u0 = .int .i64 a0 := by simpa using ea0
  obtain rfl : t0 = .int .i64 b0 := by simpa using eb0
  obtain ⟨u1, t1, y1, z1, n1, rfl, rfl, rfl, tu1, tt1⟩ := open_agg2 Tryd.underlying23 (by kernel_rfl) (by kernel_rfl) (hval 1 23 v1 rfl rfl) h1
  obtain ⟨a1, ea1, rfl, wa1⟩ := DataW.trod_int Tryd.underlying3 tu1
  obtain ⟨b1, eb1, rfl, wb1⟩ := DataW.trod_int Tryd.underlying3 tt1
  obtain rfl : u1 = .int .i64 a1 := by simpa using ea1
  obtain rfl : t1 = .int .i64 b1 := by simpa using eb1
  clear hA0
  simp only [List.append_nil] at hW'
  refine (show Calls Tryd.prog 4 _ W _ from (GaugeDivides_walk a0 b0 a1 b1 W (inI wa0) (inI wb0) (inI wa1) (inI wb1))).mono fun e W' ⟨he, hb⟩ => ?_
  subst he
  exact ⟨_, rfl, _, _, _, [], [], [], hW', trodAll_mk1 (shut_bool Tryd.underlying4 _), trodAll_cons_mk (shut_agg2 (y0 := (.lit (.int .i64 a0), [])) (y1 := (.lit (.int .i64 b0), [])) Tryd.underlying23 (by kernel_rfl) (by kernel_rfl) ⟨1, by simp [DataW.trod, Tryd.underlying3, wa0]⟩ ⟨1, by simp [DataW.trod, Tryd.underlying3, wb0]⟩) (trodAll_cons_mk (shut_agg2 (y0 := (.lit (.int .i64 a1), [])) (y1 := (.lit (.int .i64 b1), [])) Tryd.underlying23 (by kernel_rfl) (by kernel_rfl) ⟨1, by simp [DataW.trod, Tryd.underlying3, wa1]⟩ ⟨1, by simp [DataW.trod, Tryd.underlying3, wb1]⟩) (trodAll_mk0)), rfl, hb.frame _, fun h => by cases h⟩
theorem reads (os : Os) {H : Type} (enc : TypeId × Value → H) : ∃ places, DataW.whole enc Tryd.prog ((laidWorld os).forCall (fun _ _ => 0) ⟨#[], #[.agg #[.int .i64 0, .int .i64 0], .agg #[.int .i64 0, .int .i64 0]], []⟩).memory Tryd.f4.params.toList Rows.gaugeDividesSpec.vars false (#[.agg #[.int .i64 0, .int .i64 0], .agg #[.int .i64 0, .int .i64 0]] : Array Value).toList 8 = some ([.agg [.lit (.int .i64 0), .lit (.int .i64 0)], .agg [.lit (.int .i64 0), .lit (.int .i64 0)]], [], places) :=
  ⟨[], by kernel_rfl⟩
set_option maxRecDepth 100000 in
theorem lifted (os : Os) (started : os.Started) (H : Type) (enc : TypeId × Value → H) (F : Stop.Interp) :
    ReturnsInHanded {} Tryd.checked os 4 .any ((OpenSpec.ofChange Rows.gaugeDividesSpec).preRow enc Tryd.prog Tryd.f4 Rows.gaugeDividesRow.domain false Rows.gaugeDividesRow.laid) (((OpenSpec.ofChange Rows.gaugeDividesSpec).at F).post enc Tryd.prog Tryd.f4 false true false false) := by
  obtain ⟨places, hx⟩ := reads os enc
  refine returnsInHanded_of_row (C := Tryd.checked) (s := OpenSpec.ofChange Rows.gaugeDividesSpec) own started (by kernel_rfl) Tryd.func4
    (witness_row_at (enc := enc) (C := Tryd.checked) false (laidWorld os) #[.agg #[.int .i64 0, .int .i64 0], .agg #[.int .i64 0, .int .i64 0]] rfl (by kernel_rfl) (by kernel_rfl) (by kernel_rfl)
      (OpenSpec.preRow_of_cond 8 hx (by kernel_rfl) (fun k hk => by cases hk) (by kernel_rfl) (laid_met os _))) ?_
  intro W base args ds gs before hval hW _ _ _ _ _ _
  exact contract H enc W base args ds gs before hval hW
theorem said : Rows.GaugeDividesSaid :=
  OpenClaim.holds_of_cond 4 Tryd.f4 rfl rfl rfl rfl rfl rfl rfl ⟨rfl, rfl, rfl, rfl, rfl⟩ rfl rfl rfl rfl rfl (by kernel_rfl) Tryd.func4 (by kernel_rfl)
    (of_decide_eq_true (by kernel_rfl)) (by unfold Func.isWrapper; first | (rw [if_pos (by decide +kernel)]; kernel_rfl) | (rw [if_neg (by decide +kernel)]; exact ⟨rfl, rfl⟩))
    (fun os started H enc _ F => by rw [OpenClaim.pre_eq_preRow]; exact lifted os started H enc F)
theorem plain (f : FuncId) (fn : Func) (hf : Tryd.pinned.checked.prog.funcNamed "remould/remouldlaw04.GaugeDivides" = some f) (hfn : Tryd.pinned.checked.prog.funcs[f]? = some fn) :
    true = Tryd.pinned.checked.prog.looks [] ∧ ∀ (j : Nat) t, fn.params[j]? = some t → Tryd.pinned.checked.prog.wantsStandIn t = false := by
  obtain rfl : f = 4 := Option.some.inj ((show Tryd.prog.funcNamed "remould/remouldlaw04.GaugeDivides" = some 4 by kernel_rfl).symm.trans hf) |>.symm
  obtain rfl : fn = Tryd.f4 := (Option.some.inj (Tryd.func4.symm.trans hfn)).symm
  refine ⟨by kernel_rfl, fun j t ht => ?_⟩
  rw [Tryd.params4] at ht
  have hm : t ∈ [23, 23] := by simpa using Array.mem_of_getElem? ht
  have hall : ([23, 23].all fun u => !Tryd.prog.wantsStandIn u) = true := by kernel_rfl
  exact (show Tryd.prog.wantsStandIn t = false by simpa using List.all_eq_true.1 hall t (by simpa using hm))
theorem card : Rows.GaugeDividesCardSaid :=
  Claim7.holds_tied_plain_at .later [] _ _ _ _ said (fun _ h => by cases h) (by kernel_rfl) (fun _ h => by cases h) gaugeDivides_row_tie rfl ⟨rfl, rfl⟩ (by kernel_rfl) rfl plain (by kernel_rfl)
end gaugeDivides
theorem GaugeDivides_holds : Rows.GaugeDividesCardSaid := gaugeDivides.card
end Go.Proofs.YtgocloilagcfoaaDoor
