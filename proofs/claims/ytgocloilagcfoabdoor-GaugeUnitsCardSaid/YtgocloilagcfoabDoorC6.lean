/- nearest and Divide return what they compute, or the error. -/
import Derived.Test.YtgocloilagcfoabDoorC4
namespace Go.Proofs.YtgocloilagcfoabDoor
open Go.RowKit
attribute [local go_sem ↓] Go.wp_at_zero Go.wp_at_succ

theorem tdiv_floor (n d : Int) (hd : 0 < d) : (n.tmod d < 0 → n.tdiv d - 1 = n / d) ∧ (¬ n.tmod d < 0 → n.tdiv d = n / d) := by
  have h1 := Int.mul_tdiv_add_tmod n d
  have h2 := Int.mul_ediv_add_emod n d
  have h3 := Int.emod_nonneg n (show d ≠ 0 by omega)
  have h4 := Int.emod_lt_of_pos n hd
  have h5 : n.tmod d < d := Int.tmod_lt_of_pos n hd
  have h6 : -d < n.tmod d := by
    have := Int.tmod_lt_of_pos (-n) hd
    rw [Int.neg_tmod] at this; omega
  generalize n.tdiv d = q at *
  generalize n.tmod d = r at *
  generalize n / d = Q at *
  generalize n % d = R at *
  have e : d * (q - Q) = R - r := by rw [Int.mul_sub]; omega
  constructor
  · intro hr
    have a1 : d * 0 < d * (q - Q) := by omega
    have a2 : d * (q - Q) < d * 2 := by omega
    have b1 := Int.lt_of_mul_lt_mul_left a1 (by omega)
    have b2 := Int.lt_of_mul_lt_mul_left a2 (by omega)
    omega
  · intro hr
    have a1 : d * (-1) < d * (q - Q) := by omega
    have a2 : d * (q - Q) < d * 1 := by omega
    have b1 := Int.lt_of_mul_lt_mul_left a1 (by omega)
    have b2 := Int.lt_of_mul_lt_mul_left a2 (by omega)
    omega

/-- the whole number that is nearest to n / d, the smaller one of two -/
def nearZ (n d : Int) : Int := if d < 0 then (2 * -n + -d - 1) / (2 * -d) else (2 * n + d - 1) / (2 * d)

theorem tdiv_bd (n d X : Int) (h1 : -X ≤ n) (h2 : n ≤ X) : -X ≤ n.tdiv d ∧ n.tdiv d ≤ X := by
  have := Int.natAbs_tdiv_le_natAbs n d
  omega

set_option maxHeartbeats 400000 in
theorem nearest_any (n d : Int) (w : World) (n1 : -1000000000000000 ≤ n) (n2 : n ≤ 1000000000000000) (d1 : -1000000000000000 ≤ d) (d2 : d ≤ 1000000000000000) (d0 : d ≠ 0) :
    Calls Tryd.prog 74 #[.int .i64 n, .int .i64 d] w fun e w' => e = .returned (.int .i64 (nearZ n d)) ∧ w = w' := by
  by_cases hd : d < 0
  · obtain ⟨t1, t2⟩ := tdiv_floor (2 * -n + -d - 1) (2 * -d) (by omega)
    obtain ⟨q1, q2⟩ := tdiv_bd (2 * -n + -d - 1) (2 * -d) 3000000000000001 (by omega) (by omega)
    have e : nearZ n d = (2 * -n + -d - 1) / (2 * -d) := by unfold nearZ; rw [if_pos hd]
    by_cases hr : (2 * -n + -d - 1).tmod (2 * -d) < 0
    · have T := Lib.hid (t1 hr)
      have E := Lib.hid e
      clear t1 t2 e
      go_enter Tryd.func74, Tryd.ntmps74
      go_wp2
      go_ret
      exact ⟨ret_i (by rw [E.out, ← T.out]), rfl⟩
    · have T := Lib.hid (t2 hr)
      have E := Lib.hid e
      clear t1 t2 e
      go_enter Tryd.func74, Tryd.ntmps74
      go_wp2
      go_ret
      exact ⟨ret_i (by rw [E.out, ← T.out]), rfl⟩
  · obtain ⟨t1, t2⟩ := tdiv_floor (2 * n + d - 1) (2 * d) (by omega)
    obtain ⟨q1, q2⟩ := tdiv_bd (2 * n + d - 1) (2 * d) 3000000000000001 (by omega) (by omega)
    have e : nearZ n d = (2 * n + d - 1) / (2 * d) := by unfold nearZ; rw [if_neg hd]
    by_cases hr : (2 * n + d - 1).tmod (2 * d) < 0
    · have T := Lib.hid (t1 hr)
      have E := Lib.hid e
      clear t1 t2 e
      go_enter Tryd.func74, Tryd.ntmps74
      go_wp2
      go_ret
      exact ⟨ret_i (by rw [E.out, ← T.out]), rfl⟩
    · have T := Lib.hid (t2 hr)
      have E := Lib.hid e
      clear t1 t2 e
      go_enter Tryd.func74, Tryd.ntmps74
      go_wp2
      go_ret
      exact ⟨ret_i (by rw [E.out, ← T.out]), rfl⟩

set_option maxHeartbeats 400000 in
theorem Divide_no (a b c d : Int) (w : World) (h : (isN a b && isN c d) = false ∨ (c = 0 ∧ d = 0)) :
    Calls Tryd.prog 50 #[.agg #[.int .i64 a, .int .i64 b], .agg #[.int .i64 c, .int .i64 d]] w fun e w' =>
      e = .returned (.tuple #[.agg #[.int .i64 0, .int .i64 0], .agg #[.int .i64 0, .int .i64 0], .int .i64 2]) ∧ Below w.heap.size w w' := by
  cases h1 : isN a b
  · clear h
    have H1 := Lib.hid h1; clear h1
    go_enter Tryd.func50, Tryd.ntmps50
    go_wp2_with fail
    refine (isNum _ _ _).mono ?_
    rintro e w1 ⟨rfl, hb1⟩
    have z1_0 : w.heap.size < w1.heap.size := by have := hb1.size; (try simp at this); omega
    have z1_1 : w.heap.size + 1 < w1.heap.size := by have := hb1.size; (try simp at this); omega
    have z1_2 : w.heap.size + 2 < w1.heap.size := by have := hb1.size; (try simp at this); omega
    have z1_3 : w.heap.size + 3 < w1.heap.size := by have := hb1.size; (try simp at this); omega
    have c1_2_0 : w1.cell? ⟨w.heap.size + 2, 0, none⟩ = some (.int .i64 0) := keep_cell hb1 (by first | assumption | (go_simp; done) | (simp; done) | simp [*])
    have c1_2_1 : w1.cell? ⟨w.heap.size + 2, 1, none⟩ = some (.int .i64 0) := keep_cell hb1 (by first | assumption | (go_simp; done) | (simp; done) | simp [*])
    have c1_3_0 : w1.cell? ⟨w.heap.size + 3, 0, none⟩ = some (.int .i64 0) := keep_cell hb1 (by first | assumption | (go_simp; done) | (simp; done) | simp [*])
    have c1_3_1 : w1.cell? ⟨w.heap.size + 3, 1, none⟩ = some (.int .i64 0) := keep_cell hb1 (by first | assumption | (go_simp; done) | (simp; done) | simp [*])
    have f1_2 : ∀ o, w1.frozen? ⟨w.heap.size + 2, o, none⟩ = false := fun o => (hb1.frozen (p := ⟨w.heap.size + 2, o, none⟩) (by first | assumption | (simp; done) | (simp; omega))).trans (by first | (simp; done) | (go_simp; done) | simp [*])
    have f1_3 : ∀ o, w1.frozen? ⟨w.heap.size + 3, o, none⟩ = false := fun o => (hb1.frozen (p := ⟨w.heap.size + 3, o, none⟩) (by first | assumption | (simp; done) | (simp; omega))).trans (by first | (simp; done) | (go_simp; done) | simp [*])
    have B1 : Below w.heap.size w w1 := bl_call (by repeat (first | exact Below.refl _ _ | exact Nat.le_refl _ | refine Below.alloc ?_ ?_ _ | refine Below.setCell ?_ ?_ _ | refine Below.drew ?_ | refine bl_drewN ?_ _ | (assumption) | refine bl_call ?_ (by assumption) ?_ | omega | (simp <;> omega))) hb1 (by first | assumption | (simp; done) | (simp; omega) | omega)
    clear hb1
    have hsz_1 := B1.size
    rw [H1.out]
    go_wp2_with fail
    exact bodyPost_ret (v := .tuple #[.agg #[.int .i64 0, .int .i64 0], .agg #[.int .i64 0, .int .i64 0], .int .i64 2]) (by simp [results, Tryd.results50, go_sem, *]) rfl ⟨rfl, (by repeat (first | exact Below.refl _ _ | exact Nat.le_refl _ | refine Below.alloc ?_ ?_ _ | refine Below.setCell ?_ ?_ _ | refine Below.drew ?_ | refine bl_drewN ?_ _ | (assumption) | refine bl_call ?_ (by assumption) ?_ | omega | (simp <;> omega)))⟩
  · rw [h1, Bool.true_and] at h
    have H1 := Lib.hid h1; clear h1
    cases h2 : isN c d
    · clear h
      have H2 := Lib.hid h2; clear h2
      go_enter Tryd.func50, Tryd.ntmps50
      go_wp2_with fail
      refine (isNum _ _ _).mono ?_
      rintro e w1 ⟨rfl, hb1⟩
      have z1_0 : w.heap.size < w1.heap.size := by have := hb1.size; (try simp at this); omega
      have z1_1 : w.heap.size + 1 < w1.heap.size := by have := hb1.size; (try simp at this); omega
      have z1_2 : w.heap.size + 2 < w1.heap.size := by have := hb1.size; (try simp at this); omega
      have z1_3 : w.heap.size + 3 < w1.heap.size := by have := hb1.size; (try simp at this); omega
      have c1_1_0 : w1.cell? ⟨w.heap.size + 1, 0, none⟩ = some (.int .i64 c) := keep_cell hb1 (by first | assumption | (go_simp; done) | (simp; done) | simp [*])
      have c1_1_1 : w1.cell? ⟨w.heap.size + 1, 1, none⟩ = some (.int .i64 d) := keep_cell hb1 (by first | assumption | (go_simp; done) | (simp; done) | simp [*])
      have c1_2_0 : w1.cell? ⟨w.heap.size + 2, 0, none⟩ = some (.int .i64 0) := keep_cell hb1 (by first | assumption | (go_simp; done) | (simp; done) | simp [*])
      have c1_2_1 : w1.cell? ⟨w.heap.size + 2, 1, none⟩ = some (.int .i64 0) := keep_cell hb1 (by first | assumption | (go_simp; done) | (simp; done) | simp [*])
      have c1_3_0 : w1.cell? ⟨w.heap.size + 3, 0, none⟩ = some (.int .i64 0) := keep_cell hb1 (by first | assumption | (go_simp; done) | (simp; done) | simp [*])
      have c1_3_1 : w1.cell? ⟨w.heap.size + 3, 1, none⟩ = some (.int .i64 0) := keep_cell hb1 (by first | assumption | (go_simp; done) | (simp; done) | simp [*])
      have f1_2 : ∀ o, w1.frozen? ⟨w.heap.size + 2, o, none⟩ = false := fun o => (hb1.frozen (p := ⟨w.heap.size + 2, o, none⟩) (by first | assumption | (simp; done) | (simp; omega))).trans (by first | (simp; done) | (go_simp; done) | simp [*])
      have f1_3 : ∀ o, w1.frozen? ⟨w.heap.size + 3, o, none⟩ = false := fun o => (hb1.frozen (p := ⟨w.heap.size + 3, o, none⟩) (by first | assumption | (simp; done) | (simp; omega))).trans (by first | (simp; done) | (go_simp; done) | simp [*])
      have B1 : Below w.heap.size w w1 := bl_call (by repeat (first | exact Below.refl _ _ | exact Nat.le_refl _ | refine Below.alloc ?_ ?_ _ | refine Below.setCell ?_ ?_ _ | refine Below.drew ?_ | refine bl_drewN ?_ _ | (assumption) | refine bl_call ?_ (by assumption) ?_ | omega | (simp <;> omega))) hb1 (by first | assumption | (simp; done) | (simp; omega) | omega)
      clear hb1
      have hsz_1 := B1.size
      rw [H1.out]
      go_wp2_with fail
      refine (isNum _ _ _).mono ?_
      rintro e w2 ⟨rfl, hb2⟩
      have z2_0 : w.heap.size < w2.heap.size := by have := hb2.size; (try simp at this); omega
      have z2_1 : w.heap.size + 1 < w2.heap.size := by have := hb2.size; (try simp at this); omega
      have z2_2 : w.heap.size + 2 < w2.heap.size := by have := hb2.size; (try simp at this); omega
      have z2_3 : w.heap.size + 3 < w2.heap.size := by have := hb2.size; (try simp at this); omega
      have c2_2_0 : w2.cell? ⟨w.heap.size + 2, 0, none⟩ = some (.int .i64 0) := keep_cell hb2 (by first | assumption | (go_simp; done) | (simp; done) | simp [*])
      have c2_2_1 : w2.cell? ⟨w.heap.size + 2, 1, none⟩ = some (.int .i64 0) := keep_cell hb2 (by first | assumption | (go_simp; done) | (simp; done) | simp [*])
      have c2_3_0 : w2.cell? ⟨w.heap.size + 3, 0, none⟩ = some (.int .i64 0) := keep_cell hb2 (by first | assumption | (go_simp; done) | (simp; done) | simp [*])
      have c2_3_1 : w2.cell? ⟨w.heap.size + 3, 1, none⟩ = some (.int .i64 0) := keep_cell hb2 (by first | assumption | (go_simp; done) | (simp; done) | simp [*])
      have f2_2 : ∀ o, w2.frozen? ⟨w.heap.size + 2, o, none⟩ = false := fun o => (hb2.frozen (p := ⟨w.heap.size + 2, o, none⟩) (by first | assumption | (simp; done) | (simp; omega))).trans (by first | (simp; done) | (go_simp; done) | simp [*])
      have f2_3 : ∀ o, w2.frozen? ⟨w.heap.size + 3, o, none⟩ = false := fun o => (hb2.frozen (p := ⟨w.heap.size + 3, o, none⟩) (by first | assumption | (simp; done) | (simp; omega))).trans (by first | (simp; done) | (go_simp; done) | simp [*])
      have B2 : Below w.heap.size w w2 := bl_call (by repeat (first | exact Below.refl _ _ | exact Nat.le_refl _ | refine Below.alloc ?_ ?_ _ | refine Below.setCell ?_ ?_ _ | refine Below.drew ?_ | refine bl_drewN ?_ _ | (assumption) | refine bl_call ?_ (by assumption) ?_ | omega | (simp <;> omega))) hb2 (by first | assumption | (simp; done) | (simp; omega) | omega)
      clear hb2
      have hsz_2 := B2.size
      rw [H2.out]
      go_wp2_with fail
      exact bodyPost_ret (v := .tuple #[.agg #[.int .i64 0, .int .i64 0], .agg #[.int .i64 0, .int .i64 0], .int .i64 2]) (by simp [results, Tryd.results50, go_sem, *]) rfl ⟨rfl, (by repeat (first | exact Below.refl _ _ | exact Nat.le_refl _ | refine Below.alloc ?_ ?_ _ | refine Below.setCell ?_ ?_ _ | refine Below.drew ?_ | refine bl_drewN ?_ _ | (assumption) | refine bl_call ?_ (by assumption) ?_ | omega | (simp <;> omega)))⟩
    · rcases h with h | ⟨rfl, rfl⟩
      · rw [h] at h2; cases h2
      have H2 := Lib.hid h2; clear h2
      go_enter Tryd.func50, Tryd.ntmps50
      go_wp2_with fail
      refine (isNum _ _ _).mono ?_
      rintro e w1 ⟨rfl, hb1⟩
      have z1_0 : w.heap.size < w1.heap.size := by have := hb1.size; (try simp at this); omega
      have z1_1 : w.heap.size + 1 < w1.heap.size := by have := hb1.size; (try simp at this); omega
      have z1_2 : w.heap.size + 2 < w1.heap.size := by have := hb1.size; (try simp at this); omega
      have z1_3 : w.heap.size + 3 < w1.heap.size := by have := hb1.size; (try simp at this); omega
      have c1_1_0 : w1.cell? ⟨w.heap.size + 1, 0, none⟩ = some (.int .i64 0) := keep_cell hb1 (by first | assumption | (go_simp; done) | (simp; done) | simp [*])
      have c1_1_1 : w1.cell? ⟨w.heap.size + 1, 1, none⟩ = some (.int .i64 0) := keep_cell hb1 (by first | assumption | (go_simp; done) | (simp; done) | simp [*])
      have c1_2_0 : w1.cell? ⟨w.heap.size + 2, 0, none⟩ = some (.int .i64 0) := keep_cell hb1 (by first | assumption | (go_simp; done) | (simp; done) | simp [*])
      have c1_2_1 : w1.cell? ⟨w.heap.size + 2, 1, none⟩ = some (.int .i64 0) := keep_cell hb1 (by first | assumption | (go_simp; done) | (simp; done) | simp [*])
      have c1_3_0 : w1.cell? ⟨w.heap.size + 3, 0, none⟩ = some (.int .i64 0) := keep_cell hb1 (by first | assumption | (go_simp; done) | (simp; done) | simp [*])
      have c1_3_1 : w1.cell? ⟨w.heap.size + 3, 1, none⟩ = some (.int .i64 0) := keep_cell hb1 (by first | assumption | (go_simp; done) | (simp; done) | simp [*])
      have f1_2 : ∀ o, w1.frozen? ⟨w.heap.size + 2, o, none⟩ = false := fun o => (hb1.frozen (p := ⟨w.heap.size + 2, o, none⟩) (by first | assumption | (simp; done) | (simp; omega))).trans (by first | (simp; done) | (go_simp; done) | simp [*])
      have f1_3 : ∀ o, w1.frozen? ⟨w.heap.size + 3, o, none⟩ = false := fun o => (hb1.frozen (p := ⟨w.heap.size + 3, o, none⟩) (by first | assumption | (simp; done) | (simp; omega))).trans (by first | (simp; done) | (go_simp; done) | simp [*])
      have B1 : Below w.heap.size w w1 := bl_call (by repeat (first | exact Below.refl _ _ | exact Nat.le_refl _ | refine Below.alloc ?_ ?_ _ | refine Below.setCell ?_ ?_ _ | refine Below.drew ?_ | refine bl_drewN ?_ _ | (assumption) | refine bl_call ?_ (by assumption) ?_ | omega | (simp <;> omega))) hb1 (by first | assumption | (simp; done) | (simp; omega) | omega)
      clear hb1
      have hsz_1 := B1.size
      rw [H1.out]
      go_wp2_with fail
      refine (isNum _ _ _).mono ?_
      rintro e w2 ⟨rfl, hb2⟩
      have z2_0 : w.heap.size < w2.heap.size := by have := hb2.size; (try simp at this); omega
      have z2_1 : w.heap.size + 1 < w2.heap.size := by have := hb2.size; (try simp at this); omega
      have z2_2 : w.heap.size + 2 < w2.heap.size := by have := hb2.size; (try simp at this); omega
      have z2_3 : w.heap.size + 3 < w2.heap.size := by have := hb2.size; (try simp at this); omega
      have c2_1_0 : w2.cell? ⟨w.heap.size + 1, 0, none⟩ = some (.int .i64 0) := keep_cell hb2 (by first | assumption | (go_simp; done) | (simp; done) | simp [*])
      have c2_1_1 : w2.cell? ⟨w.heap.size + 1, 1, none⟩ = some (.int .i64 0) := keep_cell hb2 (by first | assumption | (go_simp; done) | (simp; done) | simp [*])
      have c2_2_0 : w2.cell? ⟨w.heap.size + 2, 0, none⟩ = some (.int .i64 0) := keep_cell hb2 (by first | assumption | (go_simp; done) | (simp; done) | simp [*])
      have c2_2_1 : w2.cell? ⟨w.heap.size + 2, 1, none⟩ = some (.int .i64 0) := keep_cell hb2 (by first | assumption | (go_simp; done) | (simp; done) | simp [*])
      have c2_3_0 : w2.cell? ⟨w.heap.size + 3, 0, none⟩ = some (.int .i64 0) := keep_cell hb2 (by first | assumption | (go_simp; done) | (simp; done) | simp [*])
      have c2_3_1 : w2.cell? ⟨w.heap.size + 3, 1, none⟩ = some (.int .i64 0) := keep_cell hb2 (by first | assumption | (go_simp; done) | (simp; done) | simp [*])
      have f2_2 : ∀ o, w2.frozen? ⟨w.heap.size + 2, o, none⟩ = false := fun o => (hb2.frozen (p := ⟨w.heap.size + 2, o, none⟩) (by first | assumption | (simp; done) | (simp; omega))).trans (by first | (simp; done) | (go_simp; done) | simp [*])
      have f2_3 : ∀ o, w2.frozen? ⟨w.heap.size + 3, o, none⟩ = false := fun o => (hb2.frozen (p := ⟨w.heap.size + 3, o, none⟩) (by first | assumption | (simp; done) | (simp; omega))).trans (by first | (simp; done) | (go_simp; done) | simp [*])
      have B2 : Below w.heap.size w w2 := bl_call (by repeat (first | exact Below.refl _ _ | exact Nat.le_refl _ | refine Below.alloc ?_ ?_ _ | refine Below.setCell ?_ ?_ _ | refine Below.drew ?_ | refine bl_drewN ?_ _ | (assumption) | refine bl_call ?_ (by assumption) ?_ | omega | (simp <;> omega))) hb2 (by first | assumption | (simp; done) | (simp; omega) | omega)
      clear hb2
      have hsz_2 := B2.size
      rw [H2.out]
      go_wp2_with fail
      exact bodyPost_ret (v := .tuple #[.agg #[.int .i64 0, .int .i64 0], .agg #[.int .i64 0, .int .i64 0], .int .i64 2]) (by simp [results, Tryd.results50, go_sem, *]) rfl ⟨rfl, (by repeat (first | exact Below.refl _ _ | exact Nat.le_refl _ | refine Below.alloc ?_ ?_ _ | refine Below.setCell ?_ ?_ _ | refine Below.drew ?_ | refine bl_drewN ?_ _ | (assumption) | refine bl_call ?_ (by assumption) ?_ | omega | (simp <;> omega)))⟩
end Go.Proofs.YtgocloilagcfoabDoor
