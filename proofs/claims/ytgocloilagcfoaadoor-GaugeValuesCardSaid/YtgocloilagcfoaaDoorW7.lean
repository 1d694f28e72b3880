/- GaugeValues: for every string the law returns true. -/
import Derived.Test.YtgocloilagcfoaaDoorL1
import Derived.Test.YtgocloilagcfoaaDoorL4
import Derived.Test.YtgocloilagcfoaaDoorR8
import Derived.Test.YtgocloilagcfoaaDoorR10
import Derived.Test.YtgocloilagcfoaaDoorF1
namespace Go.Proofs.YtgocloilagcfoaaDoor
open Go.RowKit
attribute [local go_sem ↓] Go.wp_at_zero Go.wp_at_succ

set_option maxRecDepth 100000 in
set_option maxHeartbeats 4000000 in
theorem GaugeValues_walk (l : List UInt8) (w : World) (h : l.length ≤ 9223372036854775807) :
    Calls Tryd.prog 7 #[.string ⟨l.toArray⟩] w fun e w' => e = .returned (.bool true) ∧ Below w.heap.size w w' := by
  have hB := fun wx => brief_any l wx h
  have hl : (l.take 84).length ≤ 1000 := by rw [List.length_take]; omega
  obtain ⟨m, hm⟩ : ∃ m, l.take 84 = m := ⟨_, rfl⟩
  rw [hm] at hB hl
  clear hm h
  generalize (⟨l.toArray⟩ : ByteArray) = t0 at *
  have hT := fun wx => refIsText m wx hl
  by_cases h1 : textOK m = true
  · rw [h1] at hT
    have hRV := fun wx => refValue m wx hl h1
    have h0 := num_nonneg m h1
    by_cases h2 : isN (valOf m).1 (valOf m).2 = true
    · have hV := fun wx => Value_yes m wx hl h1 h2
      have hP := fun wx => Plain_yes m wx hl h1 h2
      have hR := fun wx => refText (valOf m).1 (valOf m).2 wx (by obtain ⟨x1, x2, x3, x4⟩ := (isN_iff _ _).1 h2; exact ⟨x1, x2, x3, x4⟩) h0
      obtain ⟨⟨a, b⟩, hv⟩ : ∃ p, valOf m = p := ⟨_, rfl⟩
      rw [hv] at hRV h2 hV hP hR
      dsimp only at hRV h2 hV hP hR
      obtain ⟨S, eS⟩ : ∃ S : ByteArray, ⟨(GM.textOf (a, b)).toArray⟩ = S := ⟨_, rfl⟩
      rw [eS] at hP hR
      clear eS hv h0 h1 hl
      generalize (⟨m.toArray⟩ : ByteArray) = t at *
      have HB := Lib.hid hB
      have HT := Lib.hid hT
      have HRV := Lib.hid hRV
      have HV := Lib.hid hV
      have HP := Lib.hid hP
      have HR := Lib.hid hR
      have H2 := Lib.hid h2
      clear hB hT hRV hV hP hR h2
      go_enter Tryd.func7, Tryd.ntmps7
      go_wp2_with fail
      refine (HB.out _).mono ?_
      rintro e w1 ⟨rfl, hb1⟩
      have B1 : Below w.heap.size w w1 := bl_call (by repeat (first | exact Below.refl _ _ | exact Nat.le_refl _ | refine Below.alloc ?_ ?_ _ | refine Below.setCell ?_ ?_ _ | refine Below.drew ?_ | refine bl_drewN ?_ _ | (assumption) | refine bl_call ?_ (by assumption) ?_ | omega | (simp <;> omega))) hb1 (by first | assumption | (simp; done) | (simp; omega) | omega)
      clear hb1
      have hsz_1 := B1.size
      go_wp2_with fail
      refine (HV.out _).mono ?_
      rintro e w2 ⟨rfl, hb2⟩
      have B2 : Below w.heap.size w w2 := bl_call (by repeat (first | exact Below.refl _ _ | exact Nat.le_refl _ | refine Below.alloc ?_ ?_ _ | refine Below.setCell ?_ ?_ _ | refine Below.drew ?_ | refine bl_drewN ?_ _ | (assumption) | refine bl_call ?_ (by assumption) ?_ | omega | (simp <;> omega))) hb2 (by first | assumption | (simp; done) | (simp; omega) | omega)
      clear hb2
      have hsz_2 := B2.size
      go_wp2_with fail
      refine (HP.out _).mono ?_
      rintro e w3 ⟨rfl, hb3⟩
      have cew2_heap_size3_0 : w3.cell? ⟨w2.heap.size, 0, none⟩ = some (.int .i64 a) := keep_cell hb3 (by first | assumption | (go_simp; done) | (simp; done) | simp [*])
      have zew2_heap_size3 : w2.heap.size < w3.heap.size := block_lt_of_cell cew2_heap_size3_0
      have cew2_heap_size3_1 : w3.cell? ⟨w2.heap.size, 1, none⟩ = some (.int .i64 b) := keep_cell hb3 (by first | assumption | (go_simp; done) | (simp; done) | simp [*])
      have B3 : Below w.heap.size w w3 := bl_call (by repeat (first | exact Below.refl _ _ | exact Nat.le_refl _ | refine Below.alloc ?_ ?_ _ | refine Below.setCell ?_ ?_ _ | refine Below.drew ?_ | refine bl_drewN ?_ _ | (assumption) | refine bl_call ?_ (by assumption) ?_ | omega | (simp <;> omega))) hb3 (by first | assumption | (simp; done) | (simp; omega) | omega)
      clear hb3
      have hsz_3 := B3.size
      go_wp2_with fail
      refine (HT.out _).mono ?_
      rintro e w4 ⟨rfl, hb4⟩
      have cew2_heap_size4_0 : w4.cell? ⟨w2.heap.size, 0, none⟩ = some (.int .i64 a) := keep_cell hb4 (by first | assumption | (go_simp; done) | (simp; done) | simp [*])
      have zew2_heap_size4 : w2.heap.size < w4.heap.size := block_lt_of_cell cew2_heap_size4_0
      have cew2_heap_size4_1 : w4.cell? ⟨w2.heap.size, 1, none⟩ = some (.int .i64 b) := keep_cell hb4 (by first | assumption | (go_simp; done) | (simp; done) | simp [*])
      have B4 : Below w.heap.size w w4 := bl_call (by repeat (first | exact Below.refl _ _ | exact Nat.le_refl _ | refine Below.alloc ?_ ?_ _ | refine Below.setCell ?_ ?_ _ | refine Below.drew ?_ | refine bl_drewN ?_ _ | (assumption) | refine bl_call ?_ (by assumption) ?_ | omega | (simp <;> omega))) hb4 (by first | assumption | (simp; done) | (simp; omega) | omega)
      clear hb4
      have hsz_4 := B4.size
      go_wp2_with fail
      refine (HRV.out _).mono ?_
      rintro e w5 ⟨rfl, hb5⟩
      have cew2_heap_size5_0 : w5.cell? ⟨w2.heap.size, 0, none⟩ = some (.int .i64 a) := keep_cell hb5 (by first | assumption | (go_simp; done) | (simp; done) | simp [*])
      have zew2_heap_size5 : w2.heap.size < w5.heap.size := block_lt_of_cell cew2_heap_size5_0
      have cew2_heap_size5_1 : w5.cell? ⟨w2.heap.size, 1, none⟩ = some (.int .i64 b) := keep_cell hb5 (by first | assumption | (go_simp; done) | (simp; done) | simp [*])
      have B5 : Below w.heap.size w w5 := bl_call (by repeat (first | exact Below.refl _ _ | exact Nat.le_refl _ | refine Below.alloc ?_ ?_ _ | refine Below.setCell ?_ ?_ _ | refine Below.drew ?_ | refine bl_drewN ?_ _ | (assumption) | refine bl_call ?_ (by assumption) ?_ | omega | (simp <;> omega))) hb5 (by first | assumption | (simp; done) | (simp; omega) | omega)
      clear hb5
      have hsz_5 := B5.size
      go_wp2_with fail
      refine (refNumber _ _ _).mono ?_
      rintro e w6 ⟨rfl, hb6⟩
      have cew2_heap_size6_0 : w6.cell? ⟨w2.heap.size, 0, none⟩ = some (.int .i64 a) := keep_cell hb6 (by first | assumption | (go_simp; done) | (simp; done) | simp [*])
      have zew2_heap_size6 : w2.heap.size < w6.heap.size := block_lt_of_cell cew2_heap_size6_0
      have cew2_heap_size6_1 : w6.cell? ⟨w2.heap.size, 1, none⟩ = some (.int .i64 b) := keep_cell hb6 (by first | assumption | (go_simp; done) | (simp; done) | simp [*])
      have cew5_heap_size6_0 : w6.cell? ⟨w5.heap.size, 0, none⟩ = some (.int .i64 a) := keep_cell hb6 (by first | assumption | (go_simp; done) | (simp; done) | simp [*])
      have zew5_heap_size6 : w5.heap.size < w6.heap.size := block_lt_of_cell cew5_heap_size6_0
      have cew5_heap_size6_1 : w6.cell? ⟨w5.heap.size, 1, none⟩ = some (.int .i64 b) := keep_cell hb6 (by first | assumption | (go_simp; done) | (simp; done) | simp [*])
      have B6 : Below w.heap.size w w6 := bl_call (by repeat (first | exact Below.refl _ _ | exact Nat.le_refl _ | refine Below.alloc ?_ ?_ _ | refine Below.setCell ?_ ?_ _ | refine Below.drew ?_ | refine bl_drewN ?_ _ | (assumption) | refine bl_call ?_ (by assumption) ?_ | omega | (simp <;> omega))) hb6 (by first | assumption | (simp; done) | (simp; omega) | omega)
      clear hb6
      have hsz_6 := B6.size
      rw [H2.out]
      go_wp2_with fail
      refine (HR.out _).mono ?_
      rintro e w7 ⟨rfl, hb7⟩
      have cew2_heap_size7_0 : w7.cell? ⟨w2.heap.size, 0, none⟩ = some (.int .i64 a) := keep_cell hb7 (by first | assumption | (go_simp; done) | (simp; done) | simp [*])
      have zew2_heap_size7 : w2.heap.size < w7.heap.size := block_lt_of_cell cew2_heap_size7_0
      have cew2_heap_size7_1 : w7.cell? ⟨w2.heap.size, 1, none⟩ = some (.int .i64 b) := keep_cell hb7 (by first | assumption | (go_simp; done) | (simp; done) | simp [*])
      have cew5_heap_size7_0 : w7.cell? ⟨w5.heap.size, 0, none⟩ = some (.int .i64 a) := keep_cell hb7 (by first | assumption | (go_simp; done) | (simp; done) | simp [*])
      have zew5_heap_size7 : w5.heap.size < w7.heap.size := block_lt_of_cell cew5_heap_size7_0
      have cew5_heap_size7_1 : w7.cell? ⟨w5.heap.size, 1, none⟩ = some (.int .i64 b) := keep_cell hb7 (by first | assumption | (go_simp; done) | (simp; done) | simp [*])
      have B7 : Below w.heap.size w w7 := bl_call (by repeat (first | exact Below.refl _ _ | exact Nat.le_refl _ | refine Below.alloc ?_ ?_ _ | refine Below.setCell ?_ ?_ _ | refine Below.drew ?_ | refine bl_drewN ?_ _ | (assumption) | refine bl_call ?_ (by assumption) ?_ | omega | (simp <;> omega))) hb7 (by first | assumption | (simp; done) | (simp; omega) | omega)
      clear hb7
      have hsz_7 := B7.size
      go_wp2_with fail
      refine (awake_any _).mono ?_
      rintro e w8 ⟨rfl, hb8⟩
      have cew2_heap_size8_0 : w8.cell? ⟨w2.heap.size, 0, none⟩ = some (.int .i64 a) := keep_cell hb8 (by first | assumption | (go_simp; done) | (simp; done) | simp [*])
      have zew2_heap_size8 : w2.heap.size < w8.heap.size := block_lt_of_cell cew2_heap_size8_0
      have cew2_heap_size8_1 : w8.cell? ⟨w2.heap.size, 1, none⟩ = some (.int .i64 b) := keep_cell hb8 (by first | assumption | (go_simp; done) | (simp; done) | simp [*])
      have cew5_heap_size8_0 : w8.cell? ⟨w5.heap.size, 0, none⟩ = some (.int .i64 a) := keep_cell hb8 (by first | assumption | (go_simp; done) | (simp; done) | simp [*])
      have zew5_heap_size8 : w5.heap.size < w8.heap.size := block_lt_of_cell cew5_heap_size8_0
      have cew5_heap_size8_1 : w8.cell? ⟨w5.heap.size, 1, none⟩ = some (.int .i64 b) := keep_cell hb8 (by first | assumption | (go_simp; done) | (simp; done) | simp [*])
      have B8 : Below w.heap.size w w8 := bl_call (by repeat (first | exact Below.refl _ _ | exact Nat.le_refl _ | refine Below.alloc ?_ ?_ _ | refine Below.setCell ?_ ?_ _ | refine Below.drew ?_ | refine bl_drewN ?_ _ | (assumption) | refine bl_call ?_ (by assumption) ?_ | omega | (simp <;> omega))) hb8 (by first | assumption | (simp; done) | (simp; omega) | omega)
      clear hb8
      have hsz_8 := B8.size
      go_wp2_with fail
      go_ret
      exact ⟨rfl, (by repeat (first | exact Below.refl _ _ | exact Nat.le_refl _ | refine Below.alloc ?_ ?_ _ | refine Below.setCell ?_ ?_ _ | refine Below.drew ?_ | refine bl_drewN ?_ _ | (assumption) | refine bl_call ?_ (by assumption) ?_ | omega | (simp <;> omega)))⟩
    · have hV := fun wx => Value_no m wx hl (fun hh => h2 hh.2)
      have hP := fun wx => Plain_no m wx hl (fun hh => h2 hh.2)
      have h2' : isN (valOf m).1 (valOf m).2 = false := by simpa using h2
      rw [show numErr m = 5 by unfold numErr; rw [if_pos h1]] at hV hP
      obtain ⟨⟨a, b⟩, hv⟩ : ∃ p, valOf m = p := ⟨_, rfl⟩
      rw [hv] at hRV h2'
      dsimp only at hRV h2'
      clear hv h0 h1 hl h2
      generalize (⟨m.toArray⟩ : ByteArray) = t at *
      have HB := Lib.hid hB
      have HT := Lib.hid hT
      have HRV := Lib.hid hRV
      have HV := Lib.hid hV
      have HP := Lib.hid hP
      have H2 := Lib.hid h2'
      clear hB hT hRV hV hP h2'
      go_enter Tryd.func7, Tryd.ntmps7
      go_wp2_with fail
      refine (HB.out _).mono ?_
      rintro e w1 ⟨rfl, hb1⟩
      have B1 : Below w.heap.size w w1 := bl_call (by repeat (first | exact Below.refl _ _ | exact Nat.le_refl _ | refine Below.alloc ?_ ?_ _ | refine Below.setCell ?_ ?_ _ | refine Below.drew ?_ | refine bl_drewN ?_ _ | (assumption) | refine bl_call ?_ (by assumption) ?_ | omega | (simp <;> omega))) hb1 (by first | assumption | (simp; done) | (simp; omega) | omega)
      clear hb1
      have hsz_1 := B1.size
      go_wp2_with fail
      refine (HV.out _).mono ?_
      rintro e w2 ⟨rfl, hb2⟩
      have B2 : Below w.heap.size w w2 := bl_call (by repeat (first | exact Below.refl _ _ | exact Nat.le_refl _ | refine Below.alloc ?_ ?_ _ | refine Below.setCell ?_ ?_ _ | refine Below.drew ?_ | refine bl_drewN ?_ _ | (assumption) | refine bl_call ?_ (by assumption) ?_ | omega | (simp <;> omega))) hb2 (by first | assumption | (simp; done) | (simp; omega) | omega)
      clear hb2
      have hsz_2 := B2.size
      go_wp2_with fail
      refine (HP.out _).mono ?_
      rintro e w3 ⟨rfl, hb3⟩
      have cew2_heap_size3_0 : w3.cell? ⟨w2.heap.size, 0, none⟩ = some (.int .i64 0) := keep_cell hb3 (by first | assumption | (go_simp; done) | (simp; done) | simp [*])
      have zew2_heap_size3 : w2.heap.size < w3.heap.size := block_lt_of_cell cew2_heap_size3_0
      have cew2_heap_size3_1 : w3.cell? ⟨w2.heap.size, 1, none⟩ = some (.int .i64 0) := keep_cell hb3 (by first | assumption | (go_simp; done) | (simp; done) | simp [*])
      have B3 : Below w.heap.size w w3 := bl_call (by repeat (first | exact Below.refl _ _ | exact Nat.le_refl _ | refine Below.alloc ?_ ?_ _ | refine Below.setCell ?_ ?_ _ | refine Below.drew ?_ | refine bl_drewN ?_ _ | (assumption) | refine bl_call ?_ (by assumption) ?_ | omega | (simp <;> omega))) hb3 (by first | assumption | (simp; done) | (simp; omega) | omega)
      clear hb3
      have hsz_3 := B3.size
      go_wp2_with fail
      refine (HT.out _).mono ?_
      rintro e w4 ⟨rfl, hb4⟩
      have cew2_heap_size4_0 : w4.cell? ⟨w2.heap.size, 0, none⟩ = some (.int .i64 0) := keep_cell hb4 (by first | assumption | (go_simp; done) | (simp; done) | simp [*])
      have zew2_heap_size4 : w2.heap.size < w4.heap.size := block_lt_of_cell cew2_heap_size4_0
      have cew2_heap_size4_1 : w4.cell? ⟨w2.heap.size, 1, none⟩ = some (.int .i64 0) := keep_cell hb4 (by first | assumption | (go_simp; done) | (simp; done) | simp [*])
      have B4 : Below w.heap.size w w4 := bl_call (by repeat (first | exact Below.refl _ _ | exact Nat.le_refl _ | refine Below.alloc ?_ ?_ _ | refine Below.setCell ?_ ?_ _ | refine Below.drew ?_ | refine bl_drewN ?_ _ | (assumption) | refine bl_call ?_ (by assumption) ?_ | omega | (simp <;> omega))) hb4 (by first | assumption | (simp; done) | (simp; omega) | omega)
      clear hb4
      have hsz_4 := B4.size
      go_wp2_with fail
      refine (HRV.out _).mono ?_
      rintro e w5 ⟨rfl, hb5⟩
      have cew2_heap_size5_0 : w5.cell? ⟨w2.heap.size, 0, none⟩ = some (.int .i64 0) := keep_cell hb5 (by first | assumption | (go_simp; done) | (simp; done) | simp [*])
      have zew2_heap_size5 : w2.heap.size < w5.heap.size := block_lt_of_cell cew2_heap_size5_0
      have cew2_heap_size5_1 : w5.cell? ⟨w2.heap.size, 1, none⟩ = some (.int .i64 0) := keep_cell hb5 (by first | assumption | (go_simp; done) | (simp; done) | simp [*])
      have B5 : Below w.heap.size w w5 := bl_call (by repeat (first | exact Below.refl _ _ | exact Nat.le_refl _ | refine Below.alloc ?_ ?_ _ | refine Below.setCell ?_ ?_ _ | refine Below.drew ?_ | refine bl_drewN ?_ _ | (assumption) | refine bl_call ?_ (by assumption) ?_ | omega | (simp <;> omega))) hb5 (by first | assumption | (simp; done) | (simp; omega) | omega)
      clear hb5
      have hsz_5 := B5.size
      go_wp2_with fail
      refine (refNumber _ _ _).mono ?_
      rintro e w6 ⟨rfl, hb6⟩
      have cew2_heap_size6_0 : w6.cell? ⟨w2.heap.size, 0, none⟩ = some (.int .i64 0) := keep_cell hb6 (by first | assumption | (go_simp; done) | (simp; done) | simp [*])
      have zew2_heap_size6 : w2.heap.size < w6.heap.size := block_lt_of_cell cew2_heap_size6_0
      have cew2_heap_size6_1 : w6.cell? ⟨w2.heap.size, 1, none⟩ = some (.int .i64 0) := keep_cell hb6 (by first | assumption | (go_simp; done) | (simp; done) | simp [*])
      have cew5_heap_size6_0 : w6.cell? ⟨w5.heap.size, 0, none⟩ = some (.int .i64 a) := keep_cell hb6 (by first | assumption | (go_simp; done) | (simp; done) | simp [*])
      have zew5_heap_size6 : w5.heap.size < w6.heap.size := block_lt_of_cell cew5_heap_size6_0
      have cew5_heap_size6_1 : w6.cell? ⟨w5.heap.size, 1, none⟩ = some (.int .i64 b) := keep_cell hb6 (by first | assumption | (go_simp; done) | (simp; done) | simp [*])
      have B6 : Below w.heap.size w w6 := bl_call (by repeat (first | exact Below.refl _ _ | exact Nat.le_refl _ | refine Below.alloc ?_ ?_ _ | refine Below.setCell ?_ ?_ _ | refine Below.drew ?_ | refine bl_drewN ?_ _ | (assumption) | refine bl_call ?_ (by assumption) ?_ | omega | (simp <;> omega))) hb6 (by first | assumption | (simp; done) | (simp; omega) | omega)
      clear hb6
      have hsz_6 := B6.size
      rw [H2.out]
      go_wp2_with fail
      refine (awake_any _).mono ?_
      rintro e w7 ⟨rfl, hb7⟩
      have cew2_heap_size7_0 : w7.cell? ⟨w2.heap.size, 0, none⟩ = some (.int .i64 0) := keep_cell hb7 (by first | assumption | (go_simp; done) | (simp; done) | simp [*])
      have zew2_heap_size7 : w2.heap.size < w7.heap.size := block_lt_of_cell cew2_heap_size7_0
      have cew2_heap_size7_1 : w7.cell? ⟨w2.heap.size, 1, none⟩ = some (.int .i64 0) := keep_cell hb7 (by first | assumption | (go_simp; done) | (simp; done) | simp [*])
      have cew5_heap_size7_0 : w7.cell? ⟨w5.heap.size, 0, none⟩ = some (.int .i64 a) := keep_cell hb7 (by first | assumption | (go_simp; done) | (simp; done) | simp [*])
      have zew5_heap_size7 : w5.heap.size < w7.heap.size := block_lt_of_cell cew5_heap_size7_0
      have cew5_heap_size7_1 : w7.cell? ⟨w5.heap.size, 1, none⟩ = some (.int .i64 b) := keep_cell hb7 (by first | assumption | (go_simp; done) | (simp; done) | simp [*])
      have B7 : Below w.heap.size w w7 := bl_call (by repeat (first | exact Below.refl _ _ | exact Nat.le_refl _ | refine Below.alloc ?_ ?_ _ | refine Below.setCell ?_ ?_ _ | refine Below.drew ?_ | refine bl_drewN ?_ _ | (assumption) | refine bl_call ?_ (by assumption) ?_ | omega | (simp <;> omega))) hb7 (by first | assumption | (simp; done) | (simp; omega) | omega)
      clear hb7
      have hsz_7 := B7.size
      go_wp2_with fail
      go_ret
      exact ⟨rfl, (by repeat (first | exact Below.refl _ _ | exact Nat.le_refl _ | refine Below.alloc ?_ ?_ _ | refine Below.setCell ?_ ?_ _ | refine Below.drew ?_ | refine bl_drewN ?_ _ | (assumption) | refine bl_call ?_ (by assumption) ?_ | omega | (simp <;> omega)))⟩
  · have hV := fun wx => Value_no m wx hl (fun hh => h1 hh.1)
    have hP := fun wx => Plain_no m wx hl (fun hh => h1 hh.1)
    have h1' : textOK m = false := by simpa using h1
    rw [h1'] at hT
    rw [show numErr m = 4 by unfold numErr; rw [if_neg h1]] at hV hP
    clear h1 h1' hl
    generalize (⟨m.toArray⟩ : ByteArray) = t at *
    have HB := Lib.hid hB
    have HT := Lib.hid hT
    have HV := Lib.hid hV
    have HP := Lib.hid hP
    clear hB hT hV hP
    go_enter Tryd.func7, Tryd.ntmps7
    go_wp2_with fail
    refine (HB.out _).mono ?_
    rintro e w1 ⟨rfl, hb1⟩
    have B1 : Below w.heap.size w w1 := bl_call (by repeat (first | exact Below.refl _ _ | exact Nat.le_refl _ | refine Below.alloc ?_ ?_ _ | refine Below.setCell ?_ ?_ _ | refine Below.drew ?_ | refine bl_drewN ?_ _ | (assumption) | refine bl_call ?_ (by assumption) ?_ | omega | (simp <;> omega))) hb1 (by first | assumption | (simp; done) | (simp; omega) | omega)
    clear hb1
    have hsz_1 := B1.size
    go_wp2_with fail
    refine (HV.out _).mono ?_
    rintro e w2 ⟨rfl, hb2⟩
    have B2 : Below w.heap.size w w2 := bl_call (by repeat (first | exact Below.refl _ _ | exact Nat.le_refl _ | refine Below.alloc ?_ ?_ _ | refine Below.setCell ?_ ?_ _ | refine Below.drew ?_ | refine bl_drewN ?_ _ | (assumption) | refine bl_call ?_ (by assumption) ?_ | omega | (simp <;> omega))) hb2 (by first | assumption | (simp; done) | (simp; omega) | omega)
    clear hb2
    have hsz_2 := B2.size
    go_wp2_with fail
    refine (HP.out _).mono ?_
    rintro e w3 ⟨rfl, hb3⟩
    have cew2_heap_size3_0 : w3.cell? ⟨w2.heap.size, 0, none⟩ = some (.int .i64 0) := keep_cell hb3 (by first | assumption | (go_simp; done) | (simp; done) | simp [*])
    have zew2_heap_size3 : w2.heap.size < w3.heap.size := block_lt_of_cell cew2_heap_size3_0
    have cew2_heap_size3_1 : w3.cell? ⟨w2.heap.size, 1, none⟩ = some (.int .i64 0) := keep_cell hb3 (by first | assumption | (go_simp; done) | (simp; done) | simp [*])
    have B3 : Below w.heap.size w w3 := bl_call (by repeat (first | exact Below.refl _ _ | exact Nat.le_refl _ | refine Below.alloc ?_ ?_ _ | refine Below.setCell ?_ ?_ _ | refine Below.drew ?_ | refine bl_drewN ?_ _ | (assumption) | refine bl_call ?_ (by assumption) ?_ | omega | (simp <;> omega))) hb3 (by first | assumption | (simp; done) | (simp; omega) | omega)
    clear hb3
    have hsz_3 := B3.size
    go_wp2_with fail
    refine (HT.out _).mono ?_
    rintro e w4 ⟨rfl, hb4⟩
    have cew2_heap_size4_0 : w4.cell? ⟨w2.heap.size, 0, none⟩ = some (.int .i64 0) := keep_cell hb4 (by first | assumption | (go_simp; done) | (simp; done) | simp [*])
    have zew2_heap_size4 : w2.heap.size < w4.heap.size := block_lt_of_cell cew2_heap_size4_0
    have cew2_heap_size4_1 : w4.cell? ⟨w2.heap.size, 1, none⟩ = some (.int .i64 0) := keep_cell hb4 (by first | assumption | (go_simp; done) | (simp; done) | simp [*])
    have B4 : Below w.heap.size w w4 := bl_call (by repeat (first | exact Below.refl _ _ | exact Nat.le_refl _ | refine Below.alloc ?_ ?_ _ | refine Below.setCell ?_ ?_ _ | refine Below.drew ?_ | refine bl_drewN ?_ _ | (assumption) | refine bl_call ?_ (by assumption) ?_ | omega | (simp <;> omega))) hb4 (by first | assumption | (simp; done) | (simp; omega) | omega)
    clear hb4
    have hsz_4 := B4.size
    go_wp2_with fail
    refine (awake_any _).mono ?_
    rintro e w5 ⟨rfl, hb5⟩
    have cew2_heap_size5_0 : w5.cell? ⟨w2.heap.size, 0, none⟩ = some (.int .i64 0) := keep_cell hb5 (by first | assumption | (go_simp; done) | (simp; done) | simp [*])
    have zew2_heap_size5 : w2.heap.size < w5.heap.size := block_lt_of_cell cew2_heap_size5_0
    have cew2_heap_size5_1 : w5.cell? ⟨w2.heap.size, 1, none⟩ = some (.int .i64 0) := keep_cell hb5 (by first | assumption | (go_simp; done) | (simp; done) | simp [*])
    have B5 : Below w.heap.size w w5 := bl_call (by repeat (first | exact Below.refl _ _ | exact Nat.le_refl _ | refine Below.alloc ?_ ?_ _ | refine Below.setCell ?_ ?_ _ | refine Below.drew ?_ | refine bl_drewN ?_ _ | (assumption) | refine bl_call ?_ (by assumption) ?_ | omega | (simp <;> omega))) hb5 (by first | assumption | (simp; done) | (simp; omega) | omega)
    clear hb5
    have hsz_5 := B5.size
    go_wp2_with fail
    go_ret
    exact ⟨rfl, (by repeat (first | exact Below.refl _ _ | exact Nat.le_refl _ | refine Below.alloc ?_ ?_ _ | refine Below.setCell ?_ ?_ _ | refine Below.drew ?_ | refine bl_drewN ?_ _ | (assumption) | refine bl_call ?_ (by assumption) ?_ | omega | (simp <;> omega)))⟩
namespace gaugeValues
open Go.ChangeShapes Go.WideShapes Go.ChangeAt Go.RowKit
open Go.Lib Go.Joins
open Go.ChangeMaps (open_string shut_string)
set_option maxRecDepth 100000 in
theorem contract (H : Type) (enc : TypeId × Value → H) (W : World) (base : Nat) (args : Array Value) (ds gs : List (DataW H)) (before : List MemPlace)
    (hval : ∀ (j : Nat) t v, Tryd.f7.params[j]? = some t → args[j]? = some v → Value.okWide Tryd.prog W .any base t v)
    (hW : DataW.Whole enc Tryd.prog Tryd.f7.params.toList Rows.gaugeValuesSpec.vars false W args.toList ds gs before) :
    Calls Tryd.prog 7 args W fun e W' => ∃ v, e = .returned v ∧ Rows.gaugeValuesSpec.post enc Tryd.prog Tryd.f7 false true false false W args v W' := by
  have hW' := hW
  obtain ⟨p, q, hA0, hV, rfl, hfz, hnd⟩ := hW
  have hA : DataW.TrodAll enc Tryd.prog W 0 (fun _ => true) true Tryd.f7.params.toList args.toList ds p := hA0
  rw [Tryd.params7] at hA hval
  obtain ⟨v0, vs0, d0, ds0, p0, q0, hargs, rfl, rfl, h0, r0⟩ := trodAll_cons hA
  obtain ⟨rfl, rfl, rfl⟩ := trodAll_nil r0
  obtain rfl : args = #[v0] := by cases args; simp_all
  obtain ⟨rfl, rfl⟩ := trodVars_none hV
  obtain ⟨x0, rfl, rfl, rfl, wx0⟩ := open_string Tryd.underlying9 (hval 0 9 v0 rfl rfl) h0
  clear hA0
  simp only [List.append_nil] at hW'
  have es0 : x0 = ⟨x0.data.toList.toArray⟩ := by cases x0; simp
  refine (show Calls Tryd.prog 7 _ W _ from (GaugeValues_walk x0.data.toList W (by exact wx0))).mono fun e W' ⟨he, hb⟩ => ?_
  subst he
  exact ⟨_, rfl, _, _, _, [], [], [], hW', trodAll_mk1 (shut_bool Tryd.underlying4 _), trodAll_cons_mk (shut_string Tryd.underlying9 wx0) (trodAll_mk0), rfl, hb.frame _, fun h => by cases h⟩
theorem reads (os : Os) {H : Type} (enc : TypeId × Value → H) : ∃ places, DataW.whole enc Tryd.prog ((laidWorld os).forCall (fun _ _ => 0) ⟨#[], #[.string ⟨#[]⟩], []⟩).memory Tryd.f7.params.toList Rows.gaugeValuesSpec.vars false (#[.string ⟨#[]⟩] : Array Value).toList 8 = some ([.lit (.string [])], [], places) :=
  ⟨[], by kernel_rfl⟩
set_option maxRecDepth 100000 in
theorem lifted (os : Os) (started : os.Started) (H : Type) (enc : TypeId × Value → H) (F : Stop.Interp) :
    ReturnsInHanded {} Tryd.checked os 7 .any ((OpenSpec.ofChange Rows.gaugeValuesSpec).preRow enc Tryd.prog Tryd.f7 Rows.gaugeValuesRow.domain false Rows.gaugeValuesRow.laid) (((OpenSpec.ofChange Rows.gaugeValuesSpec).at F).post enc Tryd.prog Tryd.f7 false true false false) := by
  obtain ⟨places, hx⟩ := reads os enc
  refine returnsInHanded_of_row (C := Tryd.checked) (s := OpenSpec.ofChange Rows.gaugeValuesSpec) own started (by kernel_rfl) Tryd.func7
    (witness_row_at (enc := enc) (C := Tryd.checked) false (laidWorld os) #[.string ⟨#[]⟩] rfl (by kernel_rfl) (by kernel_rfl) (by kernel_rfl)
      (OpenSpec.preRow_of_cond 8 hx (by kernel_rfl) (fun k hk => by cases hk) (by kernel_rfl) (laid_met os _))) ?_
  intro W base args ds gs before hval hW _ _ _ _ _ _
  exact contract H enc W base args ds gs before hval hW
theorem said : Rows.GaugeValuesSaid :=
  OpenClaim.holds_of_cond 7 Tryd.f7 rfl rfl rfl rfl rfl rfl rfl ⟨rfl, rfl, rfl, rfl, rfl⟩ rfl rfl rfl rfl rfl (by kernel_rfl) Tryd.func7 (by kernel_rfl)
    (of_decide_eq_true (by kernel_rfl)) (by unfold Func.isWrapper; first | (rw [if_pos (by decide +kernel)]; kernel_rfl) | (rw [if_neg (by decide +kernel)]; exact ⟨rfl, rfl⟩))
    (fun os started H enc _ F => by rw [OpenClaim.pre_eq_preRow]; exact lifted os started H enc F)
theorem plain (f : FuncId) (fn : Func) (hf : Tryd.pinned.checked.prog.funcNamed "remould/remouldlaw04.GaugeValues" = some f) (hfn : Tryd.pinned.checked.prog.funcs[f]? = some fn) :
    true = Tryd.pinned.checked.prog.looks [] ∧ ∀ (j : Nat) t, fn.params[j]? = some t → Tryd.pinned.checked.prog.wantsStandIn t = false := by
  obtain rfl : f = 7 := Option.some.inj ((show Tryd.prog.funcNamed "remould/remouldlaw04.GaugeValues" = some 7 by kernel_rfl).symm.trans hf) |>.symm
  obtain rfl : fn = Tryd.f7 := (Option.some.inj (Tryd.func7.symm.trans hfn)).symm
  refine ⟨by kernel_rfl, fun j t ht => ?_⟩
  rw [Tryd.params7] at ht
  have hm : t ∈ [9] := by simpa using Array.mem_of_getElem? ht
  have hall : ([9].all fun u => !Tryd.prog.wantsStandIn u) = true := by kernel_rfl
  exact (show Tryd.prog.wantsStandIn t = false by simpa using List.all_eq_true.1 hall t (by simpa using hm))
theorem card : Rows.GaugeValuesCardSaid :=
  Claim7.holds_tied_plain_at .later [] _ _ _ _ said (fun _ h => by cases h) (by kernel_rfl) (fun _ h => by cases h) gaugeValues_row_tie rfl ⟨rfl, rfl⟩ (by kernel_rfl) rfl plain (by kernel_rfl)
end gaugeValues
theorem GaugeValues_holds : Rows.GaugeValuesCardSaid := gaugeValues.card
end Go.Proofs.YtgocloilagcfoaaDoor
