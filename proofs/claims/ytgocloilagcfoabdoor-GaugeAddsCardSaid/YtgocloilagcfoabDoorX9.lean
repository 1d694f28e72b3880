/- GaugeAdds: for every two strings the law returns true. -/
import Derived.Test.YtgocloilagcfoabDoorL1
import Derived.Test.YtgocloilagcfoabDoorL4
import Derived.Test.YtgocloilagcfoabDoorR8
import Derived.Test.YtgocloilagcfoabDoorR10
import Derived.Test.YtgocloilagcfoabDoorG17
import Derived.Test.YtgocloilagcfoabDoorF1
namespace Go.Proofs.YtgocloilagcfoabDoor
open Go.RowKit
attribute [local go_sem ↓] Go.wp_at_zero Go.wp_at_succ

set_option maxRecDepth 100000 in
set_option maxHeartbeats 4000000 in
theorem GaugeAdds_walk (l m : List UInt8) (w : World) (hl : l.length ≤ 9223372036854775807) (hm : m.length ≤ 9223372036854775807) :
    Calls Tryd.prog 4 #[.string ⟨l.toArray⟩, .string ⟨m.toArray⟩] w fun e w' => e = .returned (.bool true) ∧ Below w.heap.size w w' := by
  have hB1 := fun wx => brief_any l wx hl
  have hB2 := fun wx => brief_any m wx hm
  have hl1 : (l.take 84).length ≤ 1000 := by rw [List.length_take]; omega
  have hm1 : (m.take 84).length ≤ 1000 := by rw [List.length_take]; omega
  obtain ⟨p, hp⟩ : ∃ p, l.take 84 = p := ⟨_, rfl⟩
  obtain ⟨q, hq⟩ : ∃ q, m.take 84 = q := ⟨_, rfl⟩
  rw [hp] at hB1 hl1
  rw [hq] at hB2 hm1
  clear hp hq hl hm
  generalize (⟨l.toArray⟩ : ByteArray) = t0 at *
  generalize (⟨m.toArray⟩ : ByteArray) = t1 at *
  have hT1 := fun wx => refIsText p wx hl1
  have hT2 := fun wx => refIsText q wx hm1
  by_cases h1 : textOK p = true
  · rw [h1] at hT1
    by_cases h2 : textOK q = true
    · rw [h2] at hT2
      have hV1 := fun wx => refValue p wx hl1 h1
      have hV2 := fun wx => refValue q wx hm1 h2
      have hab := (GM.sg_add _ _).1 (num_nonneg p h1) (num_nonneg q h2)
      have ba := val_bd p h1
      have bb := val_bd q h2
      have hyes := fun wx => Add_yes p q wx hl1 hm1 h1 h2
      have hno := fun wx hh => Add_no p q wx hl1 hm1 hh
      rw [show addErr p q = 5 by unfold addErr; rw [if_pos ⟨h1, h2⟩]] at hno
      unfold GM.add at hyes hab
      obtain ⟨⟨X1, Y1⟩, e1⟩ : ∃ z, valOf p = z := ⟨_, rfl⟩
      obtain ⟨⟨X2, Y2⟩, e2⟩ : ∃ z, valOf q = z := ⟨_, rfl⟩
      rw [e1] at ba hab hV1 hyes hno
      rw [e2] at bb hab hV2 hyes hno
      dsimp only at ba bb hab hV1 hV2 hyes hno
      have HPL := Lib.hid (fun wx => refPlus X1 Y1 X2 Y2 wx (by omega) (by omega) (by omega) (by omega))
      obtain ⟨X, eX⟩ : ∃ X, X1 + X2 = X := ⟨_, rfl⟩
      obtain ⟨Y, eY⟩ : ∃ Y, Y1 + Y2 = Y := ⟨_, rfl⟩
      rw [eX, eY] at HPL hyes hno hab
      clear ba bb e1 e2 eX eY
      by_cases h3 : isN X Y = true
      · have hR := fun wx => refText X Y wx (by obtain ⟨x1, x2, x3, x4⟩ := (isN_iff _ _).1 h3; exact ⟨x1, x2, x3, x4⟩) hab
        have hAD := fun wx => hyes wx h3
        obtain ⟨S, eS⟩ : ∃ S : ByteArray, ⟨(GM.textOf (X, Y)).toArray⟩ = S := ⟨_, rfl⟩
        rw [eS] at hAD hR
        clear hyes hno hab eS h1 h2 hl1 hm1
        generalize (⟨p.toArray⟩ : ByteArray) = ta at *
        generalize (⟨q.toArray⟩ : ByteArray) = tb at *
        have HB1 := Lib.hid hB1
        have HB2 := Lib.hid hB2
        have HT1 := Lib.hid hT1
        have HT2 := Lib.hid hT2
        have HV1 := Lib.hid hV1
        have HV2 := Lib.hid hV2
        have HAD := Lib.hid hAD
        have HR := Lib.hid hR
        have H3 := Lib.hid h3
        clear hB1 hB2 hT1 hT2 hV1 hV2 hAD hR h3
        go_enter Tryd.func4, Tryd.ntmps4
        go_wp2_with fail
        refine (HB1.out _).mono ?_
        rintro e w1 ⟨rfl, hb1⟩
        have B1 : Below w.heap.size w w1 := bl_call (by repeat (first | exact Below.refl _ _ | exact Nat.le_refl _ | refine Below.alloc ?_ ?_ _ | refine Below.setCell ?_ ?_ _ | refine Below.drew ?_ | refine bl_drewN ?_ _ | (assumption) | refine bl_call ?_ (by assumption) ?_ | omega | (simp <;> omega))) hb1 (by first | assumption | (simp; done) | (simp; omega) | omega)
        clear hb1
        have hsz_1 := B1.size
        go_wp2_with fail
        refine (HB2.out _).mono ?_
        rintro e w2 ⟨rfl, hb2⟩
        have B2 : Below w.heap.size w w2 := bl_call (by repeat (first | exact Below.refl _ _ | exact Nat.le_refl _ | refine Below.alloc ?_ ?_ _ | refine Below.setCell ?_ ?_ _ | refine Below.drew ?_ | refine bl_drewN ?_ _ | (assumption) | refine bl_call ?_ (by assumption) ?_ | omega | (simp <;> omega))) hb2 (by first | assumption | (simp; done) | (simp; omega) | omega)
        clear hb2
        have hsz_2 := B2.size
        go_wp2_with fail
        refine (HAD.out _).mono ?_
        rintro e w3 ⟨rfl, hb3⟩
        have B3 : Below w.heap.size w w3 := bl_call (by repeat (first | exact Below.refl _ _ | exact Nat.le_refl _ | refine Below.alloc ?_ ?_ _ | refine Below.setCell ?_ ?_ _ | refine Below.drew ?_ | refine bl_drewN ?_ _ | (assumption) | refine bl_call ?_ (by assumption) ?_ | omega | (simp <;> omega))) hb3 (by first | assumption | (simp; done) | (simp; omega) | omega)
        clear hb3
        have hsz_3 := B3.size
        go_wp2_with fail
        refine (HT1.out _).mono ?_
        rintro e w4 ⟨rfl, hb4⟩
        have B4 : Below w.heap.size w w4 := bl_call (by repeat (first | exact Below.refl _ _ | exact Nat.le_refl _ | refine Below.alloc ?_ ?_ _ | refine Below.setCell ?_ ?_ _ | refine Below.drew ?_ | refine bl_drewN ?_ _ | (assumption) | refine bl_call ?_ (by assumption) ?_ | omega | (simp <;> omega))) hb4 (by first | assumption | (simp; done) | (simp; omega) | omega)
        clear hb4
        have hsz_4 := B4.size
        go_wp2_with fail
        refine (HT2.out _).mono ?_
        rintro e w5 ⟨rfl, hb5⟩
        have B5 : Below w.heap.size w w5 := bl_call (by repeat (first | exact Below.refl _ _ | exact Nat.le_refl _ | refine Below.alloc ?_ ?_ _ | refine Below.setCell ?_ ?_ _ | refine Below.drew ?_ | refine bl_drewN ?_ _ | (assumption) | refine bl_call ?_ (by assumption) ?_ | omega | (simp <;> omega))) hb5 (by first | assumption | (simp; done) | (simp; omega) | omega)
        clear hb5
        have hsz_5 := B5.size
        go_wp2_with fail
        refine (HV1.out _).mono ?_
        rintro e w6 ⟨rfl, hb6⟩
        have B6 : Below w.heap.size w w6 := bl_call (by repeat (first | exact Below.refl _ _ | exact Nat.le_refl _ | refine Below.alloc ?_ ?_ _ | refine Below.setCell ?_ ?_ _ | refine Below.drew ?_ | refine bl_drewN ?_ _ | (assumption) | refine bl_call ?_ (by assumption) ?_ | omega | (simp <;> omega))) hb6 (by first | assumption | (simp; done) | (simp; omega) | omega)
        clear hb6
        have hsz_6 := B6.size
        go_wp2_with fail
        refine (HV2.out _).mono ?_
        rintro e w7 ⟨rfl, hb7⟩
        have B7 : Below w.heap.size w w7 := bl_call (by repeat (first | exact Below.refl _ _ | exact Nat.le_refl _ | refine Below.alloc ?_ ?_ _ | refine Below.setCell ?_ ?_ _ | refine Below.drew ?_ | refine bl_drewN ?_ _ | (assumption) | refine bl_call ?_ (by assumption) ?_ | omega | (simp <;> omega))) hb7 (by first | assumption | (simp; done) | (simp; omega) | omega)
        clear hb7
        have hsz_7 := B7.size
        go_wp2_with fail
        refine (HPL.out _).mono ?_
        rintro e w8 ⟨rfl, hb8⟩
        have B8 : Below w.heap.size w w8 := bl_call (by repeat (first | exact Below.refl _ _ | exact Nat.le_refl _ | refine Below.alloc ?_ ?_ _ | refine Below.setCell ?_ ?_ _ | refine Below.drew ?_ | refine bl_drewN ?_ _ | (assumption) | refine bl_call ?_ (by assumption) ?_ | omega | (simp <;> omega))) hb8 (by first | assumption | (simp; done) | (simp; omega) | omega)
        clear hb8
        have hsz_8 := B8.size
        go_wp2_with fail
        refine (refNumber _ _ _).mono ?_
        rintro e w9 ⟨rfl, hb9⟩
        have cew8_heap_size9_0 : w9.cell? ⟨w8.heap.size, 0, none⟩ = some (.int .i64 X) := keep_cell hb9 (by first | assumption | (go_simp; done) | (simp; done) | simp [*])
        have zew8_heap_size9 : w8.heap.size < w9.heap.size := block_lt_of_cell cew8_heap_size9_0
        have cew8_heap_size9_1 : w9.cell? ⟨w8.heap.size, 1, none⟩ = some (.int .i64 Y) := keep_cell hb9 (by first | assumption | (go_simp; done) | (simp; done) | simp [*])
        have B9 : Below w.heap.size w w9 := bl_call (by repeat (first | exact Below.refl _ _ | exact Nat.le_refl _ | refine Below.alloc ?_ ?_ _ | refine Below.setCell ?_ ?_ _ | refine Below.drew ?_ | refine bl_drewN ?_ _ | (assumption) | refine bl_call ?_ (by assumption) ?_ | omega | (simp <;> omega))) hb9 (by first | assumption | (simp; done) | (simp; omega) | omega)
        clear hb9
        have hsz_9 := B9.size
        rw [H3.out]
        go_wp2_with fail
        refine (HR.out _).mono ?_
        rintro e w10 ⟨rfl, hb10⟩
        have cew8_heap_size10_0 : w10.cell? ⟨w8.heap.size, 0, none⟩ = some (.int .i64 X) := keep_cell hb10 (by first | assumption | (go_simp; done) | (simp; done) | simp [*])
        have zew8_heap_size10 : w8.heap.size < w10.heap.size := block_lt_of_cell cew8_heap_size10_0
        have cew8_heap_size10_1 : w10.cell? ⟨w8.heap.size, 1, none⟩ = some (.int .i64 Y) := keep_cell hb10 (by first | assumption | (go_simp; done) | (simp; done) | simp [*])
        have B10 : Below w.heap.size w w10 := bl_call (by repeat (first | exact Below.refl _ _ | exact Nat.le_refl _ | refine Below.alloc ?_ ?_ _ | refine Below.setCell ?_ ?_ _ | refine Below.drew ?_ | refine bl_drewN ?_ _ | (assumption) | refine bl_call ?_ (by assumption) ?_ | omega | (simp <;> omega))) hb10 (by first | assumption | (simp; done) | (simp; omega) | omega)
        clear hb10
        have hsz_10 := B10.size
        go_wp2_with fail
        refine (awake_any _).mono ?_
        rintro e w11 ⟨rfl, hb11⟩
        have cew8_heap_size11_0 : w11.cell? ⟨w8.heap.size, 0, none⟩ = some (.int .i64 X) := keep_cell hb11 (by first | assumption | (go_simp; done) | (simp; done) | simp [*])
        have zew8_heap_size11 : w8.heap.size < w11.heap.size := block_lt_of_cell cew8_heap_size11_0
        have cew8_heap_size11_1 : w11.cell? ⟨w8.heap.size, 1, none⟩ = some (.int .i64 Y) := keep_cell hb11 (by first | assumption | (go_simp; done) | (simp; done) | simp [*])
        have B11 : Below w.heap.size w w11 := bl_call (by repeat (first | exact Below.refl _ _ | exact Nat.le_refl _ | refine Below.alloc ?_ ?_ _ | refine Below.setCell ?_ ?_ _ | refine Below.drew ?_ | refine bl_drewN ?_ _ | (assumption) | refine bl_call ?_ (by assumption) ?_ | omega | (simp <;> omega))) hb11 (by first | assumption | (simp; done) | (simp; omega) | omega)
        clear hb11
        have hsz_11 := B11.size
        go_wp2_with fail
        go_ret
        exact ⟨rfl, (by repeat (first | exact Below.refl _ _ | exact Nat.le_refl _ | refine Below.alloc ?_ ?_ _ | refine Below.setCell ?_ ?_ _ | refine Below.drew ?_ | refine bl_drewN ?_ _ | (assumption) | refine bl_call ?_ (by assumption) ?_ | omega | (simp <;> omega)))⟩
      · have hAD := fun wx => hno wx (fun hh => h3 hh.2.2)
        have h3' : isN X Y = false := by simpa using h3
        clear hyes hno hab h1 h2 hl1 hm1 h3
        generalize (⟨p.toArray⟩ : ByteArray) = ta at *
        generalize (⟨q.toArray⟩ : ByteArray) = tb at *
        have HB1 := Lib.hid hB1
        have HB2 := Lib.hid hB2
        have HT1 := Lib.hid hT1
        have HT2 := Lib.hid hT2
        have HV1 := Lib.hid hV1
        have HV2 := Lib.hid hV2
        have HAD := Lib.hid hAD
        have H3 := Lib.hid h3'
        clear hB1 hB2 hT1 hT2 hV1 hV2 hAD h3'
        go_enter Tryd.func4, Tryd.ntmps4
        go_wp2_with fail
        refine (HB1.out _).mono ?_
        rintro e w1 ⟨rfl, hb1⟩
        have B1 : Below w.heap.size w w1 := bl_call (by repeat (first | exact Below.refl _ _ | exact Nat.le_refl _ | refine Below.alloc ?_ ?_ _ | refine Below.setCell ?_ ?_ _ | refine Below.drew ?_ | refine bl_drewN ?_ _ | (assumption) | refine bl_call ?_ (by assumption) ?_ | omega | (simp <;> omega))) hb1 (by first | assumption | (simp; done) | (simp; omega) | omega)
        clear hb1
        have hsz_1 := B1.size
        go_wp2_with fail
        refine (HB2.out _).mono ?_
        rintro e w2 ⟨rfl, hb2⟩
        have B2 : Below w.heap.size w w2 := bl_call (by repeat (first | exact Below.refl _ _ | exact Nat.le_refl _ | refine Below.alloc ?_ ?_ _ | refine Below.setCell ?_ ?_ _ | refine Below.drew ?_ | refine bl_drewN ?_ _ | (assumption) | refine bl_call ?_ (by assumption) ?_ | omega | (simp <;> omega))) hb2 (by first | assumption | (simp; done) | (simp; omega) | omega)
        clear hb2
        have hsz_2 := B2.size
        go_wp2_with fail
        refine (HAD.out _).mono ?_
        rintro e w3 ⟨rfl, hb3⟩
        have B3 : Below w.heap.size w w3 := bl_call (by repeat (first | exact Below.refl _ _ | exact Nat.le_refl _ | refine Below.alloc ?_ ?_ _ | refine Below.setCell ?_ ?_ _ | refine Below.drew ?_ | refine bl_drewN ?_ _ | (assumption) | refine bl_call ?_ (by assumption) ?_ | omega | (simp <;> omega))) hb3 (by first | assumption | (simp; done) | (simp; omega) | omega)
        clear hb3
        have hsz_3 := B3.size
        go_wp2_with fail
        refine (HT1.out _).mono ?_
        rintro e w4 ⟨rfl, hb4⟩
        have B4 : Below w.heap.size w w4 := bl_call (by repeat (first | exact Below.refl _ _ | exact Nat.le_refl _ | refine Below.alloc ?_ ?_ _ | refine Below.setCell ?_ ?_ _ | refine Below.drew ?_ | refine bl_drewN ?_ _ | (assumption) | refine bl_call ?_ (by assumption) ?_ | omega | (simp <;> omega))) hb4 (by first | assumption | (simp; done) | (simp; omega) | omega)
        clear hb4
        have hsz_4 := B4.size
        go_wp2_with fail
        refine (HT2.out _).mono ?_
        rintro e w5 ⟨rfl, hb5⟩
        have B5 : Below w.heap.size w w5 := bl_call (by repeat (first | exact Below.refl _ _ | exact Nat.le_refl _ | refine Below.alloc ?_ ?_ _ | refine Below.setCell ?_ ?_ _ | refine Below.drew ?_ | refine bl_drewN ?_ _ | (assumption) | refine bl_call ?_ (by assumption) ?_ | omega | (simp <;> omega))) hb5 (by first | assumption | (simp; done) | (simp; omega) | omega)
        clear hb5
        have hsz_5 := B5.size
        go_wp2_with fail
        refine (HV1.out _).mono ?_
        rintro e w6 ⟨rfl, hb6⟩
        have B6 : Below w.heap.size w w6 := bl_call (by repeat (first | exact Below.refl _ _ | exact Nat.le_refl _ | refine Below.alloc ?_ ?_ _ | refine Below.setCell ?_ ?_ _ | refine Below.drew ?_ | refine bl_drewN ?_ _ | (assumption) | refine bl_call ?_ (by assumption) ?_ | omega | (simp <;> omega))) hb6 (by first | assumption | (simp; done) | (simp; omega) | omega)
        clear hb6
        have hsz_6 := B6.size
        go_wp2_with fail
        refine (HV2.out _).mono ?_
        rintro e w7 ⟨rfl, hb7⟩
        have B7 : Below w.heap.size w w7 := bl_call (by repeat (first | exact Below.refl _ _ | exact Nat.le_refl _ | refine Below.alloc ?_ ?_ _ | refine Below.setCell ?_ ?_ _ | refine Below.drew ?_ | refine bl_drewN ?_ _ | (assumption) | refine bl_call ?_ (by assumption) ?_ | omega | (simp <;> omega))) hb7 (by first | assumption | (simp; done) | (simp; omega) | omega)
        clear hb7
        have hsz_7 := B7.size
        go_wp2_with fail
        refine (HPL.out _).mono ?_
        rintro e w8 ⟨rfl, hb8⟩
        have B8 : Below w.heap.size w w8 := bl_call (by repeat (first | exact Below.refl _ _ | exact Nat.le_refl _ | refine Below.alloc ?_ ?_ _ | refine Below.setCell ?_ ?_ _ | refine Below.drew ?_ | refine bl_drewN ?_ _ | (assumption) | refine bl_call ?_ (by assumption) ?_ | omega | (simp <;> omega))) hb8 (by first | assumption | (simp; done) | (simp; omega) | omega)
        clear hb8
        have hsz_8 := B8.size
        go_wp2_with fail
        refine (refNumber _ _ _).mono ?_
        rintro e w9 ⟨rfl, hb9⟩
        have cew8_heap_size9_0 : w9.cell? ⟨w8.heap.size, 0, none⟩ = some (.int .i64 X) := keep_cell hb9 (by first | assumption | (go_simp; done) | (simp; done) | simp [*])
        have zew8_heap_size9 : w8.heap.size < w9.heap.size := block_lt_of_cell cew8_heap_size9_0
        have cew8_heap_size9_1 : w9.cell? ⟨w8.heap.size, 1, none⟩ = some (.int .i64 Y) := keep_cell hb9 (by first | assumption | (go_simp; done) | (simp; done) | simp [*])
        have B9 : Below w.heap.size w w9 := bl_call (by repeat (first | exact Below.refl _ _ | exact Nat.le_refl _ | refine Below.alloc ?_ ?_ _ | refine Below.setCell ?_ ?_ _ | refine Below.drew ?_ | refine bl_drewN ?_ _ | (assumption) | refine bl_call ?_ (by assumption) ?_ | omega | (simp <;> omega))) hb9 (by first | assumption | (simp; done) | (simp; omega) | omega)
        clear hb9
        have hsz_9 := B9.size
        rw [H3.out]
        go_wp2_with fail
        refine (awake_any _).mono ?_
        rintro e w10 ⟨rfl, hb10⟩
        have cew8_heap_size10_0 : w10.cell? ⟨w8.heap.size, 0, none⟩ = some (.int .i64 X) := keep_cell hb10 (by first | assumption | (go_simp; done) | (simp; done) | simp [*])
        have zew8_heap_size10 : w8.heap.size < w10.heap.size := block_lt_of_cell cew8_heap_size10_0
        have cew8_heap_size10_1 : w10.cell? ⟨w8.heap.size, 1, none⟩ = some (.int .i64 Y) := keep_cell hb10 (by first | assumption | (go_simp; done) | (simp; done) | simp [*])
        have B10 : Below w.heap.size w w10 := bl_call (by repeat (first | exact Below.refl _ _ | exact Nat.le_refl _ | refine Below.alloc ?_ ?_ _ | refine Below.setCell ?_ ?_ _ | refine Below.drew ?_ | refine bl_drewN ?_ _ | (assumption) | refine bl_call ?_ (by assumption) ?_ | omega | (simp <;> omega))) hb10 (by first | assumption | (simp; done) | (simp; omega) | omega)
        clear hb10
        have hsz_10 := B10.size
        go_wp2_with fail
        go_ret
        exact ⟨rfl, (by repeat (first | exact Below.refl _ _ | exact Nat.le_refl _ | refine Below.alloc ?_ ?_ _ | refine Below.setCell ?_ ?_ _ | refine Below.drew ?_ | refine bl_drewN ?_ _ | (assumption) | refine bl_call ?_ (by assumption) ?_ | omega | (simp <;> omega)))⟩
    · have hAD := fun wx => Add_no p q wx hl1 hm1 (fun hh => h2 hh.2.1)
      rw [show addErr p q = 4 by unfold addErr; rw [if_neg (fun hh => h2 hh.2)]] at hAD
      have h2' : textOK q = false := by simpa using h2
      rw [h2'] at hT2
      clear h1 h2 h2' hl1 hm1
      generalize (⟨p.toArray⟩ : ByteArray) = ta at *
      generalize (⟨q.toArray⟩ : ByteArray) = tb at *
      have HB1 := Lib.hid hB1
      have HB2 := Lib.hid hB2
      have HT1 := Lib.hid hT1
      have HT2 := Lib.hid hT2
      have HAD := Lib.hid hAD
      clear hB1 hB2 hT1 hT2 hAD
      go_enter Tryd.func4, Tryd.ntmps4
      go_wp2_with fail
      refine (HB1.out _).mono ?_
      rintro e w1 ⟨rfl, hb1⟩
      have B1 : Below w.heap.size w w1 := bl_call (by repeat (first | exact Below.refl _ _ | exact Nat.le_refl _ | refine Below.alloc ?_ ?_ _ | refine Below.setCell ?_ ?_ _ | refine Below.drew ?_ | refine bl_drewN ?_ _ | (assumption) | refine bl_call ?_ (by assumption) ?_ | omega | (simp <;> omega))) hb1 (by first | assumption | (simp; done) | (simp; omega) | omega)
      clear hb1
      have hsz_1 := B1.size
      go_wp2_with fail
      refine (HB2.out _).mono ?_
      rintro e w2 ⟨rfl, hb2⟩
      have B2 : Below w.heap.size w w2 := bl_call (by repeat (first | exact Below.refl _ _ | exact Nat.le_refl _ | refine Below.alloc ?_ ?_ _ | refine Below.setCell ?_ ?_ _ | refine Below.drew ?_ | refine bl_drewN ?_ _ | (assumption) | refine bl_call ?_ (by assumption) ?_ | omega | (simp <;> omega))) hb2 (by first | assumption | (simp; done) | (simp; omega) | omega)
      clear hb2
      have hsz_2 := B2.size
      go_wp2_with fail
      refine (HAD.out _).mono ?_
      rintro e w3 ⟨rfl, hb3⟩
      have B3 : Below w.heap.size w w3 := bl_call (by repeat (first | exact Below.refl _ _ | exact Nat.le_refl _ | refine Below.alloc ?_ ?_ _ | refine Below.setCell ?_ ?_ _ | refine Below.drew ?_ | refine bl_drewN ?_ _ | (assumption) | refine bl_call ?_ (by assumption) ?_ | omega | (simp <;> omega))) hb3 (by first | assumption | (simp; done) | (simp; omega) | omega)
      clear hb3
      have hsz_3 := B3.size
      go_wp2_with fail
      refine (HT1.out _).mono ?_
      rintro e w4 ⟨rfl, hb4⟩
      have B4 : Below w.heap.size w w4 := bl_call (by repeat (first | exact Below.refl _ _ | exact Nat.le_refl _ | refine Below.alloc ?_ ?_ _ | refine Below.setCell ?_ ?_ _ | refine Below.drew ?_ | refine bl_drewN ?_ _ | (assumption) | refine bl_call ?_ (by assumption) ?_ | omega | (simp <;> omega))) hb4 (by first | assumption | (simp; done) | (simp; omega) | omega)
      clear hb4
      have hsz_4 := B4.size
      go_wp2_with fail
      refine (HT2.out _).mono ?_
      rintro e w5 ⟨rfl, hb5⟩
      have B5 : Below w.heap.size w w5 := bl_call (by repeat (first | exact Below.refl _ _ | exact Nat.le_refl _ | refine Below.alloc ?_ ?_ _ | refine Below.setCell ?_ ?_ _ | refine Below.drew ?_ | refine bl_drewN ?_ _ | (assumption) | refine bl_call ?_ (by assumption) ?_ | omega | (simp <;> omega))) hb5 (by first | assumption | (simp; done) | (simp; omega) | omega)
      clear hb5
      have hsz_5 := B5.size
      go_wp2_with fail
      refine (awake_any _).mono ?_
      rintro e w6 ⟨rfl, hb6⟩
      have B6 : Below w.heap.size w w6 := bl_call (by repeat (first | exact Below.refl _ _ | exact Nat.le_refl _ | refine Below.alloc ?_ ?_ _ | refine Below.setCell ?_ ?_ _ | refine Below.drew ?_ | refine bl_drewN ?_ _ | (assumption) | refine bl_call ?_ (by assumption) ?_ | omega | (simp <;> omega))) hb6 (by first | assumption | (simp; done) | (simp; omega) | omega)
      clear hb6
      have hsz_6 := B6.size
      go_wp2_with fail
      go_ret
      exact ⟨rfl, (by repeat (first | exact Below.refl _ _ | exact Nat.le_refl _ | refine Below.alloc ?_ ?_ _ | refine Below.setCell ?_ ?_ _ | refine Below.drew ?_ | refine bl_drewN ?_ _ | (assumption) | refine bl_call ?_ (by assumption) ?_ | omega | (simp <;> omega)))⟩
  · have hAD := fun wx => Add_no p q wx hl1 hm1 (fun hh => h1 hh.1)
    rw [show addErr p q = 4 by unfold addErr; rw [if_neg (fun hh => h1 hh.1)]] at hAD
    have h1' : textOK p = false := by simpa using h1
    rw [h1'] at hT1
    clear h1 h1' hl1 hm1 hT2
    generalize (⟨p.toArray⟩ : ByteArray) = ta at *
    generalize (⟨q.toArray⟩ : ByteArray) = tb at *
    have HB1 := Lib.hid hB1
    have HB2 := Lib.hid hB2
    have HT1 := Lib.hid hT1
    have HAD := Lib.hid hAD
    clear hB1 hB2 hT1 hAD
    go_enter Tryd.func4, Tryd.ntmps4
    go_wp2_with fail
    refine (HB1.out _).mono ?_
    rintro e w1 ⟨rfl, hb1⟩
    have B1 : Below w.heap.size w w1 := bl_call (by repeat (first | exact Below.refl _ _ | exact Nat.le_refl _ | refine Below.alloc ?_ ?_ _ | refine Below.setCell ?_ ?_ _ | refine Below.drew ?_ | refine bl_drewN ?_ _ | (assumption) | refine bl_call ?_ (by assumption) ?_ | omega | (simp <;> omega))) hb1 (by first | assumption | (simp; done) | (simp; omega) | omega)
    clear hb1
    have hsz_1 := B1.size
    go_wp2_with fail
    refine (HB2.out _).mono ?_
    rintro e w2 ⟨rfl, hb2⟩
    have B2 : Below w.heap.size w w2 := bl_call (by repeat (first | exact Below.refl _ _ | exact Nat.le_refl _ | refine Below.alloc ?_ ?_ _ | refine Below.setCell ?_ ?_ _ | refine Below.drew ?_ | refine bl_drewN ?_ _ | (assumption) | refine bl_call ?_ (by assumption) ?_ | omega | (simp <;> omega))) hb2 (by first | assumption | (simp; done) | (simp; omega) | omega)
    clear hb2
    have hsz_2 := B2.size
    go_wp2_with fail
    refine (HAD.out _).mono ?_
    rintro e w3 ⟨rfl, hb3⟩
    have B3 : Below w.heap.size w w3 := bl_call (by repeat (first | exact Below.refl _ _ | exact Nat.le_refl _ | refine Below.alloc ?_ ?_ _ | refine Below.setCell ?_ ?_ _ | refine Below.drew ?_ | refine bl_drewN ?_ _ | (assumption) | refine bl_call ?_ (by assumption) ?_ | omega | (simp <;> omega))) hb3 (by first | assumption | (simp; done) | (simp; omega) | omega)
    clear hb3
    have hsz_3 := B3.size
    go_wp2_with fail
    refine (HT1.out _).mono ?_
    rintro e w4 ⟨rfl, hb4⟩
    have B4 : Below w.heap.size w w4 := bl_call (by repeat (first | exact Below.refl _ _ | exact Nat.le_refl _ | refine Below.alloc ?_ ?_ _ | refine Below.setCell ?_ ?_ _ | refine Below.drew ?_ | refine bl_drewN ?_ _ | (assumption) | refine bl_call ?_ (by assumption) ?_ | omega | (simp <;> omega))) hb4 (by first | assumption | (simp; done) | (simp; omega) | omega)
    clear hb4
    have hsz_4 := B4.size
    go_wp2_with fail
    refine (awake_any _).mono ?_
    rintro e w5 ⟨rfl, hb5⟩
    have B5 : Below w.heap.size w w5 := bl_call (by repeat (first | exact Below.refl _ _ | exact Nat.le_refl _ | refine Below.alloc ?_ ?_ _ | refine Below.setCell ?_ ?_ _ | refine Below.drew ?_ | refine bl_drewN ?_ _ | (assumption) | refine bl_call ?_ (by assumption) ?_ | omega | (simp <;> omega))) hb5 (by first | assumption | (simp; done) | (simp; omega) | omega)
    clear hb5
    have hsz_5 := B5.size
    go_wp2_with fail
    go_ret
    exact ⟨rfl, (by repeat (first | exact Below.refl _ _ | exact Nat.le_refl _ | refine Below.alloc ?_ ?_ _ | refine Below.setCell ?_ ?_ _ | refine Below.drew ?_ | refine bl_drewN ?_ _ | (assumption) | refine bl_call ?_ (by assumption) ?_ | omega | (simp <;> omega)))⟩
namespace gaugeAdds
open Go.ChangeShapes Go.WideShapes Go.ChangeAt Go.RowKit
open Go.Lib Go.Joins
open Go.ChangeMaps (open_string shut_string)
set_option maxRecDepth 100000 in
theorem contract (H : Type) (enc : TypeId × Value → H) (W : World) (base : Nat) (args : Array Value) (ds gs : List (DataW H)) (before : List MemPlace)
    (hval : ∀ (j : Nat) t v, Tryd.f4.params[j]? = some t → args[j]? = some v → Value.okWide Tryd.prog W .any base t v)
    (hW : DataW.Whole enc Tryd.prog Tryd.f4.params.toList Rows.gaugeAddsSpec.vars false W args.toList ds gs before) :
    Calls Tryd.prog 4 args W fun e W' => ∃ v, e = .returned v ∧ Rows.gaugeAddsSpec.post enc Tryd.prog Tryd.f4 false true false false W args v W' := by
  have hW' := hW
  obtain ⟨p, q, hA0, hV, rfl, hfz, hnd⟩ := hW
  have hA : DataW.TrodAll enc Tryd.prog W 0 (fun _ => true) true Tryd.f4.params.toList args.toList ds p := hA0
  rw [Tryd.params4] at hA hval
  obtain ⟨v0, vs0, d0, ds0, p0, q0, hargs, rfl, rfl, h0, r0⟩ := trodAll_cons hA
  obtain ⟨v1, vs1, d1, ds1, p1, q1, rfl, rfl, rfl, h1, r1⟩ := trodAll_cons r0
  obtain ⟨rfl, rfl, rfl⟩ := trodAll_nil r1
  obtain rfl : args = #[v0, v1] := by cases args; simp_all
  obtain ⟨rfl, rfl⟩ := trodVars_none hV
  obtain ⟨x0, rfl, rfl, rfl, wx0⟩ := open_string Tryd.underlying9 (hval 0 9 v0 rfl rfl) h0
  obtain ⟨x1, rfl, rfl, rfl, wx1⟩ := open_string Tryd.underlying9 (hval 1 9 v1 rfl rfl) h1
  clear hA0
  simp only [List.append_nil] at hW'
  have es0 : x0 = ⟨x0.data.toList.toArray⟩ := by cases x0; simp
  have es1 : x1 = ⟨x1.data.toList.toArray⟩ := by cases x1; simp
  refine (show Calls Tryd.prog 4 _ W _ from (GaugeAdds_walk x0.data.toList x1.data.toList W (by exact wx0) (by exact wx1))).mono fun e W' ⟨he, hb⟩ => ?_
  subst he
  exact ⟨_, rfl, _, _, _, [], [], [], hW', trodAll_mk1 (shut_bool Tryd.underlying4 _), trodAll_cons_mk (shut_string Tryd.underlying9 wx0) (trodAll_cons_mk (shut_string Tryd.underlying9 wx1) (trodAll_mk0)), rfl, hb.frame _, fun h => by cases h⟩
theorem reads (os : Os) {H : Type} (enc : TypeId × Value → H) : ∃ places, DataW.whole enc Tryd.prog ((laidWorld os).forCall (fun _ _ => 0) ⟨#[], #[.string ⟨#[]⟩, .string ⟨#[]⟩], []⟩).memory Tryd.f4.params.toList Rows.gaugeAddsSpec.vars false (#[.string ⟨#[]⟩, .string ⟨#[]⟩] : Array Value).toList 8 = some ([.lit (.string []), .lit (.string [])], [], places) :=
  ⟨[], by kernel_rfl⟩
set_option maxRecDepth 100000 in
theorem lifted (os : Os) (started : os.Started) (H : Type) (enc : TypeId × Value → H) (F : Stop.Interp) :
    ReturnsInHanded {} Tryd.checked os 4 .any ((OpenSpec.ofChange Rows.gaugeAddsSpec).preRow enc Tryd.prog Tryd.f4 Rows.gaugeAddsRow.domain false Rows.gaugeAddsRow.laid) (((OpenSpec.ofChange Rows.gaugeAddsSpec).at F).post enc Tryd.prog Tryd.f4 false true false false) := by
  obtain ⟨places, hx⟩ := reads os enc
  refine returnsInHanded_of_row (C := Tryd.checked) (s := OpenSpec.ofChange Rows.gaugeAddsSpec) own started (by kernel_rfl) Tryd.func4
    (witness_row_at (enc := enc) (C := Tryd.checked) false (laidWorld os) #[.string ⟨#[]⟩, .string ⟨#[]⟩] rfl (by kernel_rfl) (by kernel_rfl) (by kernel_rfl)
      (OpenSpec.preRow_of_cond 8 hx (by kernel_rfl) (fun k hk => by cases hk) (by kernel_rfl) (laid_met os _))) ?_
  intro W base args ds gs before hval hW _ _ _ _ _ _
  exact contract H enc W base args ds gs before hval hW
theorem said : Rows.GaugeAddsSaid :=
  OpenClaim.holds_of_cond 4 Tryd.f4 rfl rfl rfl rfl rfl rfl rfl ⟨rfl, rfl, rfl, rfl, rfl⟩ rfl rfl rfl rfl rfl (by kernel_rfl) Tryd.func4 (by kernel_rfl)
    (of_decide_eq_true (by kernel_rfl)) (by unfold Func.isWrapper; first | (rw [if_pos (by decide +kernel)]; kernel_rfl) | (rw [if_neg (by decide +kernel)]; exact ⟨rfl, rfl⟩))
    (fun os started H enc _ F => by rw [OpenClaim.pre_eq_preRow]; exact lifted os started H enc F)
theorem plain (f : FuncId) (fn : Func) (hf : Tryd.pinned.checked.prog.funcNamed "remould/remouldlaw04.GaugeAdds" = some f) (hfn : Tryd.pinned.checked.prog.funcs[f]? = some fn) :
    true = Tryd.pinned.checked.prog.looks [] ∧ ∀ (j : Nat) t, fn.params[j]? = some t → Tryd.pinned.checked.prog.wantsStandIn t = false := by
  obtain rfl : f = 4 := Option.some.inj ((show Tryd.prog.funcNamed "remould/remouldlaw04.GaugeAdds" = some 4 by kernel_rfl).symm.trans hf) |>.symm
  obtain rfl : fn = Tryd.f4 := (Option.some.inj (Tryd.func4.symm.trans hfn)).symm
  refine ⟨by kernel_rfl, fun j t ht => ?_⟩
  rw [Tryd.params4] at ht
  have hm : t ∈ [9, 9] := by simpa using Array.mem_of_getElem? ht
  have hall : ([9, 9].all fun u => !Tryd.prog.wantsStandIn u) = true := by kernel_rfl
  exact (show Tryd.prog.wantsStandIn t = false by simpa using List.all_eq_true.1 hall t (by simpa using hm))
theorem card : Rows.GaugeAddsCardSaid :=
  Claim7.holds_tied_plain_at .later [] _ _ _ _ said (fun _ h => by cases h) (by kernel_rfl) (fun _ h => by cases h) gaugeAdds_row_tie rfl ⟨rfl, rfl⟩ (by kernel_rfl) rfl plain (by kernel_rfl)
end gaugeAdds
theorem GaugeAdds_holds : Rows.GaugeAddsCardSaid := gaugeAdds.card
end Go.Proofs.YtgocloilagcfoabDoor
