/- Add returns the plain text of a sum, or the error. -/
import Derived.Test.YtgocloilagcfoabDoorG10
namespace Go.Proofs.YtgocloilagcfoabDoor
open Go.RowKit
attribute [local go_sem ↓] Go.wp_at_zero Go.wp_at_succ

theorem vl_bd (l : List UInt8) : ∀ i, i ≤ 82 → (∀ c ∈ l, 48 ≤ c.toNat ∧ c.toNat ≤ 51) → -600000000 * (l.length : Int) ≤ (GM.vl i l).1 ∧ (GM.vl i l).1 ≤ 600000000 * (l.length : Int) ∧ -600000000 * (l.length : Int) ≤ (GM.vl i l).2 ∧ (GM.vl i l).2 ≤ 600000000 * (l.length : Int) := by
  induction l with
  | nil => intro i _ _; simp [GM.vl]
  | cons c l ih =>
    intro i hi h
    obtain ⟨h1, h2⟩ := h c List.mem_cons_self
    have ih' := ih (i - 1) (by omega) (fun d hd => h d (List.mem_cons_of_mem _ hd))
    obtain ⟨p1, p2, p3, p4⟩ := pt_bd ⟨i - 1, by omega⟩
    have e : GM.vl i (c :: l) = GM.add ((((c.toNat : Int) - 48) * (GM.pt (i - 1)).1, ((c.toNat : Int) - 48) * (GM.pt (i - 1)).2)) (GM.vl (i - 1) l) := rfl
    rw [e]
    unfold GM.add
    dsimp only at *
    generalize (GM.pt (i - 1)).1 = p at *
    generalize (GM.pt (i - 1)).2 = q at *
    obtain ⟨t1, t2⟩ := mul_bd (a := (c.toNat : Int) - 48) (b := p) (A := 3) (B := 200000000) (by omega) (by omega) p1 p2
    obtain ⟨t3, t4⟩ := mul_bd (a := (c.toNat : Int) - 48) (b := q) (A := 3) (B := 200000000) (by omega) (by omega) p3 p4
    simp only [Int.reduceMul, Int.reduceNeg, List.length_cons] at *
    push_cast
    omega
theorem text_digs (l : List UInt8) (h : textOK l = true) : (∀ c ∈ (cutL l).1 ++ (if (cutL l).2.2 = true then (cutL l).2.1 else []), 48 ≤ c.toNat ∧ c.toNat ≤ 51) ∧ ((cutL l).1 ++ (if (cutL l).2.2 = true then (cutL l).2.1 else [])).length ≤ 80 ∧ (cutL l).1.length ≤ 40 := by
  unfold textOK at h
  simp only [Bool.and_eq_true] at h
  obtain ⟨h1, h2⟩ := h
  obtain ⟨a1, a2, a3⟩ := partOK_len1 h1
  split
  · rename_i hp
    rw [hp] at h2
    simp at h2
    obtain ⟨b1, b2, b3⟩ := partOK_len1 h2
    refine ⟨fun c hc => ?_, by rw [List.length_append]; omega, a2⟩
    rcases List.mem_append.1 hc with hc | hc
    · exact a3 c hc
    · exact b3 c hc
  · exact ⟨fun c hc => a3 c (by simpa using hc), by simp; omega, a2⟩
theorem val_bd (l : List UInt8) (h : textOK l = true) : -48000000000 ≤ (valOf l).1 ∧ (valOf l).1 ≤ 48000000000 ∧ -48000000000 ≤ (valOf l).2 ∧ (valOf l).2 ≤ 48000000000 := by
  obtain ⟨h1, h2, h3⟩ := text_digs l h
  have := vl_bd _ ((cutL l).1.length + 40) (by omega) h1
  unfold valOf
  omega

theorem demand_yesB (c : Int) (w : World) : Calls Tryd.prog 55 #[.bool true, .int .i64 c] w fun e w' => e = .returned (.tuple #[]) ∧ Below w.heap.size w w' :=
  (demand_yes c w).mono (fun _ _ h => ⟨h.1, h.2 ▸ Below.refl _ _⟩)
/-- what the panics of Add are -/
def addErr (l m : List UInt8) : Int := if textOK l = true ∧ textOK m = true then 5 else 4
set_option maxRecDepth 100000 in
set_option maxHeartbeats 2000000 in
theorem add1_yes (l m : List UInt8) (gs gt gx : Nat) (u : Value) (w : World) (hl : l.length ≤ 1000) (hm : m.length ≤ 1000) (h1 : textOK l = true) (h2 : textOK m = true)
    (h3 : isN ((valOf l).1 + (valOf m).1) ((valOf l).2 + (valOf m).2) = true)
    (hs : w.heap[gs]? = some (.cells #[.string ⟨l.toArray⟩] 9 (0, 0))) (ht : w.heap[gt]? = some (.cells #[.string ⟨m.toArray⟩] 9 (0, 0))) (hx : w.heap[gx]? = some (.cells #[u] 9 (0, 0))) :
    Calls Tryd.prog 52 #[.pointer (some ⟨gs, 0, none⟩), .pointer (some ⟨gt, 0, none⟩), .pointer (some ⟨gx, 0, none⟩)] w fun e w' => e = .returned (.tuple #[]) ∧ BelX [gx] w w' ∧ w'.heap[gx]? = some (.cells #[.string ⟨(GM.textOf (GM.add (valOf l) (valOf m))).toArray⟩] 9 (0, 0)) := by
  have HA := Lib.hid (fun wx => read_yes l wx hl h1)
  have HB := Lib.hid (fun wx => read_yes m wx hm h2)
  have hab := (GM.sg_add _ _).1 (num_nonneg l h1) (num_nonneg m h2)
  have ba := val_bd l h1
  have bb := val_bd m h2
  unfold GM.add at *
  obtain ⟨⟨X1, Y1⟩, e1⟩ : ∃ p, valOf l = p := ⟨_, rfl⟩
  obtain ⟨⟨X2, Y2⟩, e2⟩ : ∃ p, valOf m = p := ⟨_, rfl⟩
  rw [e1] at ba h3 hab HA ⊢
  rw [e2] at bb h3 hab HB ⊢
  dsimp only at ba bb h3 hab HA HB ⊢
  have HW := Lib.hid (fun wx => write_any (X1 + X2) (Y1 + Y2) wx ((isN_iff _ _).1 h3) hab)
  obtain ⟨S, hS⟩ : ∃ S : ByteArray, ⟨(GM.textOf (X1 + X2, Y1 + Y2)).toArray⟩ = S := ⟨_, rfl⟩
  rw [hS] at HW ⊢
  have HP := Lib.hid (fun wx => plus_any X1 Y1 X2 Y2 wx (by omega) (by omega) (by omega) (by omega))
  obtain ⟨X, eX⟩ : ∃ X, X1 + X2 = X := ⟨_, rfl⟩
  obtain ⟨Y, eY⟩ : ∃ Y, Y1 + Y2 = Y := ⟨_, rfl⟩
  rw [eX, eY] at HW HP h3
  have H3 := Lib.hid h3
  have HX := Lib.hid hx
  clear hx h1 h2 h3 hl hm hab ba bb e1 e2 eX eY hS
  have c0 := row1_0 hs
  have c1 := row1_0 ht
  have z0 := blk_lt hs
  have z1 := blk_lt ht
  clear hs ht
  generalize (⟨l.toArray⟩ : ByteArray) = ta at *
  generalize (⟨m.toArray⟩ : ByteArray) = tb at *
  go_enter Tryd.func52, Tryd.ntmps52
  go_wp2_with fail
  refine (HA.out _).mono ?_
  rintro e w1 ⟨rfl, hb1⟩
  have cegs1_0 : w1.cell? ⟨gs, 0, none⟩ = some (.string ta) := keep_cell hb1 (by first | assumption | (go_simp; done) | (simp; done) | simp [*])
  have zegs1 : gs < w1.heap.size := block_lt_of_cell cegs1_0
  have cegt1_0 : w1.cell? ⟨gt, 0, none⟩ = some (.string tb) := keep_cell hb1 (by first | assumption | (go_simp; done) | (simp; done) | simp [*])
  have zegt1 : gt < w1.heap.size := block_lt_of_cell cegt1_0
  have B1 : Below w.heap.size w w1 := bl_call (by repeat (first | exact Below.refl _ _ | exact Nat.le_refl _ | refine Below.alloc ?_ ?_ _ | refine Below.setCell ?_ ?_ _ | refine Below.drew ?_ | refine bl_drewN ?_ _ | (assumption) | refine bl_call ?_ (by assumption) ?_ | omega | (simp <;> omega))) hb1 (by first | assumption | (simp; done) | (simp; omega) | omega)
  clear hb1
  have hsz_1 := B1.size
  go_wp2_with fail
  refine (HB.out _).mono ?_
  rintro e w2 ⟨rfl, hb2⟩
  have cegs2_0 : w2.cell? ⟨gs, 0, none⟩ = some (.string ta) := keep_cell hb2 (by first | assumption | (go_simp; done) | (simp; done) | simp [*])
  have zegs2 : gs < w2.heap.size := block_lt_of_cell cegs2_0
  have cegt2_0 : w2.cell? ⟨gt, 0, none⟩ = some (.string tb) := keep_cell hb2 (by first | assumption | (go_simp; done) | (simp; done) | simp [*])
  have zegt2 : gt < w2.heap.size := block_lt_of_cell cegt2_0
  have cew1_heap_size2_0 : w2.cell? ⟨w1.heap.size, 0, none⟩ = some (.int .i64 X1) := keep_cell hb2 (by first | assumption | (go_simp; done) | (simp; done) | simp [*])
  have zew1_heap_size2 : w1.heap.size < w2.heap.size := block_lt_of_cell cew1_heap_size2_0
  have cew1_heap_size2_1 : w2.cell? ⟨w1.heap.size, 1, none⟩ = some (.int .i64 Y1) := keep_cell hb2 (by first | assumption | (go_simp; done) | (simp; done) | simp [*])
  have B2 : Below w.heap.size w w2 := bl_call (by repeat (first | exact Below.refl _ _ | exact Nat.le_refl _ | refine Below.alloc ?_ ?_ _ | refine Below.setCell ?_ ?_ _ | refine Below.drew ?_ | refine bl_drewN ?_ _ | (assumption) | refine bl_call ?_ (by assumption) ?_ | omega | (simp <;> omega))) hb2 (by first | assumption | (simp; done) | (simp; omega) | omega)
  clear hb2
  have hsz_2 := B2.size
  go_wp2_with fail
  refine (HP.out _).mono ?_
  rintro e w3 ⟨rfl, hb3⟩
  have cegs3_0 : w3.cell? ⟨gs, 0, none⟩ = some (.string ta) := keep_cell hb3 (by first | assumption | (go_simp; done) | (simp; done) | simp [*])
  have zegs3 : gs < w3.heap.size := block_lt_of_cell cegs3_0
  have cegt3_0 : w3.cell? ⟨gt, 0, none⟩ = some (.string tb) := keep_cell hb3 (by first | assumption | (go_simp; done) | (simp; done) | simp [*])
  have zegt3 : gt < w3.heap.size := block_lt_of_cell cegt3_0
  have cew1_heap_size3_0 : w3.cell? ⟨w1.heap.size, 0, none⟩ = some (.int .i64 X1) := keep_cell hb3 (by first | assumption | (go_simp; done) | (simp; done) | simp [*])
  have zew1_heap_size3 : w1.heap.size < w3.heap.size := block_lt_of_cell cew1_heap_size3_0
  have cew1_heap_size3_1 : w3.cell? ⟨w1.heap.size, 1, none⟩ = some (.int .i64 Y1) := keep_cell hb3 (by first | assumption | (go_simp; done) | (simp; done) | simp [*])
  have cew2_heap_size3_0 : w3.cell? ⟨w2.heap.size, 0, none⟩ = some (.int .i64 X2) := keep_cell hb3 (by first | assumption | (go_simp; done) | (simp; done) | simp [*])
  have zew2_heap_size3 : w2.heap.size < w3.heap.size := block_lt_of_cell cew2_heap_size3_0
  have cew2_heap_size3_1 : w3.cell? ⟨w2.heap.size, 1, none⟩ = some (.int .i64 Y2) := keep_cell hb3 (by first | assumption | (go_simp; done) | (simp; done) | simp [*])
  have B3 : Below w.heap.size w w3 := bl_call (by repeat (first | exact Below.refl _ _ | exact Nat.le_refl _ | refine Below.alloc ?_ ?_ _ | refine Below.setCell ?_ ?_ _ | refine Below.drew ?_ | refine bl_drewN ?_ _ | (assumption) | refine bl_call ?_ (by assumption) ?_ | omega | (simp <;> omega))) hb3 (by first | assumption | (simp; done) | (simp; omega) | omega)
  clear hb3
  have hsz_3 := B3.size
  go_wp2_with fail
  refine (isNum _ _ _).mono ?_
  rintro e w4 ⟨rfl, hb4⟩
  have cegs4_0 : w4.cell? ⟨gs, 0, none⟩ = some (.string ta) := keep_cell hb4 (by first | assumption | (go_simp; done) | (simp; done) | simp [*])
  have zegs4 : gs < w4.heap.size := block_lt_of_cell cegs4_0
  have cegt4_0 : w4.cell? ⟨gt, 0, none⟩ = some (.string tb) := keep_cell hb4 (by first | assumption | (go_simp; done) | (simp; done) | simp [*])
  have zegt4 : gt < w4.heap.size := block_lt_of_cell cegt4_0
  have cew1_heap_size4_0 : w4.cell? ⟨w1.heap.size, 0, none⟩ = some (.int .i64 X1) := keep_cell hb4 (by first | assumption | (go_simp; done) | (simp; done) | simp [*])
  have zew1_heap_size4 : w1.heap.size < w4.heap.size := block_lt_of_cell cew1_heap_size4_0
  have cew1_heap_size4_1 : w4.cell? ⟨w1.heap.size, 1, none⟩ = some (.int .i64 Y1) := keep_cell hb4 (by first | assumption | (go_simp; done) | (simp; done) | simp [*])
  have cew2_heap_size4_0 : w4.cell? ⟨w2.heap.size, 0, none⟩ = some (.int .i64 X2) := keep_cell hb4 (by first | assumption | (go_simp; done) | (simp; done) | simp [*])
  have zew2_heap_size4 : w2.heap.size < w4.heap.size := block_lt_of_cell cew2_heap_size4_0
  have cew2_heap_size4_1 : w4.cell? ⟨w2.heap.size, 1, none⟩ = some (.int .i64 Y2) := keep_cell hb4 (by first | assumption | (go_simp; done) | (simp; done) | simp [*])
  have cew3_heap_size4_0 : w4.cell? ⟨w3.heap.size, 0, none⟩ = some (.int .i64 X) := keep_cell hb4 (by first | assumption | (go_simp; done) | (simp; done) | simp [*])
  have zew3_heap_size4 : w3.heap.size < w4.heap.size := block_lt_of_cell cew3_heap_size4_0
  have cew3_heap_size4_1 : w4.cell? ⟨w3.heap.size, 1, none⟩ = some (.int .i64 Y) := keep_cell hb4 (by first | assumption | (go_simp; done) | (simp; done) | simp [*])
  have B4 : Below w.heap.size w w4 := bl_call (by repeat (first | exact Below.refl _ _ | exact Nat.le_refl _ | refine Below.alloc ?_ ?_ _ | refine Below.setCell ?_ ?_ _ | refine Below.drew ?_ | refine bl_drewN ?_ _ | (assumption) | refine bl_call ?_ (by assumption) ?_ | omega | (simp <;> omega))) hb4 (by first | assumption | (simp; done) | (simp; omega) | omega)
  clear hb4
  have hsz_4 := B4.size
  rw [H3.out]
  go_wp2_with fail
  refine (demand_yesB _ _).mono ?_
  rintro e w5 ⟨rfl, hb5⟩
  have cegs5_0 : w5.cell? ⟨gs, 0, none⟩ = some (.string ta) := keep_cell hb5 (by first | assumption | (go_simp; done) | (simp; done) | simp [*])
  have zegs5 : gs < w5.heap.size := block_lt_of_cell cegs5_0
  have cegt5_0 : w5.cell? ⟨gt, 0, none⟩ = some (.string tb) := keep_cell hb5 (by first | assumption | (go_simp; done) | (simp; done) | simp [*])
  have zegt5 : gt < w5.heap.size := block_lt_of_cell cegt5_0
  have cew1_heap_size5_0 : w5.cell? ⟨w1.heap.size, 0, none⟩ = some (.int .i64 X1) := keep_cell hb5 (by first | assumption | (go_simp; done) | (simp; done) | simp [*])
  have zew1_heap_size5 : w1.heap.size < w5.heap.size := block_lt_of_cell cew1_heap_size5_0
  have cew1_heap_size5_1 : w5.cell? ⟨w1.heap.size, 1, none⟩ = some (.int .i64 Y1) := keep_cell hb5 (by first | assumption | (go_simp; done) | (simp; done) | simp [*])
  have cew2_heap_size5_0 : w5.cell? ⟨w2.heap.size, 0, none⟩ = some (.int .i64 X2) := keep_cell hb5 (by first | assumption | (go_simp; done) | (simp; done) | simp [*])
  have zew2_heap_size5 : w2.heap.size < w5.heap.size := block_lt_of_cell cew2_heap_size5_0
  have cew2_heap_size5_1 : w5.cell? ⟨w2.heap.size, 1, none⟩ = some (.int .i64 Y2) := keep_cell hb5 (by first | assumption | (go_simp; done) | (simp; done) | simp [*])
  have cew3_heap_size5_0 : w5.cell? ⟨w3.heap.size, 0, none⟩ = some (.int .i64 X) := keep_cell hb5 (by first | assumption | (go_simp; done) | (simp; done) | simp [*])
  have zew3_heap_size5 : w3.heap.size < w5.heap.size := block_lt_of_cell cew3_heap_size5_0
  have cew3_heap_size5_1 : w5.cell? ⟨w3.heap.size, 1, none⟩ = some (.int .i64 Y) := keep_cell hb5 (by first | assumption | (go_simp; done) | (simp; done) | simp [*])
  have B5 : Below w.heap.size w w5 := bl_call (by repeat (first | exact Below.refl _ _ | exact Nat.le_refl _ | refine Below.alloc ?_ ?_ _ | refine Below.setCell ?_ ?_ _ | refine Below.drew ?_ | refine bl_drewN ?_ _ | (assumption) | refine bl_call ?_ (by assumption) ?_ | omega | (simp <;> omega))) hb5 (by first | assumption | (simp; done) | (simp; omega) | omega)
  clear hb5
  have hsz_5 := B5.size
  go_wp2_with fail
  refine (HW.out _).mono ?_
  rintro e w6 ⟨rfl, hb6⟩
  have cegs6_0 : w6.cell? ⟨gs, 0, none⟩ = some (.string ta) := keep_cell hb6 (by first | assumption | (go_simp; done) | (simp; done) | simp [*])
  have zegs6 : gs < w6.heap.size := block_lt_of_cell cegs6_0
  have cegt6_0 : w6.cell? ⟨gt, 0, none⟩ = some (.string tb) := keep_cell hb6 (by first | assumption | (go_simp; done) | (simp; done) | simp [*])
  have zegt6 : gt < w6.heap.size := block_lt_of_cell cegt6_0
  have cew1_heap_size6_0 : w6.cell? ⟨w1.heap.size, 0, none⟩ = some (.int .i64 X1) := keep_cell hb6 (by first | assumption | (go_simp; done) | (simp; done) | simp [*])
  have zew1_heap_size6 : w1.heap.size < w6.heap.size := block_lt_of_cell cew1_heap_size6_0
  have cew1_heap_size6_1 : w6.cell? ⟨w1.heap.size, 1, none⟩ = some (.int .i64 Y1) := keep_cell hb6 (by first | assumption | (go_simp; done) | (simp; done) | simp [*])
  have cew2_heap_size6_0 : w6.cell? ⟨w2.heap.size, 0, none⟩ = some (.int .i64 X2) := keep_cell hb6 (by first | assumption | (go_simp; done) | (simp; done) | simp [*])
  have zew2_heap_size6 : w2.heap.size < w6.heap.size := block_lt_of_cell cew2_heap_size6_0
  have cew2_heap_size6_1 : w6.cell? ⟨w2.heap.size, 1, none⟩ = some (.int .i64 Y2) := keep_cell hb6 (by first | assumption | (go_simp; done) | (simp; done) | simp [*])
  have cew3_heap_size6_0 : w6.cell? ⟨w3.heap.size, 0, none⟩ = some (.int .i64 X) := keep_cell hb6 (by first | assumption | (go_simp; done) | (simp; done) | simp [*])
  have zew3_heap_size6 : w3.heap.size < w6.heap.size := block_lt_of_cell cew3_heap_size6_0
  have cew3_heap_size6_1 : w6.cell? ⟨w3.heap.size, 1, none⟩ = some (.int .i64 Y) := keep_cell hb6 (by first | assumption | (go_simp; done) | (simp; done) | simp [*])
  have B6 : Below w.heap.size w w6 := bl_call (by repeat (first | exact Below.refl _ _ | exact Nat.le_refl _ | refine Below.alloc ?_ ?_ _ | refine Below.setCell ?_ ?_ _ | refine Below.drew ?_ | refine bl_drewN ?_ _ | (assumption) | refine bl_call ?_ (by assumption) ?_ | omega | (simp <;> omega))) hb6 (by first | assumption | (simp; done) | (simp; omega) | omega)
  clear hb6
  have hsz_6 := B6.size
  have hx6 : w6.heap[gx]? = some (.cells #[u] 9 (0, 0)) := (B6.block gx (blk_lt HX.out)).trans HX.out
  have d0 := row1_0 hx6
  have d2 := row_f hx6
  have zx := blk_lt HX.out
  have HX6 := Lib.hid hx6
  clear hx6
  go_wp2_with fail
  go_end0
  exact ⟨rfl, ((BelX.ofBelow B6).wider (bs' := [gx]) (by simp)).setOld (p := ⟨gx, 0, none⟩) (by simp) _, blk_set1 HX6.out⟩
set_option maxRecDepth 100000 in
set_option maxHeartbeats 2000000 in
theorem add1_no (l m : List UInt8) (gs gt gx : Nat) (w : World) (hl : l.length ≤ 1000) (hm : m.length ≤ 1000)
    (h : ¬ (textOK l = true ∧ textOK m = true ∧ isN ((valOf l).1 + (valOf m).1) ((valOf l).2 + (valOf m).2) = true))
    (hs : w.heap[gs]? = some (.cells #[.string ⟨l.toArray⟩] 9 (0, 0))) (ht : w.heap[gt]? = some (.cells #[.string ⟨m.toArray⟩] 9 (0, 0))) :
    Calls Tryd.prog 52 #[.pointer (some ⟨gs, 0, none⟩), .pointer (some ⟨gt, 0, none⟩), .pointer (some ⟨gx, 0, none⟩)] w fun e w' => e = trouble (addErr l m) ∧ BelX [] w w' := by
  unfold addErr
  by_cases h1 : textOK l = true
  · have HA := Lib.hid (fun wx => read_yes l wx hl h1)
    by_cases h2 : textOK m = true
    · have HB := Lib.hid (fun wx => read_yes m wx hm h2)
      have h3 : isN ((valOf l).1 + (valOf m).1) ((valOf l).2 + (valOf m).2) = false := by
        have := fun hh => h ⟨h1, h2, hh⟩
        simpa using this
      have ba := val_bd l h1
      have bb := val_bd m h2
      rw [if_pos ⟨h1, h2⟩]
      obtain ⟨⟨X1, Y1⟩, e1⟩ : ∃ p, valOf l = p := ⟨_, rfl⟩
      obtain ⟨⟨X2, Y2⟩, e2⟩ : ∃ p, valOf m = p := ⟨_, rfl⟩
      rw [e1] at ba h3 HA
      rw [e2] at bb h3 HB
      dsimp only at ba bb h3 HA HB
      have HP := Lib.hid (fun wx => plus_any X1 Y1 X2 Y2 wx (by omega) (by omega) (by omega) (by omega))
      obtain ⟨X, eX⟩ : ∃ X, X1 + X2 = X := ⟨_, rfl⟩
      obtain ⟨Y, eY⟩ : ∃ Y, Y1 + Y2 = Y := ⟨_, rfl⟩
      rw [eX, eY] at HP h3
      have H3 := Lib.hid h3
      clear h1 h2 h3 hl hm ba bb e1 e2 eX eY h
      have c0 := row1_0 hs
      have c1 := row1_0 ht
      have z0 := blk_lt hs
      have z1 := blk_lt ht
      clear hs ht
      generalize (⟨l.toArray⟩ : ByteArray) = ta at *
      generalize (⟨m.toArray⟩ : ByteArray) = tb at *
      go_enter Tryd.func52, Tryd.ntmps52
      go_wp2_with fail
      refine (HA.out _).mono ?_
      rintro e w1 ⟨rfl, hb1⟩
      have cegs1_0 : w1.cell? ⟨gs, 0, none⟩ = some (.string ta) := keep_cell hb1 (by first | assumption | (go_simp; done) | (simp; done) | simp [*])
      have zegs1 : gs < w1.heap.size := block_lt_of_cell cegs1_0
      have cegt1_0 : w1.cell? ⟨gt, 0, none⟩ = some (.string tb) := keep_cell hb1 (by first | assumption | (go_simp; done) | (simp; done) | simp [*])
      have zegt1 : gt < w1.heap.size := block_lt_of_cell cegt1_0
      have B1 : Below w.heap.size w w1 := bl_call (by repeat (first | exact Below.refl _ _ | exact Nat.le_refl _ | refine Below.alloc ?_ ?_ _ | refine Below.setCell ?_ ?_ _ | refine Below.drew ?_ | refine bl_drewN ?_ _ | (assumption) | refine bl_call ?_ (by assumption) ?_ | omega | (simp <;> omega))) hb1 (by first | assumption | (simp; done) | (simp; omega) | omega)
      clear hb1
      have hsz_1 := B1.size
      go_wp2_with fail
      refine (HB.out _).mono ?_
      rintro e w2 ⟨rfl, hb2⟩
      have cegs2_0 : w2.cell? ⟨gs, 0, none⟩ = some (.string ta) := keep_cell hb2 (by first | assumption | (go_simp; done) | (simp; done) | simp [*])
      have zegs2 : gs < w2.heap.size := block_lt_of_cell cegs2_0
      have cegt2_0 : w2.cell? ⟨gt, 0, none⟩ = some (.string tb) := keep_cell hb2 (by first | assumption | (go_simp; done) | (simp; done) | simp [*])
      have zegt2 : gt < w2.heap.size := block_lt_of_cell cegt2_0
      have cew1_heap_size2_0 : w2.cell? ⟨w1.heap.size, 0, none⟩ = some (.int .i64 X1) := keep_cell hb2 (by first | assumption | (go_simp; done) | (simp; done) | simp [*])
      have zew1_heap_size2 : w1.heap.size < w2.heap.size := block_lt_of_cell cew1_heap_size2_0
      have cew1_heap_size2_1 : w2.cell? ⟨w1.heap.size, 1, none⟩ = some (.int .i64 Y1) := keep_cell hb2 (by first | assumption | (go_simp; done) | (simp; done) | simp [*])
      have B2 : Below w.heap.size w w2 := bl_call (by repeat (first | exact Below.refl _ _ | exact Nat.le_refl _ | refine Below.alloc ?_ ?_ _ | refine Below.setCell ?_ ?_ _ | refine Below.drew ?_ | refine bl_drewN ?_ _ | (assumption) | refine bl_call ?_ (by assumption) ?_ | omega | (simp <;> omega))) hb2 (by first | assumption | (simp; done) | (simp; omega) | omega)
      clear hb2
      have hsz_2 := B2.size
      go_wp2_with fail
      refine (HP.out _).mono ?_
      rintro e w3 ⟨rfl, hb3⟩
      have cegs3_0 : w3.cell? ⟨gs, 0, none⟩ = some (.string ta) := keep_cell hb3 (by first | assumption | (go_simp; done) | (simp; done) | simp [*])
      have zegs3 : gs < w3.heap.size := block_lt_of_cell cegs3_0
      have cegt3_0 : w3.cell? ⟨gt, 0, none⟩ = some (.string tb) := keep_cell hb3 (by first | assumption | (go_simp; done) | (simp; done) | simp [*])
      have zegt3 : gt < w3.heap.size := block_lt_of_cell cegt3_0
      have cew1_heap_size3_0 : w3.cell? ⟨w1.heap.size, 0, none⟩ = some (.int .i64 X1) := keep_cell hb3 (by first | assumption | (go_simp; done) | (simp; done) | simp [*])
      have zew1_heap_size3 : w1.heap.size < w3.heap.size := block_lt_of_cell cew1_heap_size3_0
      have cew1_heap_size3_1 : w3.cell? ⟨w1.heap.size, 1, none⟩ = some (.int .i64 Y1) := keep_cell hb3 (by first | assumption | (go_simp; done) | (simp; done) | simp [*])
      have cew2_heap_size3_0 : w3.cell? ⟨w2.heap.size, 0, none⟩ = some (.int .i64 X2) := keep_cell hb3 (by first | assumption | (go_simp; done) | (simp; done) | simp [*])
      have zew2_heap_size3 : w2.heap.size < w3.heap.size := block_lt_of_cell cew2_heap_size3_0
      have cew2_heap_size3_1 : w3.cell? ⟨w2.heap.size, 1, none⟩ = some (.int .i64 Y2) := keep_cell hb3 (by first | assumption | (go_simp; done) | (simp; done) | simp [*])
      have B3 : Below w.heap.size w w3 := bl_call (by repeat (first | exact Below.refl _ _ | exact Nat.le_refl _ | refine Below.alloc ?_ ?_ _ | refine Below.setCell ?_ ?_ _ | refine Below.drew ?_ | refine bl_drewN ?_ _ | (assumption) | refine bl_call ?_ (by assumption) ?_ | omega | (simp <;> omega))) hb3 (by first | assumption | (simp; done) | (simp; omega) | omega)
      clear hb3
      have hsz_3 := B3.size
      go_wp2_with fail
      refine (isNum _ _ _).mono ?_
      rintro e w4 ⟨rfl, hb4⟩
      have cegs4_0 : w4.cell? ⟨gs, 0, none⟩ = some (.string ta) := keep_cell hb4 (by first | assumption | (go_simp; done) | (simp; done) | simp [*])
      have zegs4 : gs < w4.heap.size := block_lt_of_cell cegs4_0
      have cegt4_0 : w4.cell? ⟨gt, 0, none⟩ = some (.string tb) := keep_cell hb4 (by first | assumption | (go_simp; done) | (simp; done) | simp [*])
      have zegt4 : gt < w4.heap.size := block_lt_of_cell cegt4_0
      have cew1_heap_size4_0 : w4.cell? ⟨w1.heap.size, 0, none⟩ = some (.int .i64 X1) := keep_cell hb4 (by first | assumption | (go_simp; done) | (simp; done) | simp [*])
      have zew1_heap_size4 : w1.heap.size < w4.heap.size := block_lt_of_cell cew1_heap_size4_0
      have cew1_heap_size4_1 : w4.cell? ⟨w1.heap.size, 1, none⟩ = some (.int .i64 Y1) := keep_cell hb4 (by first | assumption | (go_simp; done) | (simp; done) | simp [*])
      have cew2_heap_size4_0 : w4.cell? ⟨w2.heap.size, 0, none⟩ = some (.int .i64 X2) := keep_cell hb4 (by first | assumption | (go_simp; done) | (simp; done) | simp [*])
      have zew2_heap_size4 : w2.heap.size < w4.heap.size := block_lt_of_cell cew2_heap_size4_0
      have cew2_heap_size4_1 : w4.cell? ⟨w2.heap.size, 1, none⟩ = some (.int .i64 Y2) := keep_cell hb4 (by first | assumption | (go_simp; done) | (simp; done) | simp [*])
      have cew3_heap_size4_0 : w4.cell? ⟨w3.heap.size, 0, none⟩ = some (.int .i64 X) := keep_cell hb4 (by first | assumption | (go_simp; done) | (simp; done) | simp [*])
      have zew3_heap_size4 : w3.heap.size < w4.heap.size := block_lt_of_cell cew3_heap_size4_0
      have cew3_heap_size4_1 : w4.cell? ⟨w3.heap.size, 1, none⟩ = some (.int .i64 Y) := keep_cell hb4 (by first | assumption | (go_simp; done) | (simp; done) | simp [*])
      have B4 : Below w.heap.size w w4 := bl_call (by repeat (first | exact Below.refl _ _ | exact Nat.le_refl _ | refine Below.alloc ?_ ?_ _ | refine Below.setCell ?_ ?_ _ | refine Below.drew ?_ | refine bl_drewN ?_ _ | (assumption) | refine bl_call ?_ (by assumption) ?_ | omega | (simp <;> omega))) hb4 (by first | assumption | (simp; done) | (simp; omega) | omega)
      clear hb4
      have hsz_4 := B4.size
      rw [H3.out]
      go_wp2_with (first
        | (go_at_call 55; refine (demand_no _ _).mono ?_; rintro e w' ⟨rfl, rfl⟩)
        | fail)
      exact ⟨rfl, rfl, BelX.ofBelow B4⟩
    · have HB := Lib.hid (fun wx => read_no m wx hm (by simpa using h2))
      rw [if_neg (fun hh => h2 hh.2)]
      obtain ⟨⟨X1, Y1⟩, e1⟩ : ∃ p, valOf l = p := ⟨_, rfl⟩
      rw [e1] at HA
      dsimp only at HA
      clear h1 h2 hl hm e1 h
      have c0 := row1_0 hs
      have c1 := row1_0 ht
      have z0 := blk_lt hs
      have z1 := blk_lt ht
      clear hs ht
      generalize (⟨l.toArray⟩ : ByteArray) = ta at *
      generalize (⟨m.toArray⟩ : ByteArray) = tb at *
      go_enter Tryd.func52, Tryd.ntmps52
      go_wp2_with fail
      refine (HA.out _).mono ?_
      rintro e w1 ⟨rfl, hb1⟩
      have cegs1_0 : w1.cell? ⟨gs, 0, none⟩ = some (.string ta) := keep_cell hb1 (by first | assumption | (go_simp; done) | (simp; done) | simp [*])
      have zegs1 : gs < w1.heap.size := block_lt_of_cell cegs1_0
      have cegt1_0 : w1.cell? ⟨gt, 0, none⟩ = some (.string tb) := keep_cell hb1 (by first | assumption | (go_simp; done) | (simp; done) | simp [*])
      have zegt1 : gt < w1.heap.size := block_lt_of_cell cegt1_0
      have B1 : Below w.heap.size w w1 := bl_call (by repeat (first | exact Below.refl _ _ | exact Nat.le_refl _ | refine Below.alloc ?_ ?_ _ | refine Below.setCell ?_ ?_ _ | refine Below.drew ?_ | refine bl_drewN ?_ _ | (assumption) | refine bl_call ?_ (by assumption) ?_ | omega | (simp <;> omega))) hb1 (by first | assumption | (simp; done) | (simp; omega) | omega)
      clear hb1
      have hsz_1 := B1.size
      go_wp2_with (first
        | (go_at_call 53; refine (HB.out _).mono ?_; rintro e w2 ⟨rfl, hb2⟩)
        | fail)
      exact ⟨rfl, rfl, BelX.ofBelow (bl_call (B1.alloc (by omega) _) hb2 (by simp; omega))⟩
  · have HA := Lib.hid (fun wx => read_no l wx hl (by simpa using h1))
    rw [if_neg (fun hh => h1 hh.1)]
    clear h1 hl hm h
    have c0 := row1_0 hs
    have c1 := row1_0 ht
    have z0 := blk_lt hs
    have z1 := blk_lt ht
    clear hs ht
    generalize (⟨l.toArray⟩ : ByteArray) = ta at *
    generalize (⟨m.toArray⟩ : ByteArray) = tb at *
    go_enter Tryd.func52, Tryd.ntmps52
    go_wp2_with (first
      | (go_at_call 53; refine (HA.out _).mono ?_; rintro e w1 ⟨rfl, hb1⟩)
      | fail)
    exact ⟨rfl, rfl, BelX.ofBelow hb1⟩
theorem enter_add1 (x y z : Value) : ∀ w, (callFunc 52 #[x, y, z]).run Tryd.prog w = .ok (.enter 52 #[x, y, z]) w := fun w => by kernel_rfl
set_option maxRecDepth 100000 in
set_option maxHeartbeats 1000000 in
theorem Add_yes (l m : List UInt8) (w : World) (hl : l.length ≤ 1000) (hm : m.length ≤ 1000) (h1 : textOK l = true) (h2 : textOK m = true) (h3 : isN ((valOf l).1 + (valOf m).1) ((valOf l).2 + (valOf m).2) = true) :
    Calls Tryd.prog 18 #[.string ⟨l.toArray⟩, .string ⟨m.toArray⟩] w fun e w' => e = .returned (.tuple #[.string ⟨(GM.textOf (GM.add (valOf l) (valOf m))).toArray⟩, .int .i64 0]) ∧ Below w.heap.size w w' := by
  have HV := Lib.hid (fun (wx : World) gs gt gx u hs ht hx => add1_yes l m gs gt gx u wx hl hm h1 h2 h3 hs ht hx)
  clear h1 h2 h3 hl hm
  obtain ⟨S, hS⟩ : ∃ S : ByteArray, ⟨(GM.textOf (GM.add (valOf l) (valOf m))).toArray⟩ = S := ⟨_, rfl⟩
  rw [hS] at HV ⊢
  clear hS
  have hmf : ∀ (fn : Fn) (first cap : Array Value) (w : World), (Instr.makeFunc fn first cap).run Tryd.prog w = .ok (.func fn first cap) w := fun _ _ _ _ => rfl
  go_enter Tryd.func18, Tryd.ntmps18
  go_wp2_with fail
  obtain ⟨w2, h2⟩ : ∃ w2, w2 = ((w.alloc (.cells #[.string ⟨l.toArray⟩] 9)).alloc (.cells #[.string ⟨m.toArray⟩] 9)).alloc (.cells #[.string ⟨#[]⟩] 9) := ⟨_, rfl⟩
  rw [← h2]
  have X2 : w2.heap[w.heap.size]? = some (.cells #[.string ⟨l.toArray⟩] 9 (0, 0)) := by rw [h2]; exact (by repeat (first | assumption | (with_reducible apply blk_set2) | (with_reducible apply blk_set1) | (with_reducible refine blk_far2 ?_ ?_; (first | omega | (simp; done) | (simp; omega))) | (with_reducible refine blk_far1 ?_ ?_; (first | omega | (simp; done) | (simp; omega))) | (with_reducible refine blk_new' _ _ ?_; (first | omega | (simp; done) | (simp; omega))) | (with_reducible refine blk_old ?_) | (with_reducible refine blk_drew ?_)))
  have Y2 : w2.heap[w.heap.size + 1]? = some (.cells #[.string ⟨m.toArray⟩] 9 (0, 0)) := by rw [h2]; exact (by repeat (first | assumption | (with_reducible apply blk_set2) | (with_reducible apply blk_set1) | (with_reducible refine blk_far2 ?_ ?_; (first | omega | (simp; done) | (simp; omega))) | (with_reducible refine blk_far1 ?_ ?_; (first | omega | (simp; done) | (simp; omega))) | (with_reducible refine blk_new' _ _ ?_; (first | omega | (simp; done) | (simp; omega))) | (with_reducible refine blk_old ?_) | (with_reducible refine blk_drew ?_)))
  have S2 : w2.heap[w.heap.size + 2]? = some (.cells #[.string ⟨#[]⟩] 9 (0, 0)) := by rw [h2]; exact (by repeat (first | assumption | (with_reducible apply blk_set2) | (with_reducible apply blk_set1) | (with_reducible refine blk_far2 ?_ ?_; (first | omega | (simp; done) | (simp; omega))) | (with_reducible refine blk_far1 ?_ ?_; (first | omega | (simp; done) | (simp; omega))) | (with_reducible refine blk_new' _ _ ?_; (first | omega | (simp; done) | (simp; omega))) | (with_reducible refine blk_old ?_) | (with_reducible refine blk_drew ?_)))
  have B2 : Below w.heap.size w w2 := by rw [h2]; exact (by repeat (first | exact Below.refl _ _ | exact Nat.le_refl _ | refine Below.alloc ?_ ?_ _ | refine Below.setCell ?_ ?_ _ | refine Below.drew ?_ | refine bl_drewN ?_ _ | (assumption) | refine bl_call ?_ (by assumption) ?_ | omega | (simp <;> omega)))
  have hz := blk_lt S2
  clear h2
  refine (guard_ok 52 _ [w.heap.size + 2] w2 (fun w' => w'.heap[w.heap.size + 2]? = some (.cells #[.string S] 9 (0, 0))) (by simp; omega) (enter_add1 _ _ _) ?_ ?_).mono ?_
  · refine (HV.out _ _ _ _ _ (blk_old X2) (blk_old Y2) (blk_old S2)).mono ?_
    exact fun e w' h => h
  · intro u v hu huv
    exact (huv.block _ (blk_lt hu) (by simp; omega)).trans hu
  · rintro e w3 ⟨rfl, hX, hS3⟩
    have B3 : Below w.heap.size w w3 := hX.below B2 (by omega) (by simp)
    have c0 := row1_0 hS3
    have f0 := row_f hS3
    clear hX X2 Y2 S2 B2
    go_wp2_with fail
    exact bodyPost_ret (v := .tuple #[.string S, .int .i64 (0)]) (by simp [results, Tryd.results18, go_sem, *]) rfl ⟨rfl, (by repeat (first | exact Below.refl _ _ | exact Nat.le_refl _ | refine Below.alloc ?_ ?_ _ | refine Below.setCell ?_ ?_ _ | refine Below.drew ?_ | refine bl_drewN ?_ _ | (assumption) | refine bl_call ?_ (by assumption) ?_ | omega | (simp <;> omega)))⟩
set_option maxRecDepth 100000 in
set_option maxHeartbeats 1000000 in
theorem Add_no (l m : List UInt8) (w : World) (hl : l.length ≤ 1000) (hm : m.length ≤ 1000)
    (h : ¬ (textOK l = true ∧ textOK m = true ∧ isN ((valOf l).1 + (valOf m).1) ((valOf l).2 + (valOf m).2) = true)) :
    Calls Tryd.prog 18 #[.string ⟨l.toArray⟩, .string ⟨m.toArray⟩] w fun e w' => e = .returned (.tuple #[.string ⟨#[]⟩, .int .i64 (addErr l m)]) ∧ Below w.heap.size w w' := by
  have HV := Lib.hid (fun (wx : World) gs gt gx hs ht => add1_no l m gs gt gx wx hl hm h hs ht)
  clear h hl hm
  obtain ⟨c, hc⟩ : ∃ c, addErr l m = c := ⟨_, rfl⟩
  rw [hc] at HV ⊢
  clear hc
  have hmf : ∀ (fn : Fn) (first cap : Array Value) (w : World), (Instr.makeFunc fn first cap).run Tryd.prog w = .ok (.func fn first cap) w := fun _ _ _ _ => rfl
  go_enter Tryd.func18, Tryd.ntmps18
  go_wp2_with fail
  obtain ⟨w2, h2⟩ : ∃ w2, w2 = ((w.alloc (.cells #[.string ⟨l.toArray⟩] 9)).alloc (.cells #[.string ⟨m.toArray⟩] 9)).alloc (.cells #[.string ⟨#[]⟩] 9) := ⟨_, rfl⟩
  rw [← h2]
  have X2 : w2.heap[w.heap.size]? = some (.cells #[.string ⟨l.toArray⟩] 9 (0, 0)) := by rw [h2]; exact (by repeat (first | assumption | (with_reducible apply blk_set2) | (with_reducible apply blk_set1) | (with_reducible refine blk_far2 ?_ ?_; (first | omega | (simp; done) | (simp; omega))) | (with_reducible refine blk_far1 ?_ ?_; (first | omega | (simp; done) | (simp; omega))) | (with_reducible refine blk_new' _ _ ?_; (first | omega | (simp; done) | (simp; omega))) | (with_reducible refine blk_old ?_) | (with_reducible refine blk_drew ?_)))
  have Y2 : w2.heap[w.heap.size + 1]? = some (.cells #[.string ⟨m.toArray⟩] 9 (0, 0)) := by rw [h2]; exact (by repeat (first | assumption | (with_reducible apply blk_set2) | (with_reducible apply blk_set1) | (with_reducible refine blk_far2 ?_ ?_; (first | omega | (simp; done) | (simp; omega))) | (with_reducible refine blk_far1 ?_ ?_; (first | omega | (simp; done) | (simp; omega))) | (with_reducible refine blk_new' _ _ ?_; (first | omega | (simp; done) | (simp; omega))) | (with_reducible refine blk_old ?_) | (with_reducible refine blk_drew ?_)))
  have S2 : w2.heap[w.heap.size + 2]? = some (.cells #[.string ⟨#[]⟩] 9 (0, 0)) := by rw [h2]; exact (by repeat (first | assumption | (with_reducible apply blk_set2) | (with_reducible apply blk_set1) | (with_reducible refine blk_far2 ?_ ?_; (first | omega | (simp; done) | (simp; omega))) | (with_reducible refine blk_far1 ?_ ?_; (first | omega | (simp; done) | (simp; omega))) | (with_reducible refine blk_new' _ _ ?_; (first | omega | (simp; done) | (simp; omega))) | (with_reducible refine blk_old ?_) | (with_reducible refine blk_drew ?_)))
  have B2 : Below w.heap.size w w2 := by rw [h2]; exact (by repeat (first | exact Below.refl _ _ | exact Nat.le_refl _ | refine Below.alloc ?_ ?_ _ | refine Below.setCell ?_ ?_ _ | refine Below.drew ?_ | refine bl_drewN ?_ _ | (assumption) | refine bl_call ?_ (by assumption) ?_ | omega | (simp <;> omega)))
  have hz := blk_lt S2
  clear h2
  refine (guard_panic 52 _ [] c w2 (fun w' => w'.heap[w.heap.size + 2]? = some (.cells #[.string ⟨#[]⟩] 9 (0, 0))) (by simp) (enter_add1 _ _ _) ?_ ?_).mono ?_
  · refine (HV.out _ _ _ _ (blk_old X2) (blk_old Y2)).mono ?_
    rintro e w' ⟨rfl, hX⟩
    exact ⟨rfl, hX, (hX.block _ (by simp; omega) (by simp)).trans (blk_old S2)⟩
  · intro u v hu huv
    exact (huv.block _ (blk_lt hu) (by simp; omega)).trans hu
  · rintro e w3 ⟨rfl, hX, hS3⟩
    have B3 : Below w.heap.size w w3 := hX.below B2 (by omega) (by simp)
    have c0 := row1_0 hS3
    have f0 := row_f hS3
    clear hX X2 Y2 S2 B2
    go_wp2_with fail
    exact bodyPost_ret (v := .tuple #[.string ⟨#[]⟩, .int .i64 (c)]) (by simp [results, Tryd.results18, go_sem, *]) rfl ⟨rfl, (by repeat (first | exact Below.refl _ _ | exact Nat.le_refl _ | refine Below.alloc ?_ ?_ _ | refine Below.setCell ?_ ?_ _ | refine Below.drew ?_ | refine bl_drewN ?_ _ | (assumption) | refine bl_call ?_ (by assumption) ?_ | omega | (simp <;> omega)))⟩
end Go.Proofs.YtgocloilagcfoabDoor
