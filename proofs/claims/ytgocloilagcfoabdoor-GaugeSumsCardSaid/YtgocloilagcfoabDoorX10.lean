/- GaugeSums: for every two strings and two ints the law returns true. -/
import Derived.Test.YtgocloilagcfoabDoorL1
import Derived.Test.YtgocloilagcfoabDoorM8
import Derived.Test.YtgocloilagcfoabDoorG17
import Derived.Test.YtgocloilagcfoabDoorF1
namespace Go.Proofs.YtgocloilagcfoabDoor
open Go.RowKit
attribute [local go_sem ↓] Go.wp_at_zero Go.wp_at_succ

theorem text_len1000 (x : GM.G) : (GM.textOf x).length ≤ 1000 := by
  have h1 := (GM.head_length x).2
  rw [GM.textOf_eq, List.length_append]
  unfold GM.tail
  split
  · simp; omega
  · have := GM.frac_length 40 (GM.rest 40 x); simp; omega
theorem nought : textOK [48] = true ∧ valOf [48] = (0, 0) := by decide +kernel
theorem add_comm' (x y : GM.G) : GM.add x y = GM.add y x := by unfold GM.add; ext <;> dsimp only <;> omega
set_option maxRecDepth 100000 in
set_option maxHeartbeats 8000000 in
theorem GaugeSums_walk (l m : List UInt8) (p q : Int) (w : World) (hl : l.length ≤ 9223372036854775807) (hm : m.length ≤ 9223372036854775807) (hp : -9223372036854775808 ≤ p ∧ p ≤ 9223372036854775807) (hq : -9223372036854775808 ≤ q ∧ q ≤ 9223372036854775807) :
    Calls Tryd.prog 6 #[.string ⟨l.toArray⟩, .string ⟨m.toArray⟩, .int .i64 p, .int .i64 q] w fun e w' => e = .returned (.bool true) ∧ Below w.heap.size w w' := by
  have hT1 := fun wx => text_any4 l p wx hl hp.1 hp.2
  have hT2 := fun wx => text_any4 m q wx hm hq.1 hq.2
  have m1 := modZ_bd p 12 (by omega)
  have m2 := modZ_bd q 12 (by omega)
  obtain ⟨P, Q, f1, -, -⟩ := txt_form (1 + modZ p 12).toNat 4 (.inr rfl) (by omega) (by omega) l
  obtain ⟨P', Q', f2, -, -⟩ := txt_form (1 + modZ q 12).toNat 4 (.inr rfl) (by omega) (by omega) m
  obtain ⟨a, ha⟩ : ∃ a, txt (1 + modZ p 12).toNat 4 l = a := ⟨_, rfl⟩
  obtain ⟨b, hb⟩ : ∃ b, txt (1 + modZ q 12).toNat 4 m = b := ⟨_, rfl⟩
  rw [ha] at hT1 f1
  rw [hb] at hT2 f2
  clear ha hb m1 m2 hp hq hl hm
  generalize (⟨l.toArray⟩ : ByteArray) = s0 at *
  generalize (⟨m.toArray⟩ : ByteArray) = s1 at *
  have l1 : a.length ≤ 1000 := by have := f1.len; omega
  have l2 : b.length ≤ 1000 := by have := f2.len; omega
  have b1 := f1.bd
  have b2 := f2.bd
  have n1 := f1.isN
  have n2 := f2.isN
  have hsum : isN ((valOf a).1 + (valOf b).1) ((valOf a).2 + (valOf b).2) = true := (isN_iff _ _).2 ⟨by omega, by omega, by omega, by omega⟩
  have hNs : isN (GM.add (valOf a) (valOf b)).1 (GM.add (valOf a) (valOf b)).2 = true := hsum
  have hnum : GM.Num (GM.add (valOf a) (valOf b)) := by
    obtain ⟨x1, x2, x3, x4⟩ := (isN_iff _ _).1 hNs
    exact ⟨x1, x2, x3, x4⟩
  have h0 : 0 ≤ GM.sg (GM.add (valOf a) (valOf b)) := (GM.sg_add _ _).1 (num_nonneg a f1.ok) (num_nonneg b f2.ok)
  have hval := val_text _ hnum h0
  have hA1 := fun wx => Add_yes a b wx l1 l2 f1.ok f2.ok hsum
  have hA2 := fun wx => Add_yes b a wx l2 l1 f2.ok f1.ok (by rw [Int.add_comm, Int.add_comm (valOf b).2]; exact hsum)
  have hA3 := fun wx => Add_yes a [48] wx l1 (by simp) f1.ok nought.1 (by rw [nought.2]; dsimp only; rw [Int.add_zero, Int.add_zero]; exact n1)
  rw [add_comm' (valOf b)] at hA2
  rw [nought.2, GM.add_zero] at hA3
  have hP := fun wx => Plain_yes a wx l1 f1.ok n1
  have hV1 := fun wx => Value_yes a wx l1 f1.ok n1
  have hV2 := fun wx => Value_yes b wx l2 f2.ok n2
  have hPL := fun wx => refIsPlain (GM.textOf (GM.add (valOf a) (valOf b))) wx (text_len1000 _)
  rw [text_plain _ hnum h0] at hPL
  have hV3 := fun wx => Value_yes (GM.textOf (GM.add (valOf a) (valOf b))) wx (text_len1000 _) (text_ok _) (by rw [hval]; exact hNs)
  rw [hval] at hV3
  have hPS := fun wx => refPlus (valOf a).1 (valOf a).2 (valOf b).1 (valOf b).2 wx (by omega) (by omega) (by omega) (by omega)
  have hN1 := fun wx => refNumber (valOf a).1 (valOf a).2 wx
  have hN2 := fun wx => refNumber (valOf b).1 (valOf b).2 wx
  rw [n1] at hN1
  rw [n2] at hN2
  obtain ⟨⟨X, Y⟩, hXY⟩ : ∃ x, GM.add (valOf a) (valOf b) = x := ⟨_, rfl⟩
  have e1 : (valOf a).1 + (valOf b).1 = X := congrArg Prod.fst hXY
  have e2 : (valOf a).2 + (valOf b).2 = Y := congrArg Prod.snd hXY
  rw [e1, e2] at hPS
  rw [hXY] at hA1 hA2 hPL hV3
  clear e1 e2 hXY hval h0 hnum hNs hsum n1 n2 b1 b2 f1 f2 l1 l2
  obtain ⟨⟨X1, Y1⟩, hx1⟩ : ∃ x, valOf a = x := ⟨_, rfl⟩
  obtain ⟨⟨X2, Y2⟩, hx2⟩ : ∃ x, valOf b = x := ⟨_, rfl⟩
  rw [hx1] at hA3 hP hV1 hPS hN1
  rw [hx2] at hV2 hPS hN2
  dsimp only at hA1 hA2 hA3 hP hV1 hV2 hPL hV3 hPS hN1 hN2
  clear hx1 hx2
  generalize (⟨a.toArray⟩ : ByteArray) = ta at *
  generalize (⟨b.toArray⟩ : ByteArray) = tb at *
  generalize (⟨(GM.textOf (X, Y)).toArray⟩ : ByteArray) = tu at *
  generalize (⟨(GM.textOf (X1, Y1)).toArray⟩ : ByteArray) = tp at *
  have HT1 := Lib.hid hT1
  have HT2 := Lib.hid hT2
  have HA1 := Lib.hid hA1
  have HA2 := Lib.hid hA2
  have HA3 := Lib.hid hA3
  have HP := Lib.hid hP
  have HV1 := Lib.hid hV1
  have HV2 := Lib.hid hV2
  have HV3 := Lib.hid hV3
  have HPL := Lib.hid hPL
  have HPS := Lib.hid hPS
  have HN1 := Lib.hid hN1
  have HN2 := Lib.hid hN2
  clear hT1 hT2 hA1 hA2 hA3 hP hV1 hV2 hV3 hPL hPS hN1 hN2
  go_enter Tryd.func6, Tryd.ntmps6
  go_wp2_with fail
  refine (HT1.out _).mono ?_
  rintro e w1 ⟨rfl, hb1⟩
  have B1 : Below w.heap.size w w1 := bl_call (by repeat (first | exact Below.refl _ _ | exact Nat.le_refl _ | refine Below.alloc ?_ ?_ _ | refine Below.setCell ?_ ?_ _ | refine Below.drew ?_ | refine bl_drewN ?_ _ | (assumption) | refine bl_call ?_ (by assumption) ?_ | omega | (simp <;> omega))) hb1 (by first | assumption | (simp; done) | (simp; omega) | omega)
  clear hb1
  have hsz_1 := B1.size
  go_wp2_with fail
  refine (HT2.out _).mono ?_
  rintro e w2 ⟨rfl, hb2⟩
  have B2 : Below w.heap.size w w2 := bl_call (by repeat (first | exact Below.refl _ _ | exact Nat.le_refl _ | refine Below.alloc ?_ ?_ _ | refine Below.setCell ?_ ?_ _ | refine Below.drew ?_ | refine bl_drewN ?_ _ | (assumption) | refine bl_call ?_ (by assumption) ?_ | omega | (simp <;> omega))) hb2 (by first | assumption | (simp; done) | (simp; omega) | omega)
  clear hb2
  have hsz_2 := B2.size
  go_wp2_with fail
  refine (HA1.out _).mono ?_
  rintro e w3 ⟨rfl, hb3⟩
  have B3 : Below w.heap.size w w3 := bl_call (by repeat (first | exact Below.refl _ _ | exact Nat.le_refl _ | refine Below.alloc ?_ ?_ _ | refine Below.setCell ?_ ?_ _ | refine Below.drew ?_ | refine bl_drewN ?_ _ | (assumption) | refine bl_call ?_ (by assumption) ?_ | omega | (simp <;> omega))) hb3 (by first | assumption | (simp; done) | (simp; omega) | omega)
  clear hb3
  have hsz_3 := B3.size
  go_wp2_with fail
  refine (HA2.out _).mono ?_
  rintro e w4 ⟨rfl, hb4⟩
  have B4 : Below w.heap.size w w4 := bl_call (by repeat (first | exact Below.refl _ _ | exact Nat.le_refl _ | refine Below.alloc ?_ ?_ _ | refine Below.setCell ?_ ?_ _ | refine Below.drew ?_ | refine bl_drewN ?_ _ | (assumption) | refine bl_call ?_ (by assumption) ?_ | omega | (simp <;> omega))) hb4 (by first | assumption | (simp; done) | (simp; omega) | omega)
  clear hb4
  have hsz_4 := B4.size
  go_wp2_with fail
  refine (HA3.out _).mono ?_
  rintro e w5 ⟨rfl, hb5⟩
  have B5 : Below w.heap.size w w5 := bl_call (by repeat (first | exact Below.refl _ _ | exact Nat.le_refl _ | refine Below.alloc ?_ ?_ _ | refine Below.setCell ?_ ?_ _ | refine Below.drew ?_ | refine bl_drewN ?_ _ | (assumption) | refine bl_call ?_ (by assumption) ?_ | omega | (simp <;> omega))) hb5 (by first | assumption | (simp; done) | (simp; omega) | omega)
  clear hb5
  have hsz_5 := B5.size
  go_wp2_with fail
  refine (HP.out _).mono ?_
  rintro e w6 ⟨rfl, hb6⟩
  have B6 : Below w.heap.size w w6 := bl_call (by repeat (first | exact Below.refl _ _ | exact Nat.le_refl _ | refine Below.alloc ?_ ?_ _ | refine Below.setCell ?_ ?_ _ | refine Below.drew ?_ | refine bl_drewN ?_ _ | (assumption) | refine bl_call ?_ (by assumption) ?_ | omega | (simp <;> omega))) hb6 (by first | assumption | (simp; done) | (simp; omega) | omega)
  clear hb6
  have hsz_6 := B6.size
  go_wp2_with fail
  refine (HV1.out _).mono ?_
  rintro e w7 ⟨rfl, hb7⟩
  have B7 : Below w.heap.size w w7 := bl_call (by repeat (first | exact Below.refl _ _ | exact Nat.le_refl _ | refine Below.alloc ?_ ?_ _ | refine Below.setCell ?_ ?_ _ | refine Below.drew ?_ | refine bl_drewN ?_ _ | (assumption) | refine bl_call ?_ (by assumption) ?_ | omega | (simp <;> omega))) hb7 (by first | assumption | (simp; done) | (simp; omega) | omega)
  clear hb7
  have hsz_7 := B7.size
  go_wp2_with fail
  refine (HV2.out _).mono ?_
  rintro e w8 ⟨rfl, hb8⟩
  have cew7_heap_size8_0 : w8.cell? ⟨w7.heap.size, 0, none⟩ = some (.int .i64 X1) := keep_cell hb8 (by first | assumption | (go_simp; done) | (simp; done) | simp [*])
  have zew7_heap_size8 : w7.heap.size < w8.heap.size := block_lt_of_cell cew7_heap_size8_0
  have cew7_heap_size8_1 : w8.cell? ⟨w7.heap.size, 1, none⟩ = some (.int .i64 Y1) := keep_cell hb8 (by first | assumption | (go_simp; done) | (simp; done) | simp [*])
  have B8 : Below w.heap.size w w8 := bl_call (by repeat (first | exact Below.refl _ _ | exact Nat.le_refl _ | refine Below.alloc ?_ ?_ _ | refine Below.setCell ?_ ?_ _ | refine Below.drew ?_ | refine bl_drewN ?_ _ | (assumption) | refine bl_call ?_ (by assumption) ?_ | omega | (simp <;> omega))) hb8 (by first | assumption | (simp; done) | (simp; omega) | omega)
  clear hb8
  have hsz_8 := B8.size
  go_wp2_with fail
  refine (HPL.out _).mono ?_
  rintro e w9 ⟨rfl, hb9⟩
  have cew7_heap_size9_0 : w9.cell? ⟨w7.heap.size, 0, none⟩ = some (.int .i64 X1) := keep_cell hb9 (by first | assumption | (go_simp; done) | (simp; done) | simp [*])
  have zew7_heap_size9 : w7.heap.size < w9.heap.size := block_lt_of_cell cew7_heap_size9_0
  have cew7_heap_size9_1 : w9.cell? ⟨w7.heap.size, 1, none⟩ = some (.int .i64 Y1) := keep_cell hb9 (by first | assumption | (go_simp; done) | (simp; done) | simp [*])
  have cew8_heap_size9_0 : w9.cell? ⟨w8.heap.size, 0, none⟩ = some (.int .i64 X2) := keep_cell hb9 (by first | assumption | (go_simp; done) | (simp; done) | simp [*])
  have zew8_heap_size9 : w8.heap.size < w9.heap.size := block_lt_of_cell cew8_heap_size9_0
  have cew8_heap_size9_1 : w9.cell? ⟨w8.heap.size, 1, none⟩ = some (.int .i64 Y2) := keep_cell hb9 (by first | assumption | (go_simp; done) | (simp; done) | simp [*])
  have B9 : Below w.heap.size w w9 := bl_call (by repeat (first | exact Below.refl _ _ | exact Nat.le_refl _ | refine Below.alloc ?_ ?_ _ | refine Below.setCell ?_ ?_ _ | refine Below.drew ?_ | refine bl_drewN ?_ _ | (assumption) | refine bl_call ?_ (by assumption) ?_ | omega | (simp <;> omega))) hb9 (by first | assumption | (simp; done) | (simp; omega) | omega)
  clear hb9
  have hsz_9 := B9.size
  go_wp2_with fail
  refine (HV3.out _).mono ?_
  rintro e w10 ⟨rfl, hb10⟩
  have cew7_heap_size10_0 : w10.cell? ⟨w7.heap.size, 0, none⟩ = some (.int .i64 X1) := keep_cell hb10 (by first | assumption | (go_simp; done) | (simp; done) | simp [*])
  have zew7_heap_size10 : w7.heap.size < w10.heap.size := block_lt_of_cell cew7_heap_size10_0
  have cew7_heap_size10_1 : w10.cell? ⟨w7.heap.size, 1, none⟩ = some (.int .i64 Y1) := keep_cell hb10 (by first | assumption | (go_simp; done) | (simp; done) | simp [*])
  have cew8_heap_size10_0 : w10.cell? ⟨w8.heap.size, 0, none⟩ = some (.int .i64 X2) := keep_cell hb10 (by first | assumption | (go_simp; done) | (simp; done) | simp [*])
  have zew8_heap_size10 : w8.heap.size < w10.heap.size := block_lt_of_cell cew8_heap_size10_0
  have cew8_heap_size10_1 : w10.cell? ⟨w8.heap.size, 1, none⟩ = some (.int .i64 Y2) := keep_cell hb10 (by first | assumption | (go_simp; done) | (simp; done) | simp [*])
  have B10 : Below w.heap.size w w10 := bl_call (by repeat (first | exact Below.refl _ _ | exact Nat.le_refl _ | refine Below.alloc ?_ ?_ _ | refine Below.setCell ?_ ?_ _ | refine Below.drew ?_ | refine bl_drewN ?_ _ | (assumption) | refine bl_call ?_ (by assumption) ?_ | omega | (simp <;> omega))) hb10 (by first | assumption | (simp; done) | (simp; omega) | omega)
  clear hb10
  have hsz_10 := B10.size
  go_upto_region 11 with fail
  refine with_act fun a0 ha0 => ?_
  refine wp_region_inv (by kernel_rfl) (by kernel_rfl) (fun s a' w' => ∃ v105 v106 v107 v108 v109 v110 v111 v112 v113 v114 v115 v116 v117 v118 v119 v120 v121 v122 v123 v124 v8 : Value, a' = putL a0 [(105, v105), (106, v106), (107, v107), (108, v108), (109, v109), (110, v110), (111, v111), (112, v112), (113, v113), (114, v114), (115, v115), (116, v116), (117, v117), (118, v118), (119, v119), (120, v120), (121, v121), (122, v122), (123, v123), (124, v124), (8, v8)] ∧ Hid ((s 0 = true → v105 = .int .i64 0) ∧ (s 1 = true → v106 = .bool true) ∧ (s 2 = true → v107 = .bool true) ∧ (s 3 = true → v108 = .agg #[.int .i64 X1, .int .i64 Y1]) ∧ (s 4 = true → v109 = .bool true) ∧ (s 5 = true → v110 = .bool true) ∧ (s 6 = true → v111 = .bool true) ∧ (s 7 = true → v112 = .agg #[.int .i64 X2, .int .i64 Y2]) ∧ (s 8 = true → v113 = .bool true) ∧ (s 9 = true → v114 = .bool true) ∧ (s 10 = true → v115 = .bool true) ∧ (s 11 = true → v116 = .agg #[.int .i64 X, .int .i64 Y]) ∧ (s 12 = true → v117 = .agg #[.int .i64 X1, .int .i64 Y1]) ∧ (s 13 = true → v118 = .agg #[.int .i64 X2, .int .i64 Y2]) ∧ (s 14 = true → v119 = .agg #[.int .i64 X, .int .i64 Y]) ∧ (s 15 = true → v120 = .bool true) ∧ (s 16 = true → v121 = .bool true) ∧ (s 17 = true → v122 = .bool true) ∧ (s 18 = true → v123 = .bool true) ∧ (s 19 = true → v124 = .bool true) ∧ (s 20 = true → v8 = .bool true) ∧ True) ∧ BelX [] (w10.alloc (.cells #[.int .i64 X, .int .i64 Y] 23)) w' ∧ True) ?x1hzero ⟨?x1hs0, ?x1hs1, ?x1hs2, ?x1hs3, ?x1hs4, ?x1hs5, ?x1hs6, ?x1hs7, ?x1hs8, ?x1hs9, ?x1hs10, ?x1hs11, ?x1hs12, ?x1hs13, ?x1hs14, ?x1hs15, ?x1hs16, ?x1hs17, ?x1hs18, ?x1hs19, ?x1hs20, trivial⟩ ?x1hdone
  case x1hzero =>
    refine ⟨a0.tmps.getD 105 undef, a0.tmps.getD 106 undef, a0.tmps.getD 107 undef, a0.tmps.getD 108 undef, a0.tmps.getD 109 undef, a0.tmps.getD 110 undef, a0.tmps.getD 111 undef, a0.tmps.getD 112 undef, a0.tmps.getD 113 undef, a0.tmps.getD 114 undef, a0.tmps.getD 115 undef, a0.tmps.getD 116 undef, a0.tmps.getD 117 undef, a0.tmps.getD 118 undef, a0.tmps.getD 119 undef, a0.tmps.getD 120 undef, a0.tmps.getD 121 undef, a0.tmps.getD 122 undef, a0.tmps.getD 123 undef, a0.tmps.getD 124 undef, a0.tmps.getD 8 undef, ?_, ?_, ?_, trivial⟩
    · simp only [putL, put_self]
    · exact Lib.hid ⟨fun h => (by simp at h), fun h => (by simp at h), fun h => (by simp at h), fun h => (by simp at h), fun h => (by simp at h), fun h => (by simp at h), fun h => (by simp at h), fun h => (by simp at h), fun h => (by simp at h), fun h => (by simp at h), fun h => (by simp at h), fun h => (by simp at h), fun h => (by simp at h), fun h => (by simp at h), fun h => (by simp at h), fun h => (by simp at h), fun h => (by simp at h), fun h => (by simp at h), fun h => (by simp at h), fun h => (by simp at h), fun h => (by simp at h), trivial⟩
    · exact BelX.start _ _
  case x1hs0 =>
    intro s a' w' hsk hdep hI K hK
    try dsimp only at hI hK
    obtain ⟨v105, v106, v107, v108, v109, v110, v111, v112, v113, v114, v115, v116, v117, v118, v119, v120, v121, v122, v123, v124, v8, hact, hR, hX, _⟩ := hI
    subst hact
    have HK := Lib.hid hK
    clear hK
    have kc0 : w'.cell? ⟨w7.heap.size, 0, none⟩ = some (.int .i64 X1) := hX.cell (by first | (simp; done) | (simp; omega)) (by first | assumption | (go_simp; done) | (simp; done))
    have kc1 : w'.cell? ⟨w7.heap.size, 1, none⟩ = some (.int .i64 Y1) := hX.cell (by first | (simp; done) | (simp; omega)) (by first | assumption | (go_simp; done) | (simp; done))
    have kc2 : w'.cell? ⟨w8.heap.size, 0, none⟩ = some (.int .i64 X2) := hX.cell (by first | (simp; done) | (simp; omega)) (by first | assumption | (go_simp; done) | (simp; done))
    have kc3 : w'.cell? ⟨w8.heap.size, 1, none⟩ = some (.int .i64 Y2) := hX.cell (by first | (simp; done) | (simp; omega)) (by first | assumption | (go_simp; done) | (simp; done))
    have kc4 : w'.cell? ⟨w10.heap.size, 0, none⟩ = some (.int .i64 X) := hX.cell (by first | (simp; done) | (simp; omega)) (by first | assumption | (go_simp; done) | (simp; done))
    have kc5 : w'.cell? ⟨w10.heap.size, 1, none⟩ = some (.int .i64 Y) := hX.cell (by first | (simp; done) | (simp; omega)) (by first | assumption | (go_simp; done) | (simp; done))
    clear hdep
    refine StepG.mk rfl ?_; rw [ha0]; simp only [putL, Act.put, List.setIfInBounds_toArray, List.set_cons_zero, List.set_cons_succ]
    go_wp2_with fail
    refine HK.out _ _ ?_
    refine ⟨(.int .i64 0), v106, v107, v108, v109, v110, v111, v112, v113, v114, v115, v116, v117, v118, v119, v120, v121, v122, v123, v124, v8, (by rw [ha0]; simp only [putL, Act.put, List.setIfInBounds_toArray, List.set_cons_zero, List.set_cons_succ]), ?_, ?_, trivial⟩
    · obtain ⟨h105, h106, h107, h108, h109, h110, h111, h112, h113, h114, h115, h116, h117, h118, h119, h120, h121, h122, h123, h124, h8, _⟩ := hR.out
      exact Lib.hid ⟨fun _ => rfl, fun h => h106 (by simpa using h), fun h => h107 (by simpa using h), fun h => h108 (by simpa using h), fun h => h109 (by simpa using h), fun h => h110 (by simpa using h), fun h => h111 (by simpa using h), fun h => h112 (by simpa using h), fun h => h113 (by simpa using h), fun h => h114 (by simpa using h), fun h => h115 (by simpa using h), fun h => h116 (by simpa using h), fun h => h117 (by simpa using h), fun h => h118 (by simpa using h), fun h => h119 (by simpa using h), fun h => h120 (by simpa using h), fun h => h121 (by simpa using h), fun h => h122 (by simpa using h), fun h => h123 (by simpa using h), fun h => h124 (by simpa using h), fun h => h8 (by simpa using h), trivial⟩
    · exact hX
  case x1hs1 =>
    intro s a' w' hsk hdep hI K hK
    try dsimp only at hI hK
    obtain ⟨v105, v106, v107, v108, v109, v110, v111, v112, v113, v114, v115, v116, v117, v118, v119, v120, v121, v122, v123, v124, v8, hact, hR, hX, _⟩ := hI
    subst hact
    have HK := Lib.hid hK
    clear hK
    have e105 : v105 = .int .i64 0 := by obtain ⟨h105, h106, h107, h108, h109, h110, h111, h112, h113, h114, h115, h116, h117, h118, h119, h120, h121, h122, h123, h124, h8, _⟩ := hR.out; exact h105 (hdep ⟨0, .data⟩ (by simp) rfl)
    subst e105
    have kc0 : w'.cell? ⟨w7.heap.size, 0, none⟩ = some (.int .i64 X1) := hX.cell (by first | (simp; done) | (simp; omega)) (by first | assumption | (go_simp; done) | (simp; done))
    have kc1 : w'.cell? ⟨w7.heap.size, 1, none⟩ = some (.int .i64 Y1) := hX.cell (by first | (simp; done) | (simp; omega)) (by first | assumption | (go_simp; done) | (simp; done))
    have kc2 : w'.cell? ⟨w8.heap.size, 0, none⟩ = some (.int .i64 X2) := hX.cell (by first | (simp; done) | (simp; omega)) (by first | assumption | (go_simp; done) | (simp; done))
    have kc3 : w'.cell? ⟨w8.heap.size, 1, none⟩ = some (.int .i64 Y2) := hX.cell (by first | (simp; done) | (simp; omega)) (by first | assumption | (go_simp; done) | (simp; done))
    have kc4 : w'.cell? ⟨w10.heap.size, 0, none⟩ = some (.int .i64 X) := hX.cell (by first | (simp; done) | (simp; omega)) (by first | assumption | (go_simp; done) | (simp; done))
    have kc5 : w'.cell? ⟨w10.heap.size, 1, none⟩ = some (.int .i64 Y) := hX.cell (by first | (simp; done) | (simp; omega)) (by first | assumption | (go_simp; done) | (simp; done))
    clear hdep
    refine StepG.mk rfl ?_; rw [ha0]; simp only [putL, Act.put, List.setIfInBounds_toArray, List.set_cons_zero, List.set_cons_succ]
    go_wp2_with fail
    refine HK.out _ _ ?_
    refine ⟨(.int .i64 0), (.bool true), v107, v108, v109, v110, v111, v112, v113, v114, v115, v116, v117, v118, v119, v120, v121, v122, v123, v124, v8, (by rw [ha0]; simp only [putL, Act.put, List.setIfInBounds_toArray, List.set_cons_zero, List.set_cons_succ]), ?_, ?_, trivial⟩
    · obtain ⟨h105, h106, h107, h108, h109, h110, h111, h112, h113, h114, h115, h116, h117, h118, h119, h120, h121, h122, h123, h124, h8, _⟩ := hR.out
      exact Lib.hid ⟨fun _ => rfl, fun _ => rfl, fun h => h107 (by simpa using h), fun h => h108 (by simpa using h), fun h => h109 (by simpa using h), fun h => h110 (by simpa using h), fun h => h111 (by simpa using h), fun h => h112 (by simpa using h), fun h => h113 (by simpa using h), fun h => h114 (by simpa using h), fun h => h115 (by simpa using h), fun h => h116 (by simpa using h), fun h => h117 (by simpa using h), fun h => h118 (by simpa using h), fun h => h119 (by simpa using h), fun h => h120 (by simpa using h), fun h => h121 (by simpa using h), fun h => h122 (by simpa using h), fun h => h123 (by simpa using h), fun h => h124 (by simpa using h), fun h => h8 (by simpa using h), trivial⟩
    · exact hX
  case x1hs2 =>
    intro s a' w' hsk hdep hI K hK
    try dsimp only at hI hK
    obtain ⟨v105, v106, v107, v108, v109, v110, v111, v112, v113, v114, v115, v116, v117, v118, v119, v120, v121, v122, v123, v124, v8, hact, hR, hX, _⟩ := hI
    subst hact
    have HK := Lib.hid hK
    clear hK
    have e106 : v106 = .bool true := by obtain ⟨h105, h106, h107, h108, h109, h110, h111, h112, h113, h114, h115, h116, h117, h118, h119, h120, h121, h122, h123, h124, h8, _⟩ := hR.out; exact h106 (hdep ⟨1, .data⟩ (by simp) rfl)
    subst e106
    have kc0 : w'.cell? ⟨w7.heap.size, 0, none⟩ = some (.int .i64 X1) := hX.cell (by first | (simp; done) | (simp; omega)) (by first | assumption | (go_simp; done) | (simp; done))
    have kc1 : w'.cell? ⟨w7.heap.size, 1, none⟩ = some (.int .i64 Y1) := hX.cell (by first | (simp; done) | (simp; omega)) (by first | assumption | (go_simp; done) | (simp; done))
    have kc2 : w'.cell? ⟨w8.heap.size, 0, none⟩ = some (.int .i64 X2) := hX.cell (by first | (simp; done) | (simp; omega)) (by first | assumption | (go_simp; done) | (simp; done))
    have kc3 : w'.cell? ⟨w8.heap.size, 1, none⟩ = some (.int .i64 Y2) := hX.cell (by first | (simp; done) | (simp; omega)) (by first | assumption | (go_simp; done) | (simp; done))
    have kc4 : w'.cell? ⟨w10.heap.size, 0, none⟩ = some (.int .i64 X) := hX.cell (by first | (simp; done) | (simp; omega)) (by first | assumption | (go_simp; done) | (simp; done))
    have kc5 : w'.cell? ⟨w10.heap.size, 1, none⟩ = some (.int .i64 Y) := hX.cell (by first | (simp; done) | (simp; omega)) (by first | assumption | (go_simp; done) | (simp; done))
    clear hdep
    refine StepG.mk rfl ?_; rw [ha0]; simp only [putL, Act.put, List.setIfInBounds_toArray, List.set_cons_zero, List.set_cons_succ]
    go_wp2_with fail
    refine HK.out _ _ ?_
    refine ⟨v105, (.bool true), (.bool true), v108, v109, v110, v111, v112, v113, v114, v115, v116, v117, v118, v119, v120, v121, v122, v123, v124, v8, (by rw [ha0]; simp only [putL, Act.put, List.setIfInBounds_toArray, List.set_cons_zero, List.set_cons_succ]), ?_, ?_, trivial⟩
    · obtain ⟨h105, h106, h107, h108, h109, h110, h111, h112, h113, h114, h115, h116, h117, h118, h119, h120, h121, h122, h123, h124, h8, _⟩ := hR.out
      exact Lib.hid ⟨fun h => h105 (by simpa using h), fun _ => rfl, fun _ => rfl, fun h => h108 (by simpa using h), fun h => h109 (by simpa using h), fun h => h110 (by simpa using h), fun h => h111 (by simpa using h), fun h => h112 (by simpa using h), fun h => h113 (by simpa using h), fun h => h114 (by simpa using h), fun h => h115 (by simpa using h), fun h => h116 (by simpa using h), fun h => h117 (by simpa using h), fun h => h118 (by simpa using h), fun h => h119 (by simpa using h), fun h => h120 (by simpa using h), fun h => h121 (by simpa using h), fun h => h122 (by simpa using h), fun h => h123 (by simpa using h), fun h => h124 (by simpa using h), fun h => h8 (by simpa using h), trivial⟩
    · exact hX
  case x1hs3 =>
    intro s a' w' hsk hdep hI K hK
    try dsimp only at hI hK
    obtain ⟨v105, v106, v107, v108, v109, v110, v111, v112, v113, v114, v115, v116, v117, v118, v119, v120, v121, v122, v123, v124, v8, hact, hR, hX, _⟩ := hI
    subst hact
    have HK := Lib.hid hK
    clear hK
    have e107 : v107 = .bool true := by obtain ⟨h105, h106, h107, h108, h109, h110, h111, h112, h113, h114, h115, h116, h117, h118, h119, h120, h121, h122, h123, h124, h8, _⟩ := hR.out; exact h107 (hdep ⟨2, .guard⟩ (by simp) rfl)
    subst e107
    have kc0 : w'.cell? ⟨w7.heap.size, 0, none⟩ = some (.int .i64 X1) := hX.cell (by first | (simp; done) | (simp; omega)) (by first | assumption | (go_simp; done) | (simp; done))
    have kc1 : w'.cell? ⟨w7.heap.size, 1, none⟩ = some (.int .i64 Y1) := hX.cell (by first | (simp; done) | (simp; omega)) (by first | assumption | (go_simp; done) | (simp; done))
    have kc2 : w'.cell? ⟨w8.heap.size, 0, none⟩ = some (.int .i64 X2) := hX.cell (by first | (simp; done) | (simp; omega)) (by first | assumption | (go_simp; done) | (simp; done))
    have kc3 : w'.cell? ⟨w8.heap.size, 1, none⟩ = some (.int .i64 Y2) := hX.cell (by first | (simp; done) | (simp; omega)) (by first | assumption | (go_simp; done) | (simp; done))
    have kc4 : w'.cell? ⟨w10.heap.size, 0, none⟩ = some (.int .i64 X) := hX.cell (by first | (simp; done) | (simp; omega)) (by first | assumption | (go_simp; done) | (simp; done))
    have kc5 : w'.cell? ⟨w10.heap.size, 1, none⟩ = some (.int .i64 Y) := hX.cell (by first | (simp; done) | (simp; omega)) (by first | assumption | (go_simp; done) | (simp; done))
    clear hdep
    refine StepG.lay ?_; rw [ha0]; simp only [putL, Act.put, List.setIfInBounds_toArray, List.set_cons_zero, List.set_cons_succ]
    go_wp2_with fail
    refine HK.out _ _ ?_
    refine ⟨v105, v106, (.bool true), (.agg #[.int .i64 X1, .int .i64 Y1]), v109, v110, v111, v112, v113, v114, v115, v116, v117, v118, v119, v120, v121, v122, v123, v124, v8, (by rw [ha0]; simp only [putL, Act.put, List.setIfInBounds_toArray, List.set_cons_zero, List.set_cons_succ]), ?_, ?_, trivial⟩
    · obtain ⟨h105, h106, h107, h108, h109, h110, h111, h112, h113, h114, h115, h116, h117, h118, h119, h120, h121, h122, h123, h124, h8, _⟩ := hR.out
      exact Lib.hid ⟨fun h => h105 (by simpa using h), fun h => h106 (by simpa using h), fun _ => rfl, fun _ => rfl, fun h => h109 (by simpa using h), fun h => h110 (by simpa using h), fun h => h111 (by simpa using h), fun h => h112 (by simpa using h), fun h => h113 (by simpa using h), fun h => h114 (by simpa using h), fun h => h115 (by simpa using h), fun h => h116 (by simpa using h), fun h => h117 (by simpa using h), fun h => h118 (by simpa using h), fun h => h119 (by simpa using h), fun h => h120 (by simpa using h), fun h => h121 (by simpa using h), fun h => h122 (by simpa using h), fun h => h123 (by simpa using h), fun h => h124 (by simpa using h), fun h => h8 (by simpa using h), trivial⟩
    · exact hX
  case x1hs4 =>
    intro s a' w' hsk hdep hI K hK
    try dsimp only at hI hK
    obtain ⟨v105, v106, v107, v108, v109, v110, v111, v112, v113, v114, v115, v116, v117, v118, v119, v120, v121, v122, v123, v124, v8, hact, hR, hX, _⟩ := hI
    subst hact
    have HK := Lib.hid hK
    clear hK
    have e108 : v108 = .agg #[.int .i64 X1, .int .i64 Y1] := by obtain ⟨h105, h106, h107, h108, h109, h110, h111, h112, h113, h114, h115, h116, h117, h118, h119, h120, h121, h122, h123, h124, h8, _⟩ := hR.out; exact h108 (hdep ⟨3, .data⟩ (by simp) rfl)
    subst e108
    have e107 : v107 = .bool true := by obtain ⟨h105, h106, h107, h108, h109, h110, h111, h112, h113, h114, h115, h116, h117, h118, h119, h120, h121, h122, h123, h124, h8, _⟩ := hR.out; exact h107 (hdep ⟨2, .guard⟩ (by simp) rfl)
    subst e107
    have kc0 : w'.cell? ⟨w7.heap.size, 0, none⟩ = some (.int .i64 X1) := hX.cell (by first | (simp; done) | (simp; omega)) (by first | assumption | (go_simp; done) | (simp; done))
    have kc1 : w'.cell? ⟨w7.heap.size, 1, none⟩ = some (.int .i64 Y1) := hX.cell (by first | (simp; done) | (simp; omega)) (by first | assumption | (go_simp; done) | (simp; done))
    have kc2 : w'.cell? ⟨w8.heap.size, 0, none⟩ = some (.int .i64 X2) := hX.cell (by first | (simp; done) | (simp; omega)) (by first | assumption | (go_simp; done) | (simp; done))
    have kc3 : w'.cell? ⟨w8.heap.size, 1, none⟩ = some (.int .i64 Y2) := hX.cell (by first | (simp; done) | (simp; omega)) (by first | assumption | (go_simp; done) | (simp; done))
    have kc4 : w'.cell? ⟨w10.heap.size, 0, none⟩ = some (.int .i64 X) := hX.cell (by first | (simp; done) | (simp; omega)) (by first | assumption | (go_simp; done) | (simp; done))
    have kc5 : w'.cell? ⟨w10.heap.size, 1, none⟩ = some (.int .i64 Y) := hX.cell (by first | (simp; done) | (simp; omega)) (by first | assumption | (go_simp; done) | (simp; done))
    clear hdep
    refine StepG.lay ?_; rw [ha0]; simp only [putL, Act.put, List.setIfInBounds_toArray, List.set_cons_zero, List.set_cons_succ]
    go_wp2_with fail
    refine ((HN1.out _)).mono ?_
    rintro e wn ⟨rfl, hb⟩
    go_wp2_with fail
    refine HK.out _ _ ?_
    refine ⟨v105, v106, (.bool true), (.agg #[.int .i64 X1, .int .i64 Y1]), (.bool true), v110, v111, v112, v113, v114, v115, v116, v117, v118, v119, v120, v121, v122, v123, v124, v8, (by rw [ha0]; simp only [putL, Act.put, List.setIfInBounds_toArray, List.set_cons_zero, List.set_cons_succ]), ?_, ?_, trivial⟩
    · obtain ⟨h105, h106, h107, h108, h109, h110, h111, h112, h113, h114, h115, h116, h117, h118, h119, h120, h121, h122, h123, h124, h8, _⟩ := hR.out
      exact Lib.hid ⟨fun h => h105 (by simpa using h), fun h => h106 (by simpa using h), fun _ => rfl, fun _ => rfl, fun _ => rfl, fun h => h110 (by simpa using h), fun h => h111 (by simpa using h), fun h => h112 (by simpa using h), fun h => h113 (by simpa using h), fun h => h114 (by simpa using h), fun h => h115 (by simpa using h), fun h => h116 (by simpa using h), fun h => h117 (by simpa using h), fun h => h118 (by simpa using h), fun h => h119 (by simpa using h), fun h => h120 (by simpa using h), fun h => h121 (by simpa using h), fun h => h122 (by simpa using h), fun h => h123 (by simpa using h), fun h => h124 (by simpa using h), fun h => h8 (by simpa using h), trivial⟩
    · exact hX.call hb
  case x1hs5 =>
    intro s a' w' hsk hdep hI K hK
    try dsimp only at hI hK
    obtain ⟨v105, v106, v107, v108, v109, v110, v111, v112, v113, v114, v115, v116, v117, v118, v119, v120, v121, v122, v123, v124, v8, hact, hR, hX, _⟩ := hI
    subst hact
    have HK := Lib.hid hK
    clear hK
    have e107 : v107 = .bool true := by obtain ⟨h105, h106, h107, h108, h109, h110, h111, h112, h113, h114, h115, h116, h117, h118, h119, h120, h121, h122, h123, h124, h8, _⟩ := hR.out; exact h107 (hdep ⟨2, .data⟩ (by simp) rfl)
    subst e107
    have e109 : v109 = .bool true := by obtain ⟨h105, h106, h107, h108, h109, h110, h111, h112, h113, h114, h115, h116, h117, h118, h119, h120, h121, h122, h123, h124, h8, _⟩ := hR.out; exact h109 (hdep ⟨4, .data⟩ (by simp) rfl)
    subst e109
    have kc0 : w'.cell? ⟨w7.heap.size, 0, none⟩ = some (.int .i64 X1) := hX.cell (by first | (simp; done) | (simp; omega)) (by first | assumption | (go_simp; done) | (simp; done))
    have kc1 : w'.cell? ⟨w7.heap.size, 1, none⟩ = some (.int .i64 Y1) := hX.cell (by first | (simp; done) | (simp; omega)) (by first | assumption | (go_simp; done) | (simp; done))
    have kc2 : w'.cell? ⟨w8.heap.size, 0, none⟩ = some (.int .i64 X2) := hX.cell (by first | (simp; done) | (simp; omega)) (by first | assumption | (go_simp; done) | (simp; done))
    have kc3 : w'.cell? ⟨w8.heap.size, 1, none⟩ = some (.int .i64 Y2) := hX.cell (by first | (simp; done) | (simp; omega)) (by first | assumption | (go_simp; done) | (simp; done))
    have kc4 : w'.cell? ⟨w10.heap.size, 0, none⟩ = some (.int .i64 X) := hX.cell (by first | (simp; done) | (simp; omega)) (by first | assumption | (go_simp; done) | (simp; done))
    have kc5 : w'.cell? ⟨w10.heap.size, 1, none⟩ = some (.int .i64 Y) := hX.cell (by first | (simp; done) | (simp; omega)) (by first | assumption | (go_simp; done) | (simp; done))
    clear hdep
    refine StepG.mk rfl ?_; rw [ha0]; simp only [putL, Act.put, List.setIfInBounds_toArray, List.set_cons_zero, List.set_cons_succ]
    go_wp2_with fail
    refine HK.out _ _ ?_
    refine ⟨v105, v106, (.bool true), v108, (.bool true), (.bool true), v111, v112, v113, v114, v115, v116, v117, v118, v119, v120, v121, v122, v123, v124, v8, (by rw [ha0]; simp only [putL, Act.put, List.setIfInBounds_toArray, List.set_cons_zero, List.set_cons_succ]), ?_, ?_, trivial⟩
    · obtain ⟨h105, h106, h107, h108, h109, h110, h111, h112, h113, h114, h115, h116, h117, h118, h119, h120, h121, h122, h123, h124, h8, _⟩ := hR.out
      exact Lib.hid ⟨fun h => h105 (by simpa using h), fun h => h106 (by simpa using h), fun _ => rfl, fun h => h108 (by simpa using h), fun _ => rfl, fun _ => rfl, fun h => h111 (by simpa using h), fun h => h112 (by simpa using h), fun h => h113 (by simpa using h), fun h => h114 (by simpa using h), fun h => h115 (by simpa using h), fun h => h116 (by simpa using h), fun h => h117 (by simpa using h), fun h => h118 (by simpa using h), fun h => h119 (by simpa using h), fun h => h120 (by simpa using h), fun h => h121 (by simpa using h), fun h => h122 (by simpa using h), fun h => h123 (by simpa using h), fun h => h124 (by simpa using h), fun h => h8 (by simpa using h), trivial⟩
    · exact hX
  case x1hs6 =>
    intro s a' w' hsk hdep hI K hK
    try dsimp only at hI hK
    obtain ⟨v105, v106, v107, v108, v109, v110, v111, v112, v113, v114, v115, v116, v117, v118, v119, v120, v121, v122, v123, v124, v8, hact, hR, hX, _⟩ := hI
    subst hact
    have HK := Lib.hid hK
    clear hK
    have e110 : v110 = .bool true := by obtain ⟨h105, h106, h107, h108, h109, h110, h111, h112, h113, h114, h115, h116, h117, h118, h119, h120, h121, h122, h123, h124, h8, _⟩ := hR.out; exact h110 (hdep ⟨5, .data⟩ (by simp) rfl)
    subst e110
    have kc0 : w'.cell? ⟨w7.heap.size, 0, none⟩ = some (.int .i64 X1) := hX.cell (by first | (simp; done) | (simp; omega)) (by first | assumption | (go_simp; done) | (simp; done))
    have kc1 : w'.cell? ⟨w7.heap.size, 1, none⟩ = some (.int .i64 Y1) := hX.cell (by first | (simp; done) | (simp; omega)) (by first | assumption | (go_simp; done) | (simp; done))
    have kc2 : w'.cell? ⟨w8.heap.size, 0, none⟩ = some (.int .i64 X2) := hX.cell (by first | (simp; done) | (simp; omega)) (by first | assumption | (go_simp; done) | (simp; done))
    have kc3 : w'.cell? ⟨w8.heap.size, 1, none⟩ = some (.int .i64 Y2) := hX.cell (by first | (simp; done) | (simp; omega)) (by first | assumption | (go_simp; done) | (simp; done))
    have kc4 : w'.cell? ⟨w10.heap.size, 0, none⟩ = some (.int .i64 X) := hX.cell (by first | (simp; done) | (simp; omega)) (by first | assumption | (go_simp; done) | (simp; done))
    have kc5 : w'.cell? ⟨w10.heap.size, 1, none⟩ = some (.int .i64 Y) := hX.cell (by first | (simp; done) | (simp; omega)) (by first | assumption | (go_simp; done) | (simp; done))
    clear hdep
    refine StepG.mk rfl ?_; rw [ha0]; simp only [putL, Act.put, List.setIfInBounds_toArray, List.set_cons_zero, List.set_cons_succ]
    go_wp2_with fail
    refine HK.out _ _ ?_
    refine ⟨v105, v106, v107, v108, v109, (.bool true), (.bool true), v112, v113, v114, v115, v116, v117, v118, v119, v120, v121, v122, v123, v124, v8, (by rw [ha0]; simp only [putL, Act.put, List.setIfInBounds_toArray, List.set_cons_zero, List.set_cons_succ]), ?_, ?_, trivial⟩
    · obtain ⟨h105, h106, h107, h108, h109, h110, h111, h112, h113, h114, h115, h116, h117, h118, h119, h120, h121, h122, h123, h124, h8, _⟩ := hR.out
      exact Lib.hid ⟨fun h => h105 (by simpa using h), fun h => h106 (by simpa using h), fun h => h107 (by simpa using h), fun h => h108 (by simpa using h), fun h => h109 (by simpa using h), fun _ => rfl, fun _ => rfl, fun h => h112 (by simpa using h), fun h => h113 (by simpa using h), fun h => h114 (by simpa using h), fun h => h115 (by simpa using h), fun h => h116 (by simpa using h), fun h => h117 (by simpa using h), fun h => h118 (by simpa using h), fun h => h119 (by simpa using h), fun h => h120 (by simpa using h), fun h => h121 (by simpa using h), fun h => h122 (by simpa using h), fun h => h123 (by simpa using h), fun h => h124 (by simpa using h), fun h => h8 (by simpa using h), trivial⟩
    · exact hX
  case x1hs7 =>
    intro s a' w' hsk hdep hI K hK
    try dsimp only at hI hK
    obtain ⟨v105, v106, v107, v108, v109, v110, v111, v112, v113, v114, v115, v116, v117, v118, v119, v120, v121, v122, v123, v124, v8, hact, hR, hX, _⟩ := hI
    subst hact
    have HK := Lib.hid hK
    clear hK
    have e111 : v111 = .bool true := by obtain ⟨h105, h106, h107, h108, h109, h110, h111, h112, h113, h114, h115, h116, h117, h118, h119, h120, h121, h122, h123, h124, h8, _⟩ := hR.out; exact h111 (hdep ⟨6, .guard⟩ (by simp) rfl)
    subst e111
    have kc0 : w'.cell? ⟨w7.heap.size, 0, none⟩ = some (.int .i64 X1) := hX.cell (by first | (simp; done) | (simp; omega)) (by first | assumption | (go_simp; done) | (simp; done))
    have kc1 : w'.cell? ⟨w7.heap.size, 1, none⟩ = some (.int .i64 Y1) := hX.cell (by first | (simp; done) | (simp; omega)) (by first | assumption | (go_simp; done) | (simp; done))
    have kc2 : w'.cell? ⟨w8.heap.size, 0, none⟩ = some (.int .i64 X2) := hX.cell (by first | (simp; done) | (simp; omega)) (by first | assumption | (go_simp; done) | (simp; done))
    have kc3 : w'.cell? ⟨w8.heap.size, 1, none⟩ = some (.int .i64 Y2) := hX.cell (by first | (simp; done) | (simp; omega)) (by first | assumption | (go_simp; done) | (simp; done))
    have kc4 : w'.cell? ⟨w10.heap.size, 0, none⟩ = some (.int .i64 X) := hX.cell (by first | (simp; done) | (simp; omega)) (by first | assumption | (go_simp; done) | (simp; done))
    have kc5 : w'.cell? ⟨w10.heap.size, 1, none⟩ = some (.int .i64 Y) := hX.cell (by first | (simp; done) | (simp; omega)) (by first | assumption | (go_simp; done) | (simp; done))
    clear hdep
    refine StepG.lay ?_; rw [ha0]; simp only [putL, Act.put, List.setIfInBounds_toArray, List.set_cons_zero, List.set_cons_succ]
    go_wp2_with fail
    refine HK.out _ _ ?_
    refine ⟨v105, v106, v107, v108, v109, v110, (.bool true), (.agg #[.int .i64 X2, .int .i64 Y2]), v113, v114, v115, v116, v117, v118, v119, v120, v121, v122, v123, v124, v8, (by rw [ha0]; simp only [putL, Act.put, List.setIfInBounds_toArray, List.set_cons_zero, List.set_cons_succ]), ?_, ?_, trivial⟩
    · obtain ⟨h105, h106, h107, h108, h109, h110, h111, h112, h113, h114, h115, h116, h117, h118, h119, h120, h121, h122, h123, h124, h8, _⟩ := hR.out
      exact Lib.hid ⟨fun h => h105 (by simpa using h), fun h => h106 (by simpa using h), fun h => h107 (by simpa using h), fun h => h108 (by simpa using h), fun h => h109 (by simpa using h), fun h => h110 (by simpa using h), fun _ => rfl, fun _ => rfl, fun h => h113 (by simpa using h), fun h => h114 (by simpa using h), fun h => h115 (by simpa using h), fun h => h116 (by simpa using h), fun h => h117 (by simpa using h), fun h => h118 (by simpa using h), fun h => h119 (by simpa using h), fun h => h120 (by simpa using h), fun h => h121 (by simpa using h), fun h => h122 (by simpa using h), fun h => h123 (by simpa using h), fun h => h124 (by simpa using h), fun h => h8 (by simpa using h), trivial⟩
    · exact hX
  case x1hs8 =>
    intro s a' w' hsk hdep hI K hK
    try dsimp only at hI hK
    obtain ⟨v105, v106, v107, v108, v109, v110, v111, v112, v113, v114, v115, v116, v117, v118, v119, v120, v121, v122, v123, v124, v8, hact, hR, hX, _⟩ := hI
    subst hact
    have HK := Lib.hid hK
    clear hK
    have e112 : v112 = .agg #[.int .i64 X2, .int .i64 Y2] := by obtain ⟨h105, h106, h107, h108, h109, h110, h111, h112, h113, h114, h115, h116, h117, h118, h119, h120, h121, h122, h123, h124, h8, _⟩ := hR.out; exact h112 (hdep ⟨7, .data⟩ (by simp) rfl)
    subst e112
    have e111 : v111 = .bool true := by obtain ⟨h105, h106, h107, h108, h109, h110, h111, h112, h113, h114, h115, h116, h117, h118, h119, h120, h121, h122, h123, h124, h8, _⟩ := hR.out; exact h111 (hdep ⟨6, .guard⟩ (by simp) rfl)
    subst e111
    have kc0 : w'.cell? ⟨w7.heap.size, 0, none⟩ = some (.int .i64 X1) := hX.cell (by first | (simp; done) | (simp; omega)) (by first | assumption | (go_simp; done) | (simp; done))
    have kc1 : w'.cell? ⟨w7.heap.size, 1, none⟩ = some (.int .i64 Y1) := hX.cell (by first | (simp; done) | (simp; omega)) (by first | assumption | (go_simp; done) | (simp; done))
    have kc2 : w'.cell? ⟨w8.heap.size, 0, none⟩ = some (.int .i64 X2) := hX.cell (by first | (simp; done) | (simp; omega)) (by first | assumption | (go_simp; done) | (simp; done))
    have kc3 : w'.cell? ⟨w8.heap.size, 1, none⟩ = some (.int .i64 Y2) := hX.cell (by first | (simp; done) | (simp; omega)) (by first | assumption | (go_simp; done) | (simp; done))
    have kc4 : w'.cell? ⟨w10.heap.size, 0, none⟩ = some (.int .i64 X) := hX.cell (by first | (simp; done) | (simp; omega)) (by first | assumption | (go_simp; done) | (simp; done))
    have kc5 : w'.cell? ⟨w10.heap.size, 1, none⟩ = some (.int .i64 Y) := hX.cell (by first | (simp; done) | (simp; omega)) (by first | assumption | (go_simp; done) | (simp; done))
    clear hdep
    refine StepG.lay ?_; rw [ha0]; simp only [putL, Act.put, List.setIfInBounds_toArray, List.set_cons_zero, List.set_cons_succ]
    go_wp2_with fail
    refine ((HN2.out _)).mono ?_
    rintro e wn ⟨rfl, hb⟩
    go_wp2_with fail
    refine HK.out _ _ ?_
    refine ⟨v105, v106, v107, v108, v109, v110, (.bool true), (.agg #[.int .i64 X2, .int .i64 Y2]), (.bool true), v114, v115, v116, v117, v118, v119, v120, v121, v122, v123, v124, v8, (by rw [ha0]; simp only [putL, Act.put, List.setIfInBounds_toArray, List.set_cons_zero, List.set_cons_succ]), ?_, ?_, trivial⟩
    · obtain ⟨h105, h106, h107, h108, h109, h110, h111, h112, h113, h114, h115, h116, h117, h118, h119, h120, h121, h122, h123, h124, h8, _⟩ := hR.out
      exact Lib.hid ⟨fun h => h105 (by simpa using h), fun h => h106 (by simpa using h), fun h => h107 (by simpa using h), fun h => h108 (by simpa using h), fun h => h109 (by simpa using h), fun h => h110 (by simpa using h), fun _ => rfl, fun _ => rfl, fun _ => rfl, fun h => h114 (by simpa using h), fun h => h115 (by simpa using h), fun h => h116 (by simpa using h), fun h => h117 (by simpa using h), fun h => h118 (by simpa using h), fun h => h119 (by simpa using h), fun h => h120 (by simpa using h), fun h => h121 (by simpa using h), fun h => h122 (by simpa using h), fun h => h123 (by simpa using h), fun h => h124 (by simpa using h), fun h => h8 (by simpa using h), trivial⟩
    · exact hX.call hb
  case x1hs9 =>
    intro s a' w' hsk hdep hI K hK
    try dsimp only at hI hK
    obtain ⟨v105, v106, v107, v108, v109, v110, v111, v112, v113, v114, v115, v116, v117, v118, v119, v120, v121, v122, v123, v124, v8, hact, hR, hX, _⟩ := hI
    subst hact
    have HK := Lib.hid hK
    clear hK
    have e111 : v111 = .bool true := by obtain ⟨h105, h106, h107, h108, h109, h110, h111, h112, h113, h114, h115, h116, h117, h118, h119, h120, h121, h122, h123, h124, h8, _⟩ := hR.out; exact h111 (hdep ⟨6, .data⟩ (by simp) rfl)
    subst e111
    have e113 : v113 = .bool true := by obtain ⟨h105, h106, h107, h108, h109, h110, h111, h112, h113, h114, h115, h116, h117, h118, h119, h120, h121, h122, h123, h124, h8, _⟩ := hR.out; exact h113 (hdep ⟨8, .data⟩ (by simp) rfl)
    subst e113
    have kc0 : w'.cell? ⟨w7.heap.size, 0, none⟩ = some (.int .i64 X1) := hX.cell (by first | (simp; done) | (simp; omega)) (by first | assumption | (go_simp; done) | (simp; done))
    have kc1 : w'.cell? ⟨w7.heap.size, 1, none⟩ = some (.int .i64 Y1) := hX.cell (by first | (simp; done) | (simp; omega)) (by first | assumption | (go_simp; done) | (simp; done))
    have kc2 : w'.cell? ⟨w8.heap.size, 0, none⟩ = some (.int .i64 X2) := hX.cell (by first | (simp; done) | (simp; omega)) (by first | assumption | (go_simp; done) | (simp; done))
    have kc3 : w'.cell? ⟨w8.heap.size, 1, none⟩ = some (.int .i64 Y2) := hX.cell (by first | (simp; done) | (simp; omega)) (by first | assumption | (go_simp; done) | (simp; done))
    have kc4 : w'.cell? ⟨w10.heap.size, 0, none⟩ = some (.int .i64 X) := hX.cell (by first | (simp; done) | (simp; omega)) (by first | assumption | (go_simp; done) | (simp; done))
    have kc5 : w'.cell? ⟨w10.heap.size, 1, none⟩ = some (.int .i64 Y) := hX.cell (by first | (simp; done) | (simp; omega)) (by first | assumption | (go_simp; done) | (simp; done))
    clear hdep
    refine StepG.mk rfl ?_; rw [ha0]; simp only [putL, Act.put, List.setIfInBounds_toArray, List.set_cons_zero, List.set_cons_succ]
    go_wp2_with fail
    refine HK.out _ _ ?_
    refine ⟨v105, v106, v107, v108, v109, v110, (.bool true), v112, (.bool true), (.bool true), v115, v116, v117, v118, v119, v120, v121, v122, v123, v124, v8, (by rw [ha0]; simp only [putL, Act.put, List.setIfInBounds_toArray, List.set_cons_zero, List.set_cons_succ]), ?_, ?_, trivial⟩
    · obtain ⟨h105, h106, h107, h108, h109, h110, h111, h112, h113, h114, h115, h116, h117, h118, h119, h120, h121, h122, h123, h124, h8, _⟩ := hR.out
      exact Lib.hid ⟨fun h => h105 (by simpa using h), fun h => h106 (by simpa using h), fun h => h107 (by simpa using h), fun h => h108 (by simpa using h), fun h => h109 (by simpa using h), fun h => h110 (by simpa using h), fun _ => rfl, fun h => h112 (by simpa using h), fun _ => rfl, fun _ => rfl, fun h => h115 (by simpa using h), fun h => h116 (by simpa using h), fun h => h117 (by simpa using h), fun h => h118 (by simpa using h), fun h => h119 (by simpa using h), fun h => h120 (by simpa using h), fun h => h121 (by simpa using h), fun h => h122 (by simpa using h), fun h => h123 (by simpa using h), fun h => h124 (by simpa using h), fun h => h8 (by simpa using h), trivial⟩
    · exact hX
  case x1hs10 =>
    intro s a' w' hsk hdep hI K hK
    try dsimp only at hI hK
    obtain ⟨v105, v106, v107, v108, v109, v110, v111, v112, v113, v114, v115, v116, v117, v118, v119, v120, v121, v122, v123, v124, v8, hact, hR, hX, _⟩ := hI
    subst hact
    have HK := Lib.hid hK
    clear hK
    have e114 : v114 = .bool true := by obtain ⟨h105, h106, h107, h108, h109, h110, h111, h112, h113, h114, h115, h116, h117, h118, h119, h120, h121, h122, h123, h124, h8, _⟩ := hR.out; exact h114 (hdep ⟨9, .data⟩ (by simp) rfl)
    subst e114
    have kc0 : w'.cell? ⟨w7.heap.size, 0, none⟩ = some (.int .i64 X1) := hX.cell (by first | (simp; done) | (simp; omega)) (by first | assumption | (go_simp; done) | (simp; done))
    have kc1 : w'.cell? ⟨w7.heap.size, 1, none⟩ = some (.int .i64 Y1) := hX.cell (by first | (simp; done) | (simp; omega)) (by first | assumption | (go_simp; done) | (simp; done))
    have kc2 : w'.cell? ⟨w8.heap.size, 0, none⟩ = some (.int .i64 X2) := hX.cell (by first | (simp; done) | (simp; omega)) (by first | assumption | (go_simp; done) | (simp; done))
    have kc3 : w'.cell? ⟨w8.heap.size, 1, none⟩ = some (.int .i64 Y2) := hX.cell (by first | (simp; done) | (simp; omega)) (by first | assumption | (go_simp; done) | (simp; done))
    have kc4 : w'.cell? ⟨w10.heap.size, 0, none⟩ = some (.int .i64 X) := hX.cell (by first | (simp; done) | (simp; omega)) (by first | assumption | (go_simp; done) | (simp; done))
    have kc5 : w'.cell? ⟨w10.heap.size, 1, none⟩ = some (.int .i64 Y) := hX.cell (by first | (simp; done) | (simp; omega)) (by first | assumption | (go_simp; done) | (simp; done))
    clear hdep
    refine StepG.mk rfl ?_; rw [ha0]; simp only [putL, Act.put, List.setIfInBounds_toArray, List.set_cons_zero, List.set_cons_succ]
    go_wp2_with fail
    refine HK.out _ _ ?_
    refine ⟨v105, v106, v107, v108, v109, v110, v111, v112, v113, (.bool true), (.bool true), v116, v117, v118, v119, v120, v121, v122, v123, v124, v8, (by rw [ha0]; simp only [putL, Act.put, List.setIfInBounds_toArray, List.set_cons_zero, List.set_cons_succ]), ?_, ?_, trivial⟩
    · obtain ⟨h105, h106, h107, h108, h109, h110, h111, h112, h113, h114, h115, h116, h117, h118, h119, h120, h121, h122, h123, h124, h8, _⟩ := hR.out
      exact Lib.hid ⟨fun h => h105 (by simpa using h), fun h => h106 (by simpa using h), fun h => h107 (by simpa using h), fun h => h108 (by simpa using h), fun h => h109 (by simpa using h), fun h => h110 (by simpa using h), fun h => h111 (by simpa using h), fun h => h112 (by simpa using h), fun h => h113 (by simpa using h), fun _ => rfl, fun _ => rfl, fun h => h116 (by simpa using h), fun h => h117 (by simpa using h), fun h => h118 (by simpa using h), fun h => h119 (by simpa using h), fun h => h120 (by simpa using h), fun h => h121 (by simpa using h), fun h => h122 (by simpa using h), fun h => h123 (by simpa using h), fun h => h124 (by simpa using h), fun h => h8 (by simpa using h), trivial⟩
    · exact hX
  case x1hs11 =>
    intro s a' w' hsk hdep hI K hK
    try dsimp only at hI hK
    obtain ⟨v105, v106, v107, v108, v109, v110, v111, v112, v113, v114, v115, v116, v117, v118, v119, v120, v121, v122, v123, v124, v8, hact, hR, hX, _⟩ := hI
    subst hact
    have HK := Lib.hid hK
    clear hK
    have e115 : v115 = .bool true := by obtain ⟨h105, h106, h107, h108, h109, h110, h111, h112, h113, h114, h115, h116, h117, h118, h119, h120, h121, h122, h123, h124, h8, _⟩ := hR.out; exact h115 (hdep ⟨10, .guard⟩ (by simp) rfl)
    subst e115
    have kc0 : w'.cell? ⟨w7.heap.size, 0, none⟩ = some (.int .i64 X1) := hX.cell (by first | (simp; done) | (simp; omega)) (by first | assumption | (go_simp; done) | (simp; done))
    have kc1 : w'.cell? ⟨w7.heap.size, 1, none⟩ = some (.int .i64 Y1) := hX.cell (by first | (simp; done) | (simp; omega)) (by first | assumption | (go_simp; done) | (simp; done))
    have kc2 : w'.cell? ⟨w8.heap.size, 0, none⟩ = some (.int .i64 X2) := hX.cell (by first | (simp; done) | (simp; omega)) (by first | assumption | (go_simp; done) | (simp; done))
    have kc3 : w'.cell? ⟨w8.heap.size, 1, none⟩ = some (.int .i64 Y2) := hX.cell (by first | (simp; done) | (simp; omega)) (by first | assumption | (go_simp; done) | (simp; done))
    have kc4 : w'.cell? ⟨w10.heap.size, 0, none⟩ = some (.int .i64 X) := hX.cell (by first | (simp; done) | (simp; omega)) (by first | assumption | (go_simp; done) | (simp; done))
    have kc5 : w'.cell? ⟨w10.heap.size, 1, none⟩ = some (.int .i64 Y) := hX.cell (by first | (simp; done) | (simp; omega)) (by first | assumption | (go_simp; done) | (simp; done))
    clear hdep
    refine StepG.lay ?_; rw [ha0]; simp only [putL, Act.put, List.setIfInBounds_toArray, List.set_cons_zero, List.set_cons_succ]
    go_wp2_with fail
    refine HK.out _ _ ?_
    refine ⟨v105, v106, v107, v108, v109, v110, v111, v112, v113, v114, (.bool true), (.agg #[.int .i64 X, .int .i64 Y]), v117, v118, v119, v120, v121, v122, v123, v124, v8, (by rw [ha0]; simp only [putL, Act.put, List.setIfInBounds_toArray, List.set_cons_zero, List.set_cons_succ]), ?_, ?_, trivial⟩
    · obtain ⟨h105, h106, h107, h108, h109, h110, h111, h112, h113, h114, h115, h116, h117, h118, h119, h120, h121, h122, h123, h124, h8, _⟩ := hR.out
      exact Lib.hid ⟨fun h => h105 (by simpa using h), fun h => h106 (by simpa using h), fun h => h107 (by simpa using h), fun h => h108 (by simpa using h), fun h => h109 (by simpa using h), fun h => h110 (by simpa using h), fun h => h111 (by simpa using h), fun h => h112 (by simpa using h), fun h => h113 (by simpa using h), fun h => h114 (by simpa using h), fun _ => rfl, fun _ => rfl, fun h => h117 (by simpa using h), fun h => h118 (by simpa using h), fun h => h119 (by simpa using h), fun h => h120 (by simpa using h), fun h => h121 (by simpa using h), fun h => h122 (by simpa using h), fun h => h123 (by simpa using h), fun h => h124 (by simpa using h), fun h => h8 (by simpa using h), trivial⟩
    · exact hX
  case x1hs12 =>
    intro s a' w' hsk hdep hI K hK
    try dsimp only at hI hK
    obtain ⟨v105, v106, v107, v108, v109, v110, v111, v112, v113, v114, v115, v116, v117, v118, v119, v120, v121, v122, v123, v124, v8, hact, hR, hX, _⟩ := hI
    subst hact
    have HK := Lib.hid hK
    clear hK
    have e115 : v115 = .bool true := by obtain ⟨h105, h106, h107, h108, h109, h110, h111, h112, h113, h114, h115, h116, h117, h118, h119, h120, h121, h122, h123, h124, h8, _⟩ := hR.out; exact h115 (hdep ⟨10, .guard⟩ (by simp) rfl)
    subst e115
    have kc0 : w'.cell? ⟨w7.heap.size, 0, none⟩ = some (.int .i64 X1) := hX.cell (by first | (simp; done) | (simp; omega)) (by first | assumption | (go_simp; done) | (simp; done))
    have kc1 : w'.cell? ⟨w7.heap.size, 1, none⟩ = some (.int .i64 Y1) := hX.cell (by first | (simp; done) | (simp; omega)) (by first | assumption | (go_simp; done) | (simp; done))
    have kc2 : w'.cell? ⟨w8.heap.size, 0, none⟩ = some (.int .i64 X2) := hX.cell (by first | (simp; done) | (simp; omega)) (by first | assumption | (go_simp; done) | (simp; done))
    have kc3 : w'.cell? ⟨w8.heap.size, 1, none⟩ = some (.int .i64 Y2) := hX.cell (by first | (simp; done) | (simp; omega)) (by first | assumption | (go_simp; done) | (simp; done))
    have kc4 : w'.cell? ⟨w10.heap.size, 0, none⟩ = some (.int .i64 X) := hX.cell (by first | (simp; done) | (simp; omega)) (by first | assumption | (go_simp; done) | (simp; done))
    have kc5 : w'.cell? ⟨w10.heap.size, 1, none⟩ = some (.int .i64 Y) := hX.cell (by first | (simp; done) | (simp; omega)) (by first | assumption | (go_simp; done) | (simp; done))
    clear hdep
    refine StepG.lay ?_; rw [ha0]; simp only [putL, Act.put, List.setIfInBounds_toArray, List.set_cons_zero, List.set_cons_succ]
    go_wp2_with fail
    refine HK.out _ _ ?_
    refine ⟨v105, v106, v107, v108, v109, v110, v111, v112, v113, v114, (.bool true), v116, (.agg #[.int .i64 X1, .int .i64 Y1]), v118, v119, v120, v121, v122, v123, v124, v8, (by rw [ha0]; simp only [putL, Act.put, List.setIfInBounds_toArray, List.set_cons_zero, List.set_cons_succ]), ?_, ?_, trivial⟩
    · obtain ⟨h105, h106, h107, h108, h109, h110, h111, h112, h113, h114, h115, h116, h117, h118, h119, h120, h121, h122, h123, h124, h8, _⟩ := hR.out
      exact Lib.hid ⟨fun h => h105 (by simpa using h), fun h => h106 (by simpa using h), fun h => h107 (by simpa using h), fun h => h108 (by simpa using h), fun h => h109 (by simpa using h), fun h => h110 (by simpa using h), fun h => h111 (by simpa using h), fun h => h112 (by simpa using h), fun h => h113 (by simpa using h), fun h => h114 (by simpa using h), fun _ => rfl, fun h => h116 (by simpa using h), fun _ => rfl, fun h => h118 (by simpa using h), fun h => h119 (by simpa using h), fun h => h120 (by simpa using h), fun h => h121 (by simpa using h), fun h => h122 (by simpa using h), fun h => h123 (by simpa using h), fun h => h124 (by simpa using h), fun h => h8 (by simpa using h), trivial⟩
    · exact hX
  case x1hs13 =>
    intro s a' w' hsk hdep hI K hK
    try dsimp only at hI hK
    obtain ⟨v105, v106, v107, v108, v109, v110, v111, v112, v113, v114, v115, v116, v117, v118, v119, v120, v121, v122, v123, v124, v8, hact, hR, hX, _⟩ := hI
    subst hact
    have HK := Lib.hid hK
    clear hK
    have e115 : v115 = .bool true := by obtain ⟨h105, h106, h107, h108, h109, h110, h111, h112, h113, h114, h115, h116, h117, h118, h119, h120, h121, h122, h123, h124, h8, _⟩ := hR.out; exact h115 (hdep ⟨10, .guard⟩ (by simp) rfl)
    subst e115
    have kc0 : w'.cell? ⟨w7.heap.size, 0, none⟩ = some (.int .i64 X1) := hX.cell (by first | (simp; done) | (simp; omega)) (by first | assumption | (go_simp; done) | (simp; done))
    have kc1 : w'.cell? ⟨w7.heap.size, 1, none⟩ = some (.int .i64 Y1) := hX.cell (by first | (simp; done) | (simp; omega)) (by first | assumption | (go_simp; done) | (simp; done))
    have kc2 : w'.cell? ⟨w8.heap.size, 0, none⟩ = some (.int .i64 X2) := hX.cell (by first | (simp; done) | (simp; omega)) (by first | assumption | (go_simp; done) | (simp; done))
    have kc3 : w'.cell? ⟨w8.heap.size, 1, none⟩ = some (.int .i64 Y2) := hX.cell (by first | (simp; done) | (simp; omega)) (by first | assumption | (go_simp; done) | (simp; done))
    have kc4 : w'.cell? ⟨w10.heap.size, 0, none⟩ = some (.int .i64 X) := hX.cell (by first | (simp; done) | (simp; omega)) (by first | assumption | (go_simp; done) | (simp; done))
    have kc5 : w'.cell? ⟨w10.heap.size, 1, none⟩ = some (.int .i64 Y) := hX.cell (by first | (simp; done) | (simp; omega)) (by first | assumption | (go_simp; done) | (simp; done))
    clear hdep
    refine StepG.lay ?_; rw [ha0]; simp only [putL, Act.put, List.setIfInBounds_toArray, List.set_cons_zero, List.set_cons_succ]
    go_wp2_with fail
    refine HK.out _ _ ?_
    refine ⟨v105, v106, v107, v108, v109, v110, v111, v112, v113, v114, (.bool true), v116, v117, (.agg #[.int .i64 X2, .int .i64 Y2]), v119, v120, v121, v122, v123, v124, v8, (by rw [ha0]; simp only [putL, Act.put, List.setIfInBounds_toArray, List.set_cons_zero, List.set_cons_succ]), ?_, ?_, trivial⟩
    · obtain ⟨h105, h106, h107, h108, h109, h110, h111, h112, h113, h114, h115, h116, h117, h118, h119, h120, h121, h122, h123, h124, h8, _⟩ := hR.out
      exact Lib.hid ⟨fun h => h105 (by simpa using h), fun h => h106 (by simpa using h), fun h => h107 (by simpa using h), fun h => h108 (by simpa using h), fun h => h109 (by simpa using h), fun h => h110 (by simpa using h), fun h => h111 (by simpa using h), fun h => h112 (by simpa using h), fun h => h113 (by simpa using h), fun h => h114 (by simpa using h), fun _ => rfl, fun h => h116 (by simpa using h), fun h => h117 (by simpa using h), fun _ => rfl, fun h => h119 (by simpa using h), fun h => h120 (by simpa using h), fun h => h121 (by simpa using h), fun h => h122 (by simpa using h), fun h => h123 (by simpa using h), fun h => h124 (by simpa using h), fun h => h8 (by simpa using h), trivial⟩
    · exact hX
  case x1hs14 =>
    intro s a' w' hsk hdep hI K hK
    try dsimp only at hI hK
    obtain ⟨v105, v106, v107, v108, v109, v110, v111, v112, v113, v114, v115, v116, v117, v118, v119, v120, v121, v122, v123, v124, v8, hact, hR, hX, _⟩ := hI
    subst hact
    have HK := Lib.hid hK
    clear hK
    have e117 : v117 = .agg #[.int .i64 X1, .int .i64 Y1] := by obtain ⟨h105, h106, h107, h108, h109, h110, h111, h112, h113, h114, h115, h116, h117, h118, h119, h120, h121, h122, h123, h124, h8, _⟩ := hR.out; exact h117 (hdep ⟨12, .data⟩ (by simp) rfl)
    subst e117
    have e118 : v118 = .agg #[.int .i64 X2, .int .i64 Y2] := by obtain ⟨h105, h106, h107, h108, h109, h110, h111, h112, h113, h114, h115, h116, h117, h118, h119, h120, h121, h122, h123, h124, h8, _⟩ := hR.out; exact h118 (hdep ⟨13, .data⟩ (by simp) rfl)
    subst e118
    have e115 : v115 = .bool true := by obtain ⟨h105, h106, h107, h108, h109, h110, h111, h112, h113, h114, h115, h116, h117, h118, h119, h120, h121, h122, h123, h124, h8, _⟩ := hR.out; exact h115 (hdep ⟨10, .guard⟩ (by simp) rfl)
    subst e115
    have kc0 : w'.cell? ⟨w7.heap.size, 0, none⟩ = some (.int .i64 X1) := hX.cell (by first | (simp; done) | (simp; omega)) (by first | assumption | (go_simp; done) | (simp; done))
    have kc1 : w'.cell? ⟨w7.heap.size, 1, none⟩ = some (.int .i64 Y1) := hX.cell (by first | (simp; done) | (simp; omega)) (by first | assumption | (go_simp; done) | (simp; done))
    have kc2 : w'.cell? ⟨w8.heap.size, 0, none⟩ = some (.int .i64 X2) := hX.cell (by first | (simp; done) | (simp; omega)) (by first | assumption | (go_simp; done) | (simp; done))
    have kc3 : w'.cell? ⟨w8.heap.size, 1, none⟩ = some (.int .i64 Y2) := hX.cell (by first | (simp; done) | (simp; omega)) (by first | assumption | (go_simp; done) | (simp; done))
    have kc4 : w'.cell? ⟨w10.heap.size, 0, none⟩ = some (.int .i64 X) := hX.cell (by first | (simp; done) | (simp; omega)) (by first | assumption | (go_simp; done) | (simp; done))
    have kc5 : w'.cell? ⟨w10.heap.size, 1, none⟩ = some (.int .i64 Y) := hX.cell (by first | (simp; done) | (simp; omega)) (by first | assumption | (go_simp; done) | (simp; done))
    clear hdep
    refine StepG.lay ?_; rw [ha0]; simp only [putL, Act.put, List.setIfInBounds_toArray, List.set_cons_zero, List.set_cons_succ]
    go_wp2_with fail
    refine ((HPS.out _)).mono ?_
    rintro e wn ⟨rfl, hb⟩
    go_wp2_with fail
    refine HK.out _ _ ?_
    refine ⟨v105, v106, v107, v108, v109, v110, v111, v112, v113, v114, (.bool true), v116, (.agg #[.int .i64 X1, .int .i64 Y1]), (.agg #[.int .i64 X2, .int .i64 Y2]), (.agg #[.int .i64 X, .int .i64 Y]), v120, v121, v122, v123, v124, v8, (by rw [ha0]; simp only [putL, Act.put, List.setIfInBounds_toArray, List.set_cons_zero, List.set_cons_succ]), ?_, ?_, trivial⟩
    · obtain ⟨h105, h106, h107, h108, h109, h110, h111, h112, h113, h114, h115, h116, h117, h118, h119, h120, h121, h122, h123, h124, h8, _⟩ := hR.out
      exact Lib.hid ⟨fun h => h105 (by simpa using h), fun h => h106 (by simpa using h), fun h => h107 (by simpa using h), fun h => h108 (by simpa using h), fun h => h109 (by simpa using h), fun h => h110 (by simpa using h), fun h => h111 (by simpa using h), fun h => h112 (by simpa using h), fun h => h113 (by simpa using h), fun h => h114 (by simpa using h), fun _ => rfl, fun h => h116 (by simpa using h), fun _ => rfl, fun _ => rfl, fun _ => rfl, fun h => h120 (by simpa using h), fun h => h121 (by simpa using h), fun h => h122 (by simpa using h), fun h => h123 (by simpa using h), fun h => h124 (by simpa using h), fun h => h8 (by simpa using h), trivial⟩
    · exact hX.call hb
  case x1hs15 =>
    intro s a' w' hsk hdep hI K hK
    try dsimp only at hI hK
    obtain ⟨v105, v106, v107, v108, v109, v110, v111, v112, v113, v114, v115, v116, v117, v118, v119, v120, v121, v122, v123, v124, v8, hact, hR, hX, _⟩ := hI
    subst hact
    have HK := Lib.hid hK
    clear hK
    have e116 : v116 = .agg #[.int .i64 X, .int .i64 Y] := by obtain ⟨h105, h106, h107, h108, h109, h110, h111, h112, h113, h114, h115, h116, h117, h118, h119, h120, h121, h122, h123, h124, h8, _⟩ := hR.out; exact h116 (hdep ⟨11, .data⟩ (by simp) rfl)
    subst e116
    have e119 : v119 = .agg #[.int .i64 X, .int .i64 Y] := by obtain ⟨h105, h106, h107, h108, h109, h110, h111, h112, h113, h114, h115, h116, h117, h118, h119, h120, h121, h122, h123, h124, h8, _⟩ := hR.out; exact h119 (hdep ⟨14, .data⟩ (by simp) rfl)
    subst e119
    have e115 : v115 = .bool true := by obtain ⟨h105, h106, h107, h108, h109, h110, h111, h112, h113, h114, h115, h116, h117, h118, h119, h120, h121, h122, h123, h124, h8, _⟩ := hR.out; exact h115 (hdep ⟨10, .guard⟩ (by simp) rfl)
    subst e115
    have kc0 : w'.cell? ⟨w7.heap.size, 0, none⟩ = some (.int .i64 X1) := hX.cell (by first | (simp; done) | (simp; omega)) (by first | assumption | (go_simp; done) | (simp; done))
    have kc1 : w'.cell? ⟨w7.heap.size, 1, none⟩ = some (.int .i64 Y1) := hX.cell (by first | (simp; done) | (simp; omega)) (by first | assumption | (go_simp; done) | (simp; done))
    have kc2 : w'.cell? ⟨w8.heap.size, 0, none⟩ = some (.int .i64 X2) := hX.cell (by first | (simp; done) | (simp; omega)) (by first | assumption | (go_simp; done) | (simp; done))
    have kc3 : w'.cell? ⟨w8.heap.size, 1, none⟩ = some (.int .i64 Y2) := hX.cell (by first | (simp; done) | (simp; omega)) (by first | assumption | (go_simp; done) | (simp; done))
    have kc4 : w'.cell? ⟨w10.heap.size, 0, none⟩ = some (.int .i64 X) := hX.cell (by first | (simp; done) | (simp; omega)) (by first | assumption | (go_simp; done) | (simp; done))
    have kc5 : w'.cell? ⟨w10.heap.size, 1, none⟩ = some (.int .i64 Y) := hX.cell (by first | (simp; done) | (simp; omega)) (by first | assumption | (go_simp; done) | (simp; done))
    clear hdep
    refine StepG.lay ?_; rw [ha0]; simp only [putL, Act.put, List.setIfInBounds_toArray, List.set_cons_zero, List.set_cons_succ]
    go_wp2_with fail
    refine HK.out _ _ ?_
    refine ⟨v105, v106, v107, v108, v109, v110, v111, v112, v113, v114, (.bool true), (.agg #[.int .i64 X, .int .i64 Y]), v117, v118, (.agg #[.int .i64 X, .int .i64 Y]), (.bool true), v121, v122, v123, v124, v8, (by rw [ha0]; simp only [putL, Act.put, List.setIfInBounds_toArray, List.set_cons_zero, List.set_cons_succ]), ?_, ?_, trivial⟩
    · obtain ⟨h105, h106, h107, h108, h109, h110, h111, h112, h113, h114, h115, h116, h117, h118, h119, h120, h121, h122, h123, h124, h8, _⟩ := hR.out
      exact Lib.hid ⟨fun h => h105 (by simpa using h), fun h => h106 (by simpa using h), fun h => h107 (by simpa using h), fun h => h108 (by simpa using h), fun h => h109 (by simpa using h), fun h => h110 (by simpa using h), fun h => h111 (by simpa using h), fun h => h112 (by simpa using h), fun h => h113 (by simpa using h), fun h => h114 (by simpa using h), fun _ => rfl, fun _ => rfl, fun h => h117 (by simpa using h), fun h => h118 (by simpa using h), fun _ => rfl, fun _ => rfl, fun h => h121 (by simpa using h), fun h => h122 (by simpa using h), fun h => h123 (by simpa using h), fun h => h124 (by simpa using h), fun h => h8 (by simpa using h), trivial⟩
    · exact hX
  case x1hs16 =>
    intro s a' w' hsk hdep hI K hK
    try dsimp only at hI hK
    obtain ⟨v105, v106, v107, v108, v109, v110, v111, v112, v113, v114, v115, v116, v117, v118, v119, v120, v121, v122, v123, v124, v8, hact, hR, hX, _⟩ := hI
    subst hact
    have HK := Lib.hid hK
    clear hK
    have e115 : v115 = .bool true := by obtain ⟨h105, h106, h107, h108, h109, h110, h111, h112, h113, h114, h115, h116, h117, h118, h119, h120, h121, h122, h123, h124, h8, _⟩ := hR.out; exact h115 (hdep ⟨10, .data⟩ (by simp) rfl)
    subst e115
    have e120 : v120 = .bool true := by obtain ⟨h105, h106, h107, h108, h109, h110, h111, h112, h113, h114, h115, h116, h117, h118, h119, h120, h121, h122, h123, h124, h8, _⟩ := hR.out; exact h120 (hdep ⟨15, .data⟩ (by simp) rfl)
    subst e120
    have kc0 : w'.cell? ⟨w7.heap.size, 0, none⟩ = some (.int .i64 X1) := hX.cell (by first | (simp; done) | (simp; omega)) (by first | assumption | (go_simp; done) | (simp; done))
    have kc1 : w'.cell? ⟨w7.heap.size, 1, none⟩ = some (.int .i64 Y1) := hX.cell (by first | (simp; done) | (simp; omega)) (by first | assumption | (go_simp; done) | (simp; done))
    have kc2 : w'.cell? ⟨w8.heap.size, 0, none⟩ = some (.int .i64 X2) := hX.cell (by first | (simp; done) | (simp; omega)) (by first | assumption | (go_simp; done) | (simp; done))
    have kc3 : w'.cell? ⟨w8.heap.size, 1, none⟩ = some (.int .i64 Y2) := hX.cell (by first | (simp; done) | (simp; omega)) (by first | assumption | (go_simp; done) | (simp; done))
    have kc4 : w'.cell? ⟨w10.heap.size, 0, none⟩ = some (.int .i64 X) := hX.cell (by first | (simp; done) | (simp; omega)) (by first | assumption | (go_simp; done) | (simp; done))
    have kc5 : w'.cell? ⟨w10.heap.size, 1, none⟩ = some (.int .i64 Y) := hX.cell (by first | (simp; done) | (simp; omega)) (by first | assumption | (go_simp; done) | (simp; done))
    clear hdep
    refine StepG.mk rfl ?_; rw [ha0]; simp only [putL, Act.put, List.setIfInBounds_toArray, List.set_cons_zero, List.set_cons_succ]
    go_wp2_with fail
    refine HK.out _ _ ?_
    refine ⟨v105, v106, v107, v108, v109, v110, v111, v112, v113, v114, (.bool true), v116, v117, v118, v119, (.bool true), (.bool true), v122, v123, v124, v8, (by rw [ha0]; simp only [putL, Act.put, List.setIfInBounds_toArray, List.set_cons_zero, List.set_cons_succ]), ?_, ?_, trivial⟩
    · obtain ⟨h105, h106, h107, h108, h109, h110, h111, h112, h113, h114, h115, h116, h117, h118, h119, h120, h121, h122, h123, h124, h8, _⟩ := hR.out
      exact Lib.hid ⟨fun h => h105 (by simpa using h), fun h => h106 (by simpa using h), fun h => h107 (by simpa using h), fun h => h108 (by simpa using h), fun h => h109 (by simpa using h), fun h => h110 (by simpa using h), fun h => h111 (by simpa using h), fun h => h112 (by simpa using h), fun h => h113 (by simpa using h), fun h => h114 (by simpa using h), fun _ => rfl, fun h => h116 (by simpa using h), fun h => h117 (by simpa using h), fun h => h118 (by simpa using h), fun h => h119 (by simpa using h), fun _ => rfl, fun _ => rfl, fun h => h122 (by simpa using h), fun h => h123 (by simpa using h), fun h => h124 (by simpa using h), fun h => h8 (by simpa using h), trivial⟩
    · exact hX
  case x1hs17 =>
    intro s a' w' hsk hdep hI K hK
    try dsimp only at hI hK
    obtain ⟨v105, v106, v107, v108, v109, v110, v111, v112, v113, v114, v115, v116, v117, v118, v119, v120, v121, v122, v123, v124, v8, hact, hR, hX, _⟩ := hI
    subst hact
    have HK := Lib.hid hK
    clear hK
    have e121 : v121 = .bool true := by obtain ⟨h105, h106, h107, h108, h109, h110, h111, h112, h113, h114, h115, h116, h117, h118, h119, h120, h121, h122, h123, h124, h8, _⟩ := hR.out; exact h121 (hdep ⟨16, .data⟩ (by simp) rfl)
    subst e121
    have kc0 : w'.cell? ⟨w7.heap.size, 0, none⟩ = some (.int .i64 X1) := hX.cell (by first | (simp; done) | (simp; omega)) (by first | assumption | (go_simp; done) | (simp; done))
    have kc1 : w'.cell? ⟨w7.heap.size, 1, none⟩ = some (.int .i64 Y1) := hX.cell (by first | (simp; done) | (simp; omega)) (by first | assumption | (go_simp; done) | (simp; done))
    have kc2 : w'.cell? ⟨w8.heap.size, 0, none⟩ = some (.int .i64 X2) := hX.cell (by first | (simp; done) | (simp; omega)) (by first | assumption | (go_simp; done) | (simp; done))
    have kc3 : w'.cell? ⟨w8.heap.size, 1, none⟩ = some (.int .i64 Y2) := hX.cell (by first | (simp; done) | (simp; omega)) (by first | assumption | (go_simp; done) | (simp; done))
    have kc4 : w'.cell? ⟨w10.heap.size, 0, none⟩ = some (.int .i64 X) := hX.cell (by first | (simp; done) | (simp; omega)) (by first | assumption | (go_simp; done) | (simp; done))
    have kc5 : w'.cell? ⟨w10.heap.size, 1, none⟩ = some (.int .i64 Y) := hX.cell (by first | (simp; done) | (simp; omega)) (by first | assumption | (go_simp; done) | (simp; done))
    clear hdep
    refine StepG.mk rfl ?_; rw [ha0]; simp only [putL, Act.put, List.setIfInBounds_toArray, List.set_cons_zero, List.set_cons_succ]
    go_wp2_with fail
    refine HK.out _ _ ?_
    refine ⟨v105, v106, v107, v108, v109, v110, v111, v112, v113, v114, v115, v116, v117, v118, v119, v120, (.bool true), (.bool true), v123, v124, v8, (by rw [ha0]; simp only [putL, Act.put, List.setIfInBounds_toArray, List.set_cons_zero, List.set_cons_succ]), ?_, ?_, trivial⟩
    · obtain ⟨h105, h106, h107, h108, h109, h110, h111, h112, h113, h114, h115, h116, h117, h118, h119, h120, h121, h122, h123, h124, h8, _⟩ := hR.out
      exact Lib.hid ⟨fun h => h105 (by simpa using h), fun h => h106 (by simpa using h), fun h => h107 (by simpa using h), fun h => h108 (by simpa using h), fun h => h109 (by simpa using h), fun h => h110 (by simpa using h), fun h => h111 (by simpa using h), fun h => h112 (by simpa using h), fun h => h113 (by simpa using h), fun h => h114 (by simpa using h), fun h => h115 (by simpa using h), fun h => h116 (by simpa using h), fun h => h117 (by simpa using h), fun h => h118 (by simpa using h), fun h => h119 (by simpa using h), fun h => h120 (by simpa using h), fun _ => rfl, fun _ => rfl, fun h => h123 (by simpa using h), fun h => h124 (by simpa using h), fun h => h8 (by simpa using h), trivial⟩
    · exact hX
  case x1hs18 =>
    intro s a' w' hsk hdep hI K hK
    try dsimp only at hI hK
    obtain ⟨v105, v106, v107, v108, v109, v110, v111, v112, v113, v114, v115, v116, v117, v118, v119, v120, v121, v122, v123, v124, v8, hact, hR, hX, _⟩ := hI
    subst hact
    have HK := Lib.hid hK
    clear hK
    have e122 : v122 = .bool true := by obtain ⟨h105, h106, h107, h108, h109, h110, h111, h112, h113, h114, h115, h116, h117, h118, h119, h120, h121, h122, h123, h124, h8, _⟩ := hR.out; exact h122 (hdep ⟨17, .guard⟩ (by simp) rfl)
    subst e122
    have kc0 : w'.cell? ⟨w7.heap.size, 0, none⟩ = some (.int .i64 X1) := hX.cell (by first | (simp; done) | (simp; omega)) (by first | assumption | (go_simp; done) | (simp; done))
    have kc1 : w'.cell? ⟨w7.heap.size, 1, none⟩ = some (.int .i64 Y1) := hX.cell (by first | (simp; done) | (simp; omega)) (by first | assumption | (go_simp; done) | (simp; done))
    have kc2 : w'.cell? ⟨w8.heap.size, 0, none⟩ = some (.int .i64 X2) := hX.cell (by first | (simp; done) | (simp; omega)) (by first | assumption | (go_simp; done) | (simp; done))
    have kc3 : w'.cell? ⟨w8.heap.size, 1, none⟩ = some (.int .i64 Y2) := hX.cell (by first | (simp; done) | (simp; omega)) (by first | assumption | (go_simp; done) | (simp; done))
    have kc4 : w'.cell? ⟨w10.heap.size, 0, none⟩ = some (.int .i64 X) := hX.cell (by first | (simp; done) | (simp; omega)) (by first | assumption | (go_simp; done) | (simp; done))
    have kc5 : w'.cell? ⟨w10.heap.size, 1, none⟩ = some (.int .i64 Y) := hX.cell (by first | (simp; done) | (simp; omega)) (by first | assumption | (go_simp; done) | (simp; done))
    clear hdep
    refine StepG.lay ?_; rw [ha0]; simp only [putL, Act.put, List.setIfInBounds_toArray, List.set_cons_zero, List.set_cons_succ]
    go_wp2_with fail
    refine ((awake_any _)).mono ?_
    rintro e wn ⟨rfl, hb⟩
    go_wp2_with fail
    refine HK.out _ _ ?_
    refine ⟨v105, v106, v107, v108, v109, v110, v111, v112, v113, v114, v115, v116, v117, v118, v119, v120, v121, (.bool true), (.bool true), v124, v8, (by rw [ha0]; simp only [putL, Act.put, List.setIfInBounds_toArray, List.set_cons_zero, List.set_cons_succ]), ?_, ?_, trivial⟩
    · obtain ⟨h105, h106, h107, h108, h109, h110, h111, h112, h113, h114, h115, h116, h117, h118, h119, h120, h121, h122, h123, h124, h8, _⟩ := hR.out
      exact Lib.hid ⟨fun h => h105 (by simpa using h), fun h => h106 (by simpa using h), fun h => h107 (by simpa using h), fun h => h108 (by simpa using h), fun h => h109 (by simpa using h), fun h => h110 (by simpa using h), fun h => h111 (by simpa using h), fun h => h112 (by simpa using h), fun h => h113 (by simpa using h), fun h => h114 (by simpa using h), fun h => h115 (by simpa using h), fun h => h116 (by simpa using h), fun h => h117 (by simpa using h), fun h => h118 (by simpa using h), fun h => h119 (by simpa using h), fun h => h120 (by simpa using h), fun h => h121 (by simpa using h), fun _ => rfl, fun _ => rfl, fun h => h124 (by simpa using h), fun h => h8 (by simpa using h), trivial⟩
    · exact hX.call hb
  case x1hs19 =>
    intro s a' w' hsk hdep hI K hK
    try dsimp only at hI hK
    obtain ⟨v105, v106, v107, v108, v109, v110, v111, v112, v113, v114, v115, v116, v117, v118, v119, v120, v121, v122, v123, v124, v8, hact, hR, hX, _⟩ := hI
    subst hact
    have HK := Lib.hid hK
    clear hK
    have e122 : v122 = .bool true := by obtain ⟨h105, h106, h107, h108, h109, h110, h111, h112, h113, h114, h115, h116, h117, h118, h119, h120, h121, h122, h123, h124, h8, _⟩ := hR.out; exact h122 (hdep ⟨17, .data⟩ (by simp) rfl)
    subst e122
    have e123 : v123 = .bool true := by obtain ⟨h105, h106, h107, h108, h109, h110, h111, h112, h113, h114, h115, h116, h117, h118, h119, h120, h121, h122, h123, h124, h8, _⟩ := hR.out; exact h123 (hdep ⟨18, .data⟩ (by simp) rfl)
    subst e123
    have kc0 : w'.cell? ⟨w7.heap.size, 0, none⟩ = some (.int .i64 X1) := hX.cell (by first | (simp; done) | (simp; omega)) (by first | assumption | (go_simp; done) | (simp; done))
    have kc1 : w'.cell? ⟨w7.heap.size, 1, none⟩ = some (.int .i64 Y1) := hX.cell (by first | (simp; done) | (simp; omega)) (by first | assumption | (go_simp; done) | (simp; done))
    have kc2 : w'.cell? ⟨w8.heap.size, 0, none⟩ = some (.int .i64 X2) := hX.cell (by first | (simp; done) | (simp; omega)) (by first | assumption | (go_simp; done) | (simp; done))
    have kc3 : w'.cell? ⟨w8.heap.size, 1, none⟩ = some (.int .i64 Y2) := hX.cell (by first | (simp; done) | (simp; omega)) (by first | assumption | (go_simp; done) | (simp; done))
    have kc4 : w'.cell? ⟨w10.heap.size, 0, none⟩ = some (.int .i64 X) := hX.cell (by first | (simp; done) | (simp; omega)) (by first | assumption | (go_simp; done) | (simp; done))
    have kc5 : w'.cell? ⟨w10.heap.size, 1, none⟩ = some (.int .i64 Y) := hX.cell (by first | (simp; done) | (simp; omega)) (by first | assumption | (go_simp; done) | (simp; done))
    clear hdep
    refine StepG.mk rfl ?_; rw [ha0]; simp only [putL, Act.put, List.setIfInBounds_toArray, List.set_cons_zero, List.set_cons_succ]
    go_wp2_with fail
    refine HK.out _ _ ?_
    refine ⟨v105, v106, v107, v108, v109, v110, v111, v112, v113, v114, v115, v116, v117, v118, v119, v120, v121, (.bool true), (.bool true), (.bool true), v8, (by rw [ha0]; simp only [putL, Act.put, List.setIfInBounds_toArray, List.set_cons_zero, List.set_cons_succ]), ?_, ?_, trivial⟩
    · obtain ⟨h105, h106, h107, h108, h109, h110, h111, h112, h113, h114, h115, h116, h117, h118, h119, h120, h121, h122, h123, h124, h8, _⟩ := hR.out
      exact Lib.hid ⟨fun h => h105 (by simpa using h), fun h => h106 (by simpa using h), fun h => h107 (by simpa using h), fun h => h108 (by simpa using h), fun h => h109 (by simpa using h), fun h => h110 (by simpa using h), fun h => h111 (by simpa using h), fun h => h112 (by simpa using h), fun h => h113 (by simpa using h), fun h => h114 (by simpa using h), fun h => h115 (by simpa using h), fun h => h116 (by simpa using h), fun h => h117 (by simpa using h), fun h => h118 (by simpa using h), fun h => h119 (by simpa using h), fun h => h120 (by simpa using h), fun h => h121 (by simpa using h), fun _ => rfl, fun _ => rfl, fun _ => rfl, fun h => h8 (by simpa using h), trivial⟩
    · exact hX
  case x1hs20 =>
    intro s a' w' hsk hdep hI K hK
    try dsimp only at hI hK
    obtain ⟨v105, v106, v107, v108, v109, v110, v111, v112, v113, v114, v115, v116, v117, v118, v119, v120, v121, v122, v123, v124, v8, hact, hR, hX, _⟩ := hI
    subst hact
    have HK := Lib.hid hK
    clear hK
    have e124 : v124 = .bool true := by obtain ⟨h105, h106, h107, h108, h109, h110, h111, h112, h113, h114, h115, h116, h117, h118, h119, h120, h121, h122, h123, h124, h8, _⟩ := hR.out; exact h124 (hdep ⟨19, .data⟩ (by simp) rfl)
    subst e124
    have kc0 : w'.cell? ⟨w7.heap.size, 0, none⟩ = some (.int .i64 X1) := hX.cell (by first | (simp; done) | (simp; omega)) (by first | assumption | (go_simp; done) | (simp; done))
    have kc1 : w'.cell? ⟨w7.heap.size, 1, none⟩ = some (.int .i64 Y1) := hX.cell (by first | (simp; done) | (simp; omega)) (by first | assumption | (go_simp; done) | (simp; done))
    have kc2 : w'.cell? ⟨w8.heap.size, 0, none⟩ = some (.int .i64 X2) := hX.cell (by first | (simp; done) | (simp; omega)) (by first | assumption | (go_simp; done) | (simp; done))
    have kc3 : w'.cell? ⟨w8.heap.size, 1, none⟩ = some (.int .i64 Y2) := hX.cell (by first | (simp; done) | (simp; omega)) (by first | assumption | (go_simp; done) | (simp; done))
    have kc4 : w'.cell? ⟨w10.heap.size, 0, none⟩ = some (.int .i64 X) := hX.cell (by first | (simp; done) | (simp; omega)) (by first | assumption | (go_simp; done) | (simp; done))
    have kc5 : w'.cell? ⟨w10.heap.size, 1, none⟩ = some (.int .i64 Y) := hX.cell (by first | (simp; done) | (simp; omega)) (by first | assumption | (go_simp; done) | (simp; done))
    clear hdep
    refine StepG.mk rfl ?_; rw [ha0]; simp only [putL, Act.put, List.setIfInBounds_toArray, List.set_cons_zero, List.set_cons_succ]
    go_wp2_with fail
    refine HK.out _ _ ?_
    refine ⟨v105, v106, v107, v108, v109, v110, v111, v112, v113, v114, v115, v116, v117, v118, v119, v120, v121, v122, v123, (.bool true), (.bool true), (by rw [ha0]; simp only [putL, Act.put, List.setIfInBounds_toArray, List.set_cons_zero, List.set_cons_succ]), ?_, ?_, trivial⟩
    · obtain ⟨h105, h106, h107, h108, h109, h110, h111, h112, h113, h114, h115, h116, h117, h118, h119, h120, h121, h122, h123, h124, h8, _⟩ := hR.out
      exact Lib.hid ⟨fun h => h105 (by simpa using h), fun h => h106 (by simpa using h), fun h => h107 (by simpa using h), fun h => h108 (by simpa using h), fun h => h109 (by simpa using h), fun h => h110 (by simpa using h), fun h => h111 (by simpa using h), fun h => h112 (by simpa using h), fun h => h113 (by simpa using h), fun h => h114 (by simpa using h), fun h => h115 (by simpa using h), fun h => h116 (by simpa using h), fun h => h117 (by simpa using h), fun h => h118 (by simpa using h), fun h => h119 (by simpa using h), fun h => h120 (by simpa using h), fun h => h121 (by simpa using h), fun h => h122 (by simpa using h), fun h => h123 (by simpa using h), fun _ => rfl, fun _ => rfl, trivial⟩
    · exact hX
  intro s a' w11 hall hI
  try dsimp only at hI
  obtain ⟨v105, v106, v107, v108, v109, v110, v111, v112, v113, v114, v115, v116, v117, v118, v119, v120, v121, v122, v123, v124, v8, hact, hR, hXR, _⟩ := hI
  subst hact
  obtain ⟨h105, h106, h107, h108, h109, h110, h111, h112, h113, h114, h115, h116, h117, h118, h119, h120, h121, h122, h123, h124, h8, _⟩ := hR.out
  clear hR
  have e105 := h105 (hall 0 (by decide))
  subst e105
  clear h105
  have e106 := h106 (hall 1 (by decide))
  subst e106
  clear h106
  have e107 := h107 (hall 2 (by decide))
  subst e107
  clear h107
  have e108 := h108 (hall 3 (by decide))
  subst e108
  clear h108
  have e109 := h109 (hall 4 (by decide))
  subst e109
  clear h109
  have e110 := h110 (hall 5 (by decide))
  subst e110
  clear h110
  have e111 := h111 (hall 6 (by decide))
  subst e111
  clear h111
  have e112 := h112 (hall 7 (by decide))
  subst e112
  clear h112
  have e113 := h113 (hall 8 (by decide))
  subst e113
  clear h113
  have e114 := h114 (hall 9 (by decide))
  subst e114
  clear h114
  have e115 := h115 (hall 10 (by decide))
  subst e115
  clear h115
  have e116 := h116 (hall 11 (by decide))
  subst e116
  clear h116
  have e117 := h117 (hall 12 (by decide))
  subst e117
  clear h117
  have e118 := h118 (hall 13 (by decide))
  subst e118
  clear h118
  have e119 := h119 (hall 14 (by decide))
  subst e119
  clear h119
  have e120 := h120 (hall 15 (by decide))
  subst e120
  clear h120
  have e121 := h121 (hall 16 (by decide))
  subst e121
  clear h121
  have e122 := h122 (hall 17 (by decide))
  subst e122
  clear h122
  have e123 := h123 (hall 18 (by decide))
  subst e123
  clear h123
  have e124 := h124 (hall 19 (by decide))
  subst e124
  clear h124
  have e8 := h8 (hall 20 (by decide))
  subst e8
  clear h8
  clear hall
  rw [ha0]; simp only [putL, Act.put, List.setIfInBounds_toArray, List.set_cons_zero, List.set_cons_succ]
  clear ha0
  have B11 : Below w.heap.size w w11 := hXR.below (by first | assumption | exact (by repeat (first | exact Below.refl _ _ | exact Nat.le_refl _ | refine Below.alloc ?_ ?_ _ | refine Below.setCell ?_ ?_ _ | refine Below.drew ?_ | refine bl_drewN ?_ _ | (assumption) | refine bl_call ?_ (by assumption) ?_ | omega | (simp <;> omega)))) (by first | omega | (simp <;> omega)) (by simp <;> omega)
  have cew7_heap_size11_0 : w11.cell? ⟨w7.heap.size, 0, none⟩ = some (.int .i64 X1) := hXR.cell (by first | (simp; done) | (simp; omega)) (by first | assumption | (go_simp; done) | (simp; done))
  have cew7_heap_size11_1 : w11.cell? ⟨w7.heap.size, 1, none⟩ = some (.int .i64 Y1) := hXR.cell (by first | (simp; done) | (simp; omega)) (by first | assumption | (go_simp; done) | (simp; done))
  have zew7_heap_size11 : w7.heap.size < w11.heap.size := block_lt_of_cell cew7_heap_size11_0
  have cew8_heap_size11_0 : w11.cell? ⟨w8.heap.size, 0, none⟩ = some (.int .i64 X2) := hXR.cell (by first | (simp; done) | (simp; omega)) (by first | assumption | (go_simp; done) | (simp; done))
  have cew8_heap_size11_1 : w11.cell? ⟨w8.heap.size, 1, none⟩ = some (.int .i64 Y2) := hXR.cell (by first | (simp; done) | (simp; omega)) (by first | assumption | (go_simp; done) | (simp; done))
  have zew8_heap_size11 : w8.heap.size < w11.heap.size := block_lt_of_cell cew8_heap_size11_0
  have cew10_heap_size11_0 : w11.cell? ⟨w10.heap.size, 0, none⟩ = some (.int .i64 X) := hXR.cell (by first | (simp; done) | (simp; omega)) (by first | assumption | (go_simp; done) | (simp; done))
  have cew10_heap_size11_1 : w11.cell? ⟨w10.heap.size, 1, none⟩ = some (.int .i64 Y) := hXR.cell (by first | (simp; done) | (simp; omega)) (by first | assumption | (go_simp; done) | (simp; done))
  have zew10_heap_size11 : w10.heap.size < w11.heap.size := block_lt_of_cell cew10_heap_size11_0
  have hsz_11 := B11.size
  clear hXR
  go_wp2_with fail
  go_ret
  exact ⟨rfl, (by repeat (first | exact Below.refl _ _ | exact Nat.le_refl _ | refine Below.alloc ?_ ?_ _ | refine Below.setCell ?_ ?_ _ | refine Below.drew ?_ | refine bl_drewN ?_ _ | (assumption) | refine bl_call ?_ (by assumption) ?_ | omega | (simp <;> omega)))⟩
namespace gaugeSums
open Go.ChangeShapes Go.WideShapes Go.ChangeAt Go.RowKit
open Go.Lib Go.Joins
open Go.ChangeMaps (open_string shut_string)
set_option maxRecDepth 100000 in
theorem contract (H : Type) (enc : TypeId × Value → H) (W : World) (base : Nat) (args : Array Value) (ds gs : List (DataW H)) (before : List MemPlace)
    (hval : ∀ (j : Nat) t v, Tryd.f6.params[j]? = some t → args[j]? = some v → Value.okWide Tryd.prog W .any base t v)
    (hW : DataW.Whole enc Tryd.prog Tryd.f6.params.toList Rows.gaugeSumsSpec.vars false W args.toList ds gs before) :
    Calls Tryd.prog 6 args W fun e W' => ∃ v, e = .returned v ∧ Rows.gaugeSumsSpec.post enc Tryd.prog Tryd.f6 false true false false W args v W' := by
  have hW' := hW
  obtain ⟨p, q, hA0, hV, rfl, hfz, hnd⟩ := hW
  have hA : DataW.TrodAll enc Tryd.prog W 0 (fun _ => true) true Tryd.f6.params.toList args.toList ds p := hA0
  rw [Tryd.params6] at hA hval
  obtain ⟨v0, vs0, d0, ds0, p0, q0, hargs, rfl, rfl, h0, r0⟩ := trodAll_cons hA
  obtain ⟨v1, vs1, d1, ds1, p1, q1, rfl, rfl, rfl, h1, r1⟩ := trodAll_cons r0
  obtain ⟨v2, vs2, d2, ds2, p2, q2, rfl, rfl, rfl, h2, r2⟩ := trodAll_cons r1
  obtain ⟨v3, vs3, d3, ds3, p3, q3, rfl, rfl, rfl, h3, r3⟩ := trodAll_cons r2
  obtain ⟨rfl, rfl, rfl⟩ := trodAll_nil r3
  obtain rfl : args = #[v0, v1, v2, v3] := by cases args; simp_all
  obtain ⟨rfl, rfl⟩ := trodVars_none hV
  obtain ⟨x0, rfl, rfl, rfl, wx0⟩ := open_string Tryd.underlying9 (hval 0 9 v0 rfl rfl) h0
  obtain ⟨x1, rfl, rfl, rfl, wx1⟩ := open_string Tryd.underlying9 (hval 1 9 v1 rfl rfl) h1
  obtain ⟨x2, rfl, rfl, rfl, wx2⟩ := open_int Tryd.underlying3 (hval 2 3 v2 rfl rfl) h2
  obtain ⟨x3, rfl, rfl, rfl, wx3⟩ := open_int Tryd.underlying3 (hval 3 3 v3 rfl rfl) h3
  clear hA0
  simp only [List.append_nil] at hW'
  have es0 : x0 = ⟨x0.data.toList.toArray⟩ := by cases x0; simp
  have es1 : x1 = ⟨x1.data.toList.toArray⟩ := by cases x1; simp
  refine (show Calls Tryd.prog 6 _ W _ from (GaugeSums_walk x0.data.toList x1.data.toList x2 x3 W (by exact wx0) (by exact wx1) (inI wx2) (inI wx3))).mono fun e W' ⟨he, hb⟩ => ?_
  subst he
  exact ⟨_, rfl, _, _, _, [], [], [], hW', trodAll_mk1 (shut_bool Tryd.underlying4 _), trodAll_cons_mk (shut_string Tryd.underlying9 wx0) (trodAll_cons_mk (shut_string Tryd.underlying9 wx1) (trodAll_cons_mk (shut_int Tryd.underlying3 wx2) (trodAll_cons_mk (shut_int Tryd.underlying3 wx3) (trodAll_mk0)))), rfl, hb.frame _, fun h => by cases h⟩
theorem reads (os : Os) {H : Type} (enc : TypeId × Value → H) : ∃ places, DataW.whole enc Tryd.prog ((laidWorld os).forCall (fun _ _ => 0) ⟨#[], #[.string ⟨#[]⟩, .string ⟨#[]⟩, .int .i64 0, .int .i64 0], []⟩).memory Tryd.f6.params.toList Rows.gaugeSumsSpec.vars false (#[.string ⟨#[]⟩, .string ⟨#[]⟩, .int .i64 0, .int .i64 0] : Array Value).toList 8 = some ([.lit (.string []), .lit (.string []), .lit (.int .i64 0), .lit (.int .i64 0)], [], places) :=
  ⟨[], by kernel_rfl⟩
set_option maxRecDepth 100000 in
theorem lifted (os : Os) (started : os.Started) (H : Type) (enc : TypeId × Value → H) (F : Stop.Interp) :
    ReturnsInHanded {} Tryd.checked os 6 .any ((OpenSpec.ofChange Rows.gaugeSumsSpec).preRow enc Tryd.prog Tryd.f6 Rows.gaugeSumsRow.domain false Rows.gaugeSumsRow.laid) (((OpenSpec.ofChange Rows.gaugeSumsSpec).at F).post enc Tryd.prog Tryd.f6 false true false false) := by
  obtain ⟨places, hx⟩ := reads os enc
  refine returnsInHanded_of_row (C := Tryd.checked) (s := OpenSpec.ofChange Rows.gaugeSumsSpec) own started (by kernel_rfl) Tryd.func6
    (witness_row_at (enc := enc) (C := Tryd.checked) false (laidWorld os) #[.string ⟨#[]⟩, .string ⟨#[]⟩, .int .i64 0, .int .i64 0] rfl (by kernel_rfl) (by kernel_rfl) (by kernel_rfl)
      (OpenSpec.preRow_of_cond 8 hx (by kernel_rfl) (fun k hk => by cases hk) (by kernel_rfl) (laid_met os _))) ?_
  intro W base args ds gs before hval hW _ _ _ _ _ _
  exact contract H enc W base args ds gs before hval hW
theorem said : Rows.GaugeSumsSaid :=
  OpenClaim.holds_of_cond 6 Tryd.f6 rfl rfl rfl rfl rfl rfl rfl ⟨rfl, rfl, rfl, rfl, rfl⟩ rfl rfl rfl rfl rfl (by kernel_rfl) Tryd.func6 (by kernel_rfl)
    (of_decide_eq_true (by kernel_rfl)) (by unfold Func.isWrapper; first | (rw [if_pos (by decide +kernel)]; kernel_rfl) | (rw [if_neg (by decide +kernel)]; exact ⟨rfl, rfl⟩))
    (fun os started H enc _ F => by rw [OpenClaim.pre_eq_preRow]; exact lifted os started H enc F)
theorem plain (f : FuncId) (fn : Func) (hf : Tryd.pinned.checked.prog.funcNamed "remould/remouldlaw04.GaugeSums" = some f) (hfn : Tryd.pinned.checked.prog.funcs[f]? = some fn) :
    true = Tryd.pinned.checked.prog.looks [] ∧ ∀ (j : Nat) t, fn.params[j]? = some t → Tryd.pinned.checked.prog.wantsStandIn t = false := by
  obtain rfl : f = 6 := Option.some.inj ((show Tryd.prog.funcNamed "remould/remouldlaw04.GaugeSums" = some 6 by kernel_rfl).symm.trans hf) |>.symm
  obtain rfl : fn = Tryd.f6 := (Option.some.inj (Tryd.func6.symm.trans hfn)).symm
  refine ⟨by kernel_rfl, fun j t ht => ?_⟩
  rw [Tryd.params6] at ht
  have hm : t ∈ [9, 9, 3, 3] := by simpa using Array.mem_of_getElem? ht
  have hall : ([9, 9, 3, 3].all fun u => !Tryd.prog.wantsStandIn u) = true := by kernel_rfl
  exact (show Tryd.prog.wantsStandIn t = false by simpa using List.all_eq_true.1 hall t (by simpa using hm))
theorem card : Rows.GaugeSumsCardSaid :=
  Claim7.holds_tied_plain_at .later [] _ _ _ _ said (fun _ h => by cases h) (by kernel_rfl) (fun _ h => by cases h) gaugeSums_row_tie rfl ⟨rfl, rfl⟩ (by kernel_rfl) rfl plain (by kernel_rfl)
end gaugeSums
theorem GaugeSums_holds : Rows.GaugeSumsCardSaid := gaugeSums.card
end Go.Proofs.YtgocloilagcfoabDoor
