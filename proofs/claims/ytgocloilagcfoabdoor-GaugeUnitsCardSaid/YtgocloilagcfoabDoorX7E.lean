/- GaugeUnits where k mod 23 is even. -/
import Derived.Test.YtgocloilagcfoabDoorX7
import Derived.Test.YtgocloilagcfoabDoorD2
namespace Go.Proofs.YtgocloilagcfoabDoor
open Go.RowKit
attribute [local go_sem ↓] Go.wp_at_zero Go.wp_at_succ
set_option maxRecDepth 100000 in
set_option maxHeartbeats 80000000 in
theorem units_even (k n : Int) (w : World) (hk : -9223372036854775808 ≤ k ∧ k ≤ 9223372036854775807) (hn : -9223372036854775808 ≤ n ∧ n ≤ 9223372036854775807) (hpar : modZ k 23 % 2 = 0) :
    Calls Tryd.prog 12 #[.int .i64 k, .int .i64 n] w fun e w' => e = .returned (.bool true) ∧ Below w.heap.size w w' := by
  have hmk := fun wx => mod_any k 23 wx (by omega) (by omega) hk.1 hk.2
  have hN := fun wx => mod_any n 23 wx (by omega) (by omega) hn.1 hn.2
  have bK := modZ_bd k 23 (by decide)
  have bN := modZ_bd n 23 (by decide)
  obtain ⟨kk, eK⟩ : ∃ kk : Nat, modZ k 23 = kk := ⟨(modZ k 23).toNat, by omega⟩
  obtain ⟨nn, eN⟩ : ∃ nn : Nat, modZ n 23 = nn := ⟨(modZ n 23).toNat, by omega⟩
  rw [eK] at hmk bK hpar
  rw [eN] at hN bN
  have bK2 : kk < 23 := by omega
  have bN2 : nn < 23 := by omega
  clear eK eN hk hn
  obtain ⟨u1, u2, u3, u4⟩ := units_k ⟨kk, bK2⟩
  have u5 := units_kn ⟨kk, bK2⟩ ⟨nn, bN2⟩
  obtain ⟨b1, b2, b3, b4⟩ := units_bd ⟨kk + 12, by omega⟩
  obtain ⟨d1, d2, d3, d4⟩ := units_bd ⟨nn + 12, by omega⟩
  obtain ⟨c1, c2, c3, c4⟩ := units_bd ⟨kk + 13, by omega⟩
  obtain ⟨a1, a2, a3, a4⟩ := units_bd ⟨kk + 11, by omega⟩
  obtain ⟨p1, p2, p3, p4⟩ := units_bd ⟨kk + nn + 1, by omega⟩
  dsimp only at u1 u2 u3 u4 u5 b1 b2 b3 b4 d1 d2 d3 d4 c1 c2 c3 c4 a1 a2 a3 a4 p1 p2 p3 p4
  rw [show kk + 12 + 17 = kk + 29 by omega] at b1 b2 b3 b4
  rw [show nn + 12 + 17 = nn + 29 by omega] at d1 d2 d3 d4
  rw [show kk + 13 + 17 = kk + 30 by omega] at c1 c2 c3 c4
  rw [show kk + 11 + 17 = kk + 28 by omega] at a1 a2 a3 a4
  rw [show kk + nn + 1 + 17 = kk + nn + 18 by omega] at p1 p2 p3 p4
  have hA := fun wx => Power_yes ((kk : Int) - 11 - 1) (kk + 28) wx (by omega) (by omega) (by omega)
  have hB := fun wx => Power_yes ((kk : Int) - 11) (kk + 29) wx (by omega) (by omega) (by omega)
  have hC := fun wx => Power_yes ((kk : Int) - 11 + 1) (kk + 30) wx (by omega) (by omega) (by omega)
  have hD := fun wx => Power_yes ((nn : Int) - 11) (nn + 29) wx (by omega) (by omega) (by omega)
  have hP := fun wx => Power_yes ((kk : Int) - 11 + ((nn : Int) - 11)) (kk + nn + 18) wx (by omega) (by omega) (by omega)
  obtain ⟨⟨A1, A2⟩, fA⟩ : ∃ p, GM.pt (kk + 28) = p := ⟨_, rfl⟩
  obtain ⟨⟨B1', B2'⟩, fB⟩ : ∃ p, GM.pt (kk + 29) = p := ⟨_, rfl⟩
  obtain ⟨⟨C1, C2⟩, fC⟩ : ∃ p, GM.pt (kk + 30) = p := ⟨_, rfl⟩
  obtain ⟨⟨D1, D2⟩, fD⟩ : ∃ p, GM.pt (nn + 29) = p := ⟨_, rfl⟩
  obtain ⟨⟨P1, P2⟩, fP⟩ : ∃ p, GM.pt (kk + nn + 18) = p := ⟨_, rfl⟩
  rw [fA] at hA a1 a2 a3 a4 u3 u4
  rw [fB] at hB b1 b2 b3 b4 u1 u2 u3 u4 u5
  rw [fC] at hC c1 c2 c3 c4 u2 u3 u4
  rw [fD] at hD d1 d2 d3 d4 u5
  rw [fP] at hP p1 p2 p3 p4 u5
  dsimp only at hA hB hC hD hP a1 a2 a3 a4 b1 b2 b3 b4 c1 c2 c3 c4 d1 d2 d3 d4 p1 p2 p3 p4 u2 u3 u4
  clear fA fB fC fD fP
  have num : ∀ p q : Int, -1000000 ≤ p → p ≤ 1000000 → -1000000 ≤ q → q ≤ 1000000 → isN p q = true := fun p q h1 h2 h3 h4 => (isN_iff p q).2 ⟨h1, h2, h3, h4⟩
  have hQ := fun wx => Product_yes B1' B2' D1 D2 wx (num _ _ b1 b2 b3 b4) (num _ _ d1 d2 d3 d4)
  unfold GM.mul at u5
  dsimp only at u5
  obtain ⟨v1, v2⟩ := Prod.mk.inj u5
  rw [v1, v2, show smallV P1 P2 = .tuple #[.agg #[.int .i64 P1, .int .i64 P2], .int .i64 0] from if_pos (num _ _ p1 p2 p3 p4)] at hQ
  have hNm := fun wx => Norm_yes B1' B2' wx (num _ _ b1 b2 b3 b4)
  unfold GM.nrm2 at u1
  dsimp only at u1
  have hCm := fun wx => Compare_yes B1' B2' C1 C2 wx (num _ _ b1 b2 b3 b4) (num _ _ c1 c2 c3 c4)
  rw [u2] at hCm
  have hPl := fun wx => refPlus A1 A2 B1' B2' wx (by omega) (by omega) (by omega) (by omega)
  rw [u3, u4] at hPl
  clear u2 u3 u4 u5 v1 v2 num a1 a2 a3 a4 b1 b2 b3 b4 c1 c2 c3 c4 d1 d2 d3 d4 p1 p2 p3 p4
  have HA := Lib.hid hA
  have HB := Lib.hid hB
  have HC := Lib.hid hC
  have HD := Lib.hid hD
  have HP := Lib.hid hP
  have HQ := Lib.hid hQ
  have HCMP := Lib.hid hCm
  have HPL := Lib.hid hPl
  have HMK := Lib.hid hmk
  have HN := Lib.hid hN
  clear hA hB hC hD hP hQ hCm hPl hmk hN
  have hq : ¬ ((kk : Int) - 11).tmod 2 = 0 := fun e => by
    have := Int.mul_tdiv_add_tmod ((kk : Int) - 11) 2
    omega
  obtain ⟨V, eV⟩ : ∃ V, B1' * B1' + B1' * B2' - B2' * B2' = V := ⟨_, rfl⟩
  rw [eV] at hNm u1
  have HNM := Lib.hid hNm
  clear hNm eV
  obtain rfl : V = -1 := by rw [u1, if_pos (by omega)]
  clear u1
  have HQ2 := Lib.hid hq
  have HPAR := Lib.hid hpar
  clear hq hpar
  go_enter Tryd.func12, Tryd.ntmps12
  go_wp2_with fail
  refine (HMK.out _).mono ?_
  rintro e w1 ⟨rfl, hb1⟩
  have B1 : Below w.heap.size w w1 := bl_call (by repeat (first | exact Below.refl _ _ | exact Nat.le_refl _ | refine Below.alloc ?_ ?_ _ | refine Below.setCell ?_ ?_ _ | refine Below.drew ?_ | refine bl_drewN ?_ _ | (assumption) | refine bl_call ?_ (by assumption) ?_ | omega | (simp <;> omega))) hb1 (by first | assumption | (simp; done) | (simp; omega) | omega)
  clear hb1
  have hsz_1 := B1.size
  go_wp2_with fail
  refine (HN.out _).mono ?_
  rintro e w2 ⟨rfl, hb2⟩
  have B2 : Below w.heap.size w w2 := bl_call (by repeat (first | exact Below.refl _ _ | exact Nat.le_refl _ | refine Below.alloc ?_ ?_ _ | refine Below.setCell ?_ ?_ _ | refine Below.drew ?_ | refine bl_drewN ?_ _ | (assumption) | refine bl_call ?_ (by assumption) ?_ | omega | (simp <;> omega))) hb2 (by first | assumption | (simp; done) | (simp; omega) | omega)
  clear hb2
  have hsz_2 := B2.size
  go_wp2_with fail
  refine (HA.out _).mono ?_
  rintro e w3 ⟨rfl, hb3⟩
  have B3 : Below w.heap.size w w3 := bl_call (by repeat (first | exact Below.refl _ _ | exact Nat.le_refl _ | refine Below.alloc ?_ ?_ _ | refine Below.setCell ?_ ?_ _ | refine Below.drew ?_ | refine bl_drewN ?_ _ | (assumption) | refine bl_call ?_ (by assumption) ?_ | omega | (simp <;> omega))) hb3 (by first | assumption | (simp; done) | (simp; omega) | omega)
  clear hb3
  have hsz_3 := B3.size
  go_wp2_with fail
  refine (HB.out _).mono ?_
  rintro e w4 ⟨rfl, hb4⟩
  have cew3_heap_size4_0 : w4.cell? ⟨w3.heap.size, 0, none⟩ = some (.int .i64 A1) := keep_cell hb4 (by first | assumption | (go_simp; done) | (simp; done) | simp [*])
  have zew3_heap_size4 : w3.heap.size < w4.heap.size := block_lt_of_cell cew3_heap_size4_0
  have cew3_heap_size4_1 : w4.cell? ⟨w3.heap.size, 1, none⟩ = some (.int .i64 A2) := keep_cell hb4 (by first | assumption | (go_simp; done) | (simp; done) | simp [*])
  have B4 : Below w.heap.size w w4 := bl_call (by repeat (first | exact Below.refl _ _ | exact Nat.le_refl _ | refine Below.alloc ?_ ?_ _ | refine Below.setCell ?_ ?_ _ | refine Below.drew ?_ | refine bl_drewN ?_ _ | (assumption) | refine bl_call ?_ (by assumption) ?_ | omega | (simp <;> omega))) hb4 (by first | assumption | (simp; done) | (simp; omega) | omega)
  clear hb4
  have hsz_4 := B4.size
  go_wp2_with fail
  refine (HC.out _).mono ?_
  rintro e w5 ⟨rfl, hb5⟩
  have cew3_heap_size5_0 : w5.cell? ⟨w3.heap.size, 0, none⟩ = some (.int .i64 A1) := keep_cell hb5 (by first | assumption | (go_simp; done) | (simp; done) | simp [*])
  have zew3_heap_size5 : w3.heap.size < w5.heap.size := block_lt_of_cell cew3_heap_size5_0
  have cew3_heap_size5_1 : w5.cell? ⟨w3.heap.size, 1, none⟩ = some (.int .i64 A2) := keep_cell hb5 (by first | assumption | (go_simp; done) | (simp; done) | simp [*])
  have cew4_heap_size5_0 : w5.cell? ⟨w4.heap.size, 0, none⟩ = some (.int .i64 (B1')) := keep_cell hb5 (by first | assumption | (go_simp; done) | (simp; done) | simp [*])
  have zew4_heap_size5 : w4.heap.size < w5.heap.size := block_lt_of_cell cew4_heap_size5_0
  have cew4_heap_size5_1 : w5.cell? ⟨w4.heap.size, 1, none⟩ = some (.int .i64 (B2')) := keep_cell hb5 (by first | assumption | (go_simp; done) | (simp; done) | simp [*])
  have B5 : Below w.heap.size w w5 := bl_call (by repeat (first | exact Below.refl _ _ | exact Nat.le_refl _ | refine Below.alloc ?_ ?_ _ | refine Below.setCell ?_ ?_ _ | refine Below.drew ?_ | refine bl_drewN ?_ _ | (assumption) | refine bl_call ?_ (by assumption) ?_ | omega | (simp <;> omega))) hb5 (by first | assumption | (simp; done) | (simp; omega) | omega)
  clear hb5
  have hsz_5 := B5.size
  go_wp2_with fail
  refine (HD.out _).mono ?_
  rintro e w6 ⟨rfl, hb6⟩
  have cew3_heap_size6_0 : w6.cell? ⟨w3.heap.size, 0, none⟩ = some (.int .i64 A1) := keep_cell hb6 (by first | assumption | (go_simp; done) | (simp; done) | simp [*])
  have zew3_heap_size6 : w3.heap.size < w6.heap.size := block_lt_of_cell cew3_heap_size6_0
  have cew3_heap_size6_1 : w6.cell? ⟨w3.heap.size, 1, none⟩ = some (.int .i64 A2) := keep_cell hb6 (by first | assumption | (go_simp; done) | (simp; done) | simp [*])
  have cew4_heap_size6_0 : w6.cell? ⟨w4.heap.size, 0, none⟩ = some (.int .i64 (B1')) := keep_cell hb6 (by first | assumption | (go_simp; done) | (simp; done) | simp [*])
  have zew4_heap_size6 : w4.heap.size < w6.heap.size := block_lt_of_cell cew4_heap_size6_0
  have cew4_heap_size6_1 : w6.cell? ⟨w4.heap.size, 1, none⟩ = some (.int .i64 (B2')) := keep_cell hb6 (by first | assumption | (go_simp; done) | (simp; done) | simp [*])
  have cew5_heap_size6_0 : w6.cell? ⟨w5.heap.size, 0, none⟩ = some (.int .i64 C1) := keep_cell hb6 (by first | assumption | (go_simp; done) | (simp; done) | simp [*])
  have zew5_heap_size6 : w5.heap.size < w6.heap.size := block_lt_of_cell cew5_heap_size6_0
  have cew5_heap_size6_1 : w6.cell? ⟨w5.heap.size, 1, none⟩ = some (.int .i64 C2) := keep_cell hb6 (by first | assumption | (go_simp; done) | (simp; done) | simp [*])
  have B6 : Below w.heap.size w w6 := bl_call (by repeat (first | exact Below.refl _ _ | exact Nat.le_refl _ | refine Below.alloc ?_ ?_ _ | refine Below.setCell ?_ ?_ _ | refine Below.drew ?_ | refine bl_drewN ?_ _ | (assumption) | refine bl_call ?_ (by assumption) ?_ | omega | (simp <;> omega))) hb6 (by first | assumption | (simp; done) | (simp; omega) | omega)
  clear hb6
  have hsz_6 := B6.size
  go_wp2_with fail
  refine (HP.out _).mono ?_
  rintro e w7 ⟨rfl, hb7⟩
  have cew3_heap_size7_0 : w7.cell? ⟨w3.heap.size, 0, none⟩ = some (.int .i64 A1) := keep_cell hb7 (by first | assumption | (go_simp; done) | (simp; done) | simp [*])
  have zew3_heap_size7 : w3.heap.size < w7.heap.size := block_lt_of_cell cew3_heap_size7_0
  have cew3_heap_size7_1 : w7.cell? ⟨w3.heap.size, 1, none⟩ = some (.int .i64 A2) := keep_cell hb7 (by first | assumption | (go_simp; done) | (simp; done) | simp [*])
  have cew4_heap_size7_0 : w7.cell? ⟨w4.heap.size, 0, none⟩ = some (.int .i64 (B1')) := keep_cell hb7 (by first | assumption | (go_simp; done) | (simp; done) | simp [*])
  have zew4_heap_size7 : w4.heap.size < w7.heap.size := block_lt_of_cell cew4_heap_size7_0
  have cew4_heap_size7_1 : w7.cell? ⟨w4.heap.size, 1, none⟩ = some (.int .i64 (B2')) := keep_cell hb7 (by first | assumption | (go_simp; done) | (simp; done) | simp [*])
  have cew5_heap_size7_0 : w7.cell? ⟨w5.heap.size, 0, none⟩ = some (.int .i64 C1) := keep_cell hb7 (by first | assumption | (go_simp; done) | (simp; done) | simp [*])
  have zew5_heap_size7 : w5.heap.size < w7.heap.size := block_lt_of_cell cew5_heap_size7_0
  have cew5_heap_size7_1 : w7.cell? ⟨w5.heap.size, 1, none⟩ = some (.int .i64 C2) := keep_cell hb7 (by first | assumption | (go_simp; done) | (simp; done) | simp [*])
  have cew6_heap_size7_0 : w7.cell? ⟨w6.heap.size, 0, none⟩ = some (.int .i64 D1) := keep_cell hb7 (by first | assumption | (go_simp; done) | (simp; done) | simp [*])
  have zew6_heap_size7 : w6.heap.size < w7.heap.size := block_lt_of_cell cew6_heap_size7_0
  have cew6_heap_size7_1 : w7.cell? ⟨w6.heap.size, 1, none⟩ = some (.int .i64 D2) := keep_cell hb7 (by first | assumption | (go_simp; done) | (simp; done) | simp [*])
  have B7 : Below w.heap.size w w7 := bl_call (by repeat (first | exact Below.refl _ _ | exact Nat.le_refl _ | refine Below.alloc ?_ ?_ _ | refine Below.setCell ?_ ?_ _ | refine Below.drew ?_ | refine bl_drewN ?_ _ | (assumption) | refine bl_call ?_ (by assumption) ?_ | omega | (simp <;> omega))) hb7 (by first | assumption | (simp; done) | (simp; omega) | omega)
  clear hb7
  have hsz_7 := B7.size
  go_wp2_with fail
  refine (HQ.out _).mono ?_
  rintro e w8 ⟨rfl, hb8⟩
  have cew3_heap_size8_0 : w8.cell? ⟨w3.heap.size, 0, none⟩ = some (.int .i64 A1) := keep_cell hb8 (by first | assumption | (go_simp; done) | (simp; done) | simp [*])
  have zew3_heap_size8 : w3.heap.size < w8.heap.size := block_lt_of_cell cew3_heap_size8_0
  have cew3_heap_size8_1 : w8.cell? ⟨w3.heap.size, 1, none⟩ = some (.int .i64 A2) := keep_cell hb8 (by first | assumption | (go_simp; done) | (simp; done) | simp [*])
  have cew4_heap_size8_0 : w8.cell? ⟨w4.heap.size, 0, none⟩ = some (.int .i64 (B1')) := keep_cell hb8 (by first | assumption | (go_simp; done) | (simp; done) | simp [*])
  have zew4_heap_size8 : w4.heap.size < w8.heap.size := block_lt_of_cell cew4_heap_size8_0
  have cew4_heap_size8_1 : w8.cell? ⟨w4.heap.size, 1, none⟩ = some (.int .i64 (B2')) := keep_cell hb8 (by first | assumption | (go_simp; done) | (simp; done) | simp [*])
  have cew5_heap_size8_0 : w8.cell? ⟨w5.heap.size, 0, none⟩ = some (.int .i64 C1) := keep_cell hb8 (by first | assumption | (go_simp; done) | (simp; done) | simp [*])
  have zew5_heap_size8 : w5.heap.size < w8.heap.size := block_lt_of_cell cew5_heap_size8_0
  have cew5_heap_size8_1 : w8.cell? ⟨w5.heap.size, 1, none⟩ = some (.int .i64 C2) := keep_cell hb8 (by first | assumption | (go_simp; done) | (simp; done) | simp [*])
  have cew6_heap_size8_0 : w8.cell? ⟨w6.heap.size, 0, none⟩ = some (.int .i64 D1) := keep_cell hb8 (by first | assumption | (go_simp; done) | (simp; done) | simp [*])
  have zew6_heap_size8 : w6.heap.size < w8.heap.size := block_lt_of_cell cew6_heap_size8_0
  have cew6_heap_size8_1 : w8.cell? ⟨w6.heap.size, 1, none⟩ = some (.int .i64 D2) := keep_cell hb8 (by first | assumption | (go_simp; done) | (simp; done) | simp [*])
  have cew7_heap_size8_0 : w8.cell? ⟨w7.heap.size, 0, none⟩ = some (.int .i64 P1) := keep_cell hb8 (by first | assumption | (go_simp; done) | (simp; done) | simp [*])
  have zew7_heap_size8 : w7.heap.size < w8.heap.size := block_lt_of_cell cew7_heap_size8_0
  have cew7_heap_size8_1 : w8.cell? ⟨w7.heap.size, 1, none⟩ = some (.int .i64 P2) := keep_cell hb8 (by first | assumption | (go_simp; done) | (simp; done) | simp [*])
  have B8 : Below w.heap.size w w8 := bl_call (by repeat (first | exact Below.refl _ _ | exact Nat.le_refl _ | refine Below.alloc ?_ ?_ _ | refine Below.setCell ?_ ?_ _ | refine Below.drew ?_ | refine bl_drewN ?_ _ | (assumption) | refine bl_call ?_ (by assumption) ?_ | omega | (simp <;> omega))) hb8 (by first | assumption | (simp; done) | (simp; omega) | omega)
  clear hb8
  have hsz_8 := B8.size
  go_wp2_with fail
  refine (HNM.out _).mono ?_
  rintro e w10 ⟨rfl, hb10⟩
  have cew3_heap_size10_0 : w10.cell? ⟨w3.heap.size, 0, none⟩ = some (.int .i64 A1) := keep_cell hb10 (by first | assumption | (go_simp; done) | (simp; done) | simp [*])
  have zew3_heap_size10 : w3.heap.size < w10.heap.size := block_lt_of_cell cew3_heap_size10_0
  have cew3_heap_size10_1 : w10.cell? ⟨w3.heap.size, 1, none⟩ = some (.int .i64 A2) := keep_cell hb10 (by first | assumption | (go_simp; done) | (simp; done) | simp [*])
  have cew4_heap_size10_0 : w10.cell? ⟨w4.heap.size, 0, none⟩ = some (.int .i64 (B1')) := keep_cell hb10 (by first | assumption | (go_simp; done) | (simp; done) | simp [*])
  have zew4_heap_size10 : w4.heap.size < w10.heap.size := block_lt_of_cell cew4_heap_size10_0
  have cew4_heap_size10_1 : w10.cell? ⟨w4.heap.size, 1, none⟩ = some (.int .i64 (B2')) := keep_cell hb10 (by first | assumption | (go_simp; done) | (simp; done) | simp [*])
  have cew5_heap_size10_0 : w10.cell? ⟨w5.heap.size, 0, none⟩ = some (.int .i64 C1) := keep_cell hb10 (by first | assumption | (go_simp; done) | (simp; done) | simp [*])
  have zew5_heap_size10 : w5.heap.size < w10.heap.size := block_lt_of_cell cew5_heap_size10_0
  have cew5_heap_size10_1 : w10.cell? ⟨w5.heap.size, 1, none⟩ = some (.int .i64 C2) := keep_cell hb10 (by first | assumption | (go_simp; done) | (simp; done) | simp [*])
  have cew6_heap_size10_0 : w10.cell? ⟨w6.heap.size, 0, none⟩ = some (.int .i64 D1) := keep_cell hb10 (by first | assumption | (go_simp; done) | (simp; done) | simp [*])
  have zew6_heap_size10 : w6.heap.size < w10.heap.size := block_lt_of_cell cew6_heap_size10_0
  have cew6_heap_size10_1 : w10.cell? ⟨w6.heap.size, 1, none⟩ = some (.int .i64 D2) := keep_cell hb10 (by first | assumption | (go_simp; done) | (simp; done) | simp [*])
  have cew7_heap_size10_0 : w10.cell? ⟨w7.heap.size, 0, none⟩ = some (.int .i64 P1) := keep_cell hb10 (by first | assumption | (go_simp; done) | (simp; done) | simp [*])
  have zew7_heap_size10 : w7.heap.size < w10.heap.size := block_lt_of_cell cew7_heap_size10_0
  have cew7_heap_size10_1 : w10.cell? ⟨w7.heap.size, 1, none⟩ = some (.int .i64 P2) := keep_cell hb10 (by first | assumption | (go_simp; done) | (simp; done) | simp [*])
  have cew8_heap_size10_0 : w10.cell? ⟨w8.heap.size, 0, none⟩ = some (.int .i64 P1) := keep_cell hb10 (by first | assumption | (go_simp; done) | (simp; done) | simp [*])
  have zew8_heap_size10 : w8.heap.size < w10.heap.size := block_lt_of_cell cew8_heap_size10_0
  have cew8_heap_size10_1 : w10.cell? ⟨w8.heap.size, 1, none⟩ = some (.int .i64 P2) := keep_cell hb10 (by first | assumption | (go_simp; done) | (simp; done) | simp [*])
  have B10 : Below w.heap.size w w10 := bl_call (by repeat (first | exact Below.refl _ _ | exact Nat.le_refl _ | refine Below.alloc ?_ ?_ _ | refine Below.setCell ?_ ?_ _ | refine Below.drew ?_ | refine bl_drewN ?_ _ | (assumption) | refine bl_call ?_ (by assumption) ?_ | omega | (simp <;> omega))) hb10 (by first | assumption | (simp; done) | (simp; omega) | omega)
  clear hb10
  have hsz_10 := B10.size
  go_wp2_with fail
  refine (HCMP.out _).mono ?_
  rintro e w11 ⟨rfl, hb11⟩
  have cew3_heap_size11_0 : w11.cell? ⟨w3.heap.size, 0, none⟩ = some (.int .i64 A1) := keep_cell hb11 (by first | assumption | (go_simp; done) | (simp; done) | simp [*])
  have zew3_heap_size11 : w3.heap.size < w11.heap.size := block_lt_of_cell cew3_heap_size11_0
  have cew3_heap_size11_1 : w11.cell? ⟨w3.heap.size, 1, none⟩ = some (.int .i64 A2) := keep_cell hb11 (by first | assumption | (go_simp; done) | (simp; done) | simp [*])
  have cew4_heap_size11_0 : w11.cell? ⟨w4.heap.size, 0, none⟩ = some (.int .i64 (B1')) := keep_cell hb11 (by first | assumption | (go_simp; done) | (simp; done) | simp [*])
  have zew4_heap_size11 : w4.heap.size < w11.heap.size := block_lt_of_cell cew4_heap_size11_0
  have cew4_heap_size11_1 : w11.cell? ⟨w4.heap.size, 1, none⟩ = some (.int .i64 (B2')) := keep_cell hb11 (by first | assumption | (go_simp; done) | (simp; done) | simp [*])
  have cew5_heap_size11_0 : w11.cell? ⟨w5.heap.size, 0, none⟩ = some (.int .i64 C1) := keep_cell hb11 (by first | assumption | (go_simp; done) | (simp; done) | simp [*])
  have zew5_heap_size11 : w5.heap.size < w11.heap.size := block_lt_of_cell cew5_heap_size11_0
  have cew5_heap_size11_1 : w11.cell? ⟨w5.heap.size, 1, none⟩ = some (.int .i64 C2) := keep_cell hb11 (by first | assumption | (go_simp; done) | (simp; done) | simp [*])
  have cew6_heap_size11_0 : w11.cell? ⟨w6.heap.size, 0, none⟩ = some (.int .i64 D1) := keep_cell hb11 (by first | assumption | (go_simp; done) | (simp; done) | simp [*])
  have zew6_heap_size11 : w6.heap.size < w11.heap.size := block_lt_of_cell cew6_heap_size11_0
  have cew6_heap_size11_1 : w11.cell? ⟨w6.heap.size, 1, none⟩ = some (.int .i64 D2) := keep_cell hb11 (by first | assumption | (go_simp; done) | (simp; done) | simp [*])
  have cew7_heap_size11_0 : w11.cell? ⟨w7.heap.size, 0, none⟩ = some (.int .i64 P1) := keep_cell hb11 (by first | assumption | (go_simp; done) | (simp; done) | simp [*])
  have zew7_heap_size11 : w7.heap.size < w11.heap.size := block_lt_of_cell cew7_heap_size11_0
  have cew7_heap_size11_1 : w11.cell? ⟨w7.heap.size, 1, none⟩ = some (.int .i64 P2) := keep_cell hb11 (by first | assumption | (go_simp; done) | (simp; done) | simp [*])
  have cew8_heap_size11_0 : w11.cell? ⟨w8.heap.size, 0, none⟩ = some (.int .i64 P1) := keep_cell hb11 (by first | assumption | (go_simp; done) | (simp; done) | simp [*])
  have zew8_heap_size11 : w8.heap.size < w11.heap.size := block_lt_of_cell cew8_heap_size11_0
  have cew8_heap_size11_1 : w11.cell? ⟨w8.heap.size, 1, none⟩ = some (.int .i64 P2) := keep_cell hb11 (by first | assumption | (go_simp; done) | (simp; done) | simp [*])
  have B11 : Below w.heap.size w w11 := bl_call (by repeat (first | exact Below.refl _ _ | exact Nat.le_refl _ | refine Below.alloc ?_ ?_ _ | refine Below.setCell ?_ ?_ _ | refine Below.drew ?_ | refine bl_drewN ?_ _ | (assumption) | refine bl_call ?_ (by assumption) ?_ | omega | (simp <;> omega))) hb11 (by first | assumption | (simp; done) | (simp; omega) | omega)
  clear hb11
  have hsz_11 := B11.size
  clear HMK HN HA HB HC HD HP HQ HCMP HNM
  have hq := HQ2.out
  clear HPAR HQ2
  go_upto_region 13 with fail
  refine with_act fun a0 ha0 => ?_
  have hsz0 : a0.tmps.size = 131 := by rw [ha0]; rfl
  refine wp_region_vals (W0 := w11) (by kernel_rfl) (by kernel_rfl) [(77, .int .i64 0), (78, .bool true), (79, .bool true), (80, .int .i64 0), (81, .bool true), (82, .bool true), (83, .bool true), (84, .int .i64 0), (85, .bool true), (86, .bool true), (87, .bool true), (88, .int .i64 0), (89, .bool true), (90, .bool true), (91, .bool true), (92, .int .i64 0), (93, .bool true), (94, .bool true), (95, .bool true), (96, .int .i64 0), (97, .bool true), (98, .bool true), (99, .bool true), (100, .int .i64 0), (101, .bool true), (102, .bool true), (103, .bool true), (104, .int .i64 0), (105, .bool true), (106, .bool true), (107, .bool true), (108, .agg #[.int .i64 A1, .int .i64 A2]), (109, .agg #[.int .i64 B1', .int .i64 B2']), (110, .agg #[.int .i64 C1, .int .i64 C2]), (111, .agg #[.int .i64 C1, .int .i64 C2]), (112, .bool true), (113, .bool true), (114, .bool true), (115, .agg #[.int .i64 P1, .int .i64 P2]), (116, .agg #[.int .i64 P1, .int .i64 P2]), (117, .bool true), (118, .bool true), (119, .bool true), (120, .int .i64 (-1)), (121, .int .i64 (-1)), (122, .bool true), (123, .bool true), (124, .bool true), (125, .int .i64 (-1)), (126, .bool true), (127, .bool true), (128, .bool true), (129, .bool true), (130, .bool true), (4, .bool true)] rfl (by show ([77, 78, 79, 80, 81, 82, 83, 84, 85, 86, 87, 88, 89, 90, 91, 92, 93, 94, 95, 96, 97, 98, 99, 100, 101, 102, 103, 104, 105, 106, 107, 108, 109, 110, 111, 112, 113, 114, 115, 116, 117, 118, 119, 120, 121, 122, 123, 124, 125, 126, 127, 128, 129, 130, 4] : List Nat).Nodup; decide) _ hsz0 (by kernel_rfl) (BelX.start _ _) ⟨⟨rfl, ?y1v0⟩, ⟨rfl, ?y1v1⟩, ⟨rfl, ?y1v2⟩, ⟨rfl, ?y1v3⟩, ⟨rfl, ?y1v4⟩, ⟨rfl, ?y1v5⟩, ⟨rfl, ?y1v6⟩, ⟨rfl, ?y1v7⟩, ⟨rfl, ?y1v8⟩, ⟨rfl, ?y1v9⟩, ⟨rfl, ?y1v10⟩, ⟨rfl, ?y1v11⟩, ⟨rfl, ?y1v12⟩, ⟨rfl, ?y1v13⟩, ⟨rfl, ?y1v14⟩, ⟨rfl, ?y1v15⟩, ⟨rfl, ?y1v16⟩, ⟨rfl, ?y1v17⟩, ⟨rfl, ?y1v18⟩, ⟨rfl, ?y1v19⟩, ⟨rfl, ?y1v20⟩, ⟨rfl, ?y1v21⟩, ⟨rfl, ?y1v22⟩, ⟨rfl, ?y1v23⟩, ⟨rfl, ?y1v24⟩, ⟨rfl, ?y1v25⟩, ⟨rfl, ?y1v26⟩, ⟨rfl, ?y1v27⟩, ⟨rfl, ?y1v28⟩, ⟨rfl, ?y1v29⟩, ⟨rfl, ?y1v30⟩, ⟨rfl, ?y1v31⟩, ⟨rfl, ?y1v32⟩, ⟨rfl, ?y1v33⟩, ⟨rfl, ?y1v34⟩, ⟨rfl, ?y1v35⟩, ⟨rfl, ?y1v36⟩, ⟨rfl, ?y1v37⟩, ⟨rfl, ?y1v38⟩, ⟨rfl, ?y1v39⟩, ⟨rfl, ?y1v40⟩, ⟨rfl, ?y1v41⟩, ⟨rfl, ?y1v42⟩, ⟨rfl, ?y1v43⟩, ⟨rfl, ?y1v44⟩, ⟨rfl, ?y1v45⟩, ⟨rfl, ?y1v46⟩, ⟨rfl, ?y1v47⟩, ⟨rfl, ?y1v48⟩, ⟨rfl, ?y1v49⟩, ⟨rfl, ?y1v50⟩, ⟨rfl, ?y1v51⟩, ⟨rfl, ?y1v52⟩, ⟨rfl, ?y1v53⟩, ⟨rfl, ?y1v54⟩, trivial⟩ ?y1done
  case y1v0 =>
    intro a w' hA hdep hX K hK
    have r6 : a.eval (.tmp 6) = .int .i64 0 := (hA.out 6 (by kernel_rfl)).trans (by rw [ha0]; rfl)
    have q6 := eval_get r6
    clear hdep ha0 hA
    refine StepG.value (w' := w') (v := .int .i64 0) (wanted_none rfl) rfl ?_ (hK _ hX)
    simp [go_sem, *]
  case y1v1 =>
    intro a w' hA hdep hX K hK
    have r77 : a.eval (.tmp 77) = .int .i64 0 := hdep ⟨0, .data⟩ (by simp) rfl (77, .int .i64 0) rfl
    have q77 := eval_get r77
    clear hdep ha0 hA
    refine StepG.value (w' := w') (v := .bool true) (wanted_none rfl) rfl ?_ (hK _ hX)
    simp [go_sem, *]
  case y1v2 =>
    intro a w' hA hdep hX K hK
    have r78 : a.eval (.tmp 78) = .bool true := hdep ⟨1, .data⟩ (by simp) rfl (78, .bool true) rfl
    have q78 := eval_get r78
    clear hdep ha0 hA
    refine StepG.value (w' := w') (v := .bool true) (wanted_none rfl) rfl ?_ (hK _ hX)
    simp [go_sem, *]
  case y1v3 =>
    intro a w' hA hdep hX K hK
    have r79 : a.eval (.tmp 79) = .bool true := hdep ⟨2, .guard⟩ (by simp) rfl (79, .bool true) rfl
    have r8 : a.eval (.tmp 8) = .int .i64 0 := (hA.out 8 (by kernel_rfl)).trans (by rw [ha0]; rfl)
    have q79 := eval_get r79
    have q8 := eval_get r8
    clear hdep ha0 hA
    refine StepG.value (w' := w') (v := .int .i64 0) (wanted_some rfl rfl r79) rfl ?_ (hK _ hX)
    simp [go_sem, *]
  case y1v4 =>
    intro a w' hA hdep hX K hK
    have r80 : a.eval (.tmp 80) = .int .i64 0 := hdep ⟨3, .data⟩ (by simp) rfl (80, .int .i64 0) rfl
    have r79 : a.eval (.tmp 79) = .bool true := hdep ⟨2, .guard⟩ (by simp) rfl (79, .bool true) rfl
    have q80 := eval_get r80
    have q79 := eval_get r79
    clear hdep ha0 hA
    refine StepG.value (w' := w') (v := .bool true) (wanted_some rfl rfl r79) rfl ?_ (hK _ hX)
    simp [go_sem, *]
  case y1v5 =>
    intro a w' hA hdep hX K hK
    have r79 : a.eval (.tmp 79) = .bool true := hdep ⟨2, .data⟩ (by simp) rfl (79, .bool true) rfl
    have r81 : a.eval (.tmp 81) = .bool true := hdep ⟨4, .data⟩ (by simp) rfl (81, .bool true) rfl
    have q79 := eval_get r79
    have q81 := eval_get r81
    clear hdep ha0 hA
    refine StepG.value (w' := w') (v := .bool true) (wanted_none rfl) rfl ?_ (hK _ hX)
    simp [go_sem, *]
  case y1v6 =>
    intro a w' hA hdep hX K hK
    have r82 : a.eval (.tmp 82) = .bool true := hdep ⟨5, .data⟩ (by simp) rfl (82, .bool true) rfl
    have q82 := eval_get r82
    clear hdep ha0 hA
    refine StepG.value (w' := w') (v := .bool true) (wanted_none rfl) rfl ?_ (hK _ hX)
    simp [go_sem, *]
  case y1v7 =>
    intro a w' hA hdep hX K hK
    have r83 : a.eval (.tmp 83) = .bool true := hdep ⟨6, .guard⟩ (by simp) rfl (83, .bool true) rfl
    have r10 : a.eval (.tmp 10) = .int .i64 0 := (hA.out 10 (by kernel_rfl)).trans (by rw [ha0]; rfl)
    have q83 := eval_get r83
    have q10 := eval_get r10
    clear hdep ha0 hA
    refine StepG.value (w' := w') (v := .int .i64 0) (wanted_some rfl rfl r83) rfl ?_ (hK _ hX)
    simp [go_sem, *]
  case y1v8 =>
    intro a w' hA hdep hX K hK
    have r84 : a.eval (.tmp 84) = .int .i64 0 := hdep ⟨7, .data⟩ (by simp) rfl (84, .int .i64 0) rfl
    have r83 : a.eval (.tmp 83) = .bool true := hdep ⟨6, .guard⟩ (by simp) rfl (83, .bool true) rfl
    have q84 := eval_get r84
    have q83 := eval_get r83
    clear hdep ha0 hA
    refine StepG.value (w' := w') (v := .bool true) (wanted_some rfl rfl r83) rfl ?_ (hK _ hX)
    simp [go_sem, *]
  case y1v9 =>
    intro a w' hA hdep hX K hK
    have r83 : a.eval (.tmp 83) = .bool true := hdep ⟨6, .data⟩ (by simp) rfl (83, .bool true) rfl
    have r85 : a.eval (.tmp 85) = .bool true := hdep ⟨8, .data⟩ (by simp) rfl (85, .bool true) rfl
    have q83 := eval_get r83
    have q85 := eval_get r85
    clear hdep ha0 hA
    refine StepG.value (w' := w') (v := .bool true) (wanted_none rfl) rfl ?_ (hK _ hX)
    simp [go_sem, *]
  case y1v10 =>
    intro a w' hA hdep hX K hK
    have r86 : a.eval (.tmp 86) = .bool true := hdep ⟨9, .data⟩ (by simp) rfl (86, .bool true) rfl
    have q86 := eval_get r86
    clear hdep ha0 hA
    refine StepG.value (w' := w') (v := .bool true) (wanted_none rfl) rfl ?_ (hK _ hX)
    simp [go_sem, *]
  case y1v11 =>
    intro a w' hA hdep hX K hK
    have r87 : a.eval (.tmp 87) = .bool true := hdep ⟨10, .guard⟩ (by simp) rfl (87, .bool true) rfl
    have r12 : a.eval (.tmp 12) = .int .i64 0 := (hA.out 12 (by kernel_rfl)).trans (by rw [ha0]; rfl)
    have q87 := eval_get r87
    have q12 := eval_get r12
    clear hdep ha0 hA
    refine StepG.value (w' := w') (v := .int .i64 0) (wanted_some rfl rfl r87) rfl ?_ (hK _ hX)
    simp [go_sem, *]
  case y1v12 =>
    intro a w' hA hdep hX K hK
    have r88 : a.eval (.tmp 88) = .int .i64 0 := hdep ⟨11, .data⟩ (by simp) rfl (88, .int .i64 0) rfl
    have r87 : a.eval (.tmp 87) = .bool true := hdep ⟨10, .guard⟩ (by simp) rfl (87, .bool true) rfl
    have q88 := eval_get r88
    have q87 := eval_get r87
    clear hdep ha0 hA
    refine StepG.value (w' := w') (v := .bool true) (wanted_some rfl rfl r87) rfl ?_ (hK _ hX)
    simp [go_sem, *]
  case y1v13 =>
    intro a w' hA hdep hX K hK
    have r87 : a.eval (.tmp 87) = .bool true := hdep ⟨10, .data⟩ (by simp) rfl (87, .bool true) rfl
    have r89 : a.eval (.tmp 89) = .bool true := hdep ⟨12, .data⟩ (by simp) rfl (89, .bool true) rfl
    have q87 := eval_get r87
    have q89 := eval_get r89
    clear hdep ha0 hA
    refine StepG.value (w' := w') (v := .bool true) (wanted_none rfl) rfl ?_ (hK _ hX)
    simp [go_sem, *]
  case y1v14 =>
    intro a w' hA hdep hX K hK
    have r90 : a.eval (.tmp 90) = .bool true := hdep ⟨13, .data⟩ (by simp) rfl (90, .bool true) rfl
    have q90 := eval_get r90
    clear hdep ha0 hA
    refine StepG.value (w' := w') (v := .bool true) (wanted_none rfl) rfl ?_ (hK _ hX)
    simp [go_sem, *]
  case y1v15 =>
    intro a w' hA hdep hX K hK
    have r91 : a.eval (.tmp 91) = .bool true := hdep ⟨14, .guard⟩ (by simp) rfl (91, .bool true) rfl
    have r14 : a.eval (.tmp 14) = .int .i64 0 := (hA.out 14 (by kernel_rfl)).trans (by rw [ha0]; rfl)
    have q91 := eval_get r91
    have q14 := eval_get r14
    clear hdep ha0 hA
    refine StepG.value (w' := w') (v := .int .i64 0) (wanted_some rfl rfl r91) rfl ?_ (hK _ hX)
    simp [go_sem, *]
  case y1v16 =>
    intro a w' hA hdep hX K hK
    have r92 : a.eval (.tmp 92) = .int .i64 0 := hdep ⟨15, .data⟩ (by simp) rfl (92, .int .i64 0) rfl
    have r91 : a.eval (.tmp 91) = .bool true := hdep ⟨14, .guard⟩ (by simp) rfl (91, .bool true) rfl
    have q92 := eval_get r92
    have q91 := eval_get r91
    clear hdep ha0 hA
    refine StepG.value (w' := w') (v := .bool true) (wanted_some rfl rfl r91) rfl ?_ (hK _ hX)
    simp [go_sem, *]
  case y1v17 =>
    intro a w' hA hdep hX K hK
    have r91 : a.eval (.tmp 91) = .bool true := hdep ⟨14, .data⟩ (by simp) rfl (91, .bool true) rfl
    have r93 : a.eval (.tmp 93) = .bool true := hdep ⟨16, .data⟩ (by simp) rfl (93, .bool true) rfl
    have q91 := eval_get r91
    have q93 := eval_get r93
    clear hdep ha0 hA
    refine StepG.value (w' := w') (v := .bool true) (wanted_none rfl) rfl ?_ (hK _ hX)
    simp [go_sem, *]
  case y1v18 =>
    intro a w' hA hdep hX K hK
    have r94 : a.eval (.tmp 94) = .bool true := hdep ⟨17, .data⟩ (by simp) rfl (94, .bool true) rfl
    have q94 := eval_get r94
    clear hdep ha0 hA
    refine StepG.value (w' := w') (v := .bool true) (wanted_none rfl) rfl ?_ (hK _ hX)
    simp [go_sem, *]
  case y1v19 =>
    intro a w' hA hdep hX K hK
    have r95 : a.eval (.tmp 95) = .bool true := hdep ⟨18, .guard⟩ (by simp) rfl (95, .bool true) rfl
    have r16 : a.eval (.tmp 16) = .int .i64 0 := (hA.out 16 (by kernel_rfl)).trans (by rw [ha0]; rfl)
    have q95 := eval_get r95
    have q16 := eval_get r16
    clear hdep ha0 hA
    refine StepG.value (w' := w') (v := .int .i64 0) (wanted_some rfl rfl r95) rfl ?_ (hK _ hX)
    simp [go_sem, *]
  case y1v20 =>
    intro a w' hA hdep hX K hK
    have r96 : a.eval (.tmp 96) = .int .i64 0 := hdep ⟨19, .data⟩ (by simp) rfl (96, .int .i64 0) rfl
    have r95 : a.eval (.tmp 95) = .bool true := hdep ⟨18, .guard⟩ (by simp) rfl (95, .bool true) rfl
    have q96 := eval_get r96
    have q95 := eval_get r95
    clear hdep ha0 hA
    refine StepG.value (w' := w') (v := .bool true) (wanted_some rfl rfl r95) rfl ?_ (hK _ hX)
    simp [go_sem, *]
  case y1v21 =>
    intro a w' hA hdep hX K hK
    have r95 : a.eval (.tmp 95) = .bool true := hdep ⟨18, .data⟩ (by simp) rfl (95, .bool true) rfl
    have r97 : a.eval (.tmp 97) = .bool true := hdep ⟨20, .data⟩ (by simp) rfl (97, .bool true) rfl
    have q95 := eval_get r95
    have q97 := eval_get r97
    clear hdep ha0 hA
    refine StepG.value (w' := w') (v := .bool true) (wanted_none rfl) rfl ?_ (hK _ hX)
    simp [go_sem, *]
  case y1v22 =>
    intro a w' hA hdep hX K hK
    have r98 : a.eval (.tmp 98) = .bool true := hdep ⟨21, .data⟩ (by simp) rfl (98, .bool true) rfl
    have q98 := eval_get r98
    clear hdep ha0 hA
    refine StepG.value (w' := w') (v := .bool true) (wanted_none rfl) rfl ?_ (hK _ hX)
    simp [go_sem, *]
  case y1v23 =>
    intro a w' hA hdep hX K hK
    have r99 : a.eval (.tmp 99) = .bool true := hdep ⟨22, .guard⟩ (by simp) rfl (99, .bool true) rfl
    have r18 : a.eval (.tmp 18) = .int .i64 0 := (hA.out 18 (by kernel_rfl)).trans (by rw [ha0]; rfl)
    have q99 := eval_get r99
    have q18 := eval_get r18
    clear hdep ha0 hA
    refine StepG.value (w' := w') (v := .int .i64 0) (wanted_some rfl rfl r99) rfl ?_ (hK _ hX)
    simp [go_sem, *]
  case y1v24 =>
    intro a w' hA hdep hX K hK
    have r100 : a.eval (.tmp 100) = .int .i64 0 := hdep ⟨23, .data⟩ (by simp) rfl (100, .int .i64 0) rfl
    have r99 : a.eval (.tmp 99) = .bool true := hdep ⟨22, .guard⟩ (by simp) rfl (99, .bool true) rfl
    have q100 := eval_get r100
    have q99 := eval_get r99
    clear hdep ha0 hA
    refine StepG.value (w' := w') (v := .bool true) (wanted_some rfl rfl r99) rfl ?_ (hK _ hX)
    simp [go_sem, *]
  case y1v25 =>
    intro a w' hA hdep hX K hK
    have r99 : a.eval (.tmp 99) = .bool true := hdep ⟨22, .data⟩ (by simp) rfl (99, .bool true) rfl
    have r101 : a.eval (.tmp 101) = .bool true := hdep ⟨24, .data⟩ (by simp) rfl (101, .bool true) rfl
    have q99 := eval_get r99
    have q101 := eval_get r101
    clear hdep ha0 hA
    refine StepG.value (w' := w') (v := .bool true) (wanted_none rfl) rfl ?_ (hK _ hX)
    simp [go_sem, *]
  case y1v26 =>
    intro a w' hA hdep hX K hK
    have r102 : a.eval (.tmp 102) = .bool true := hdep ⟨25, .data⟩ (by simp) rfl (102, .bool true) rfl
    have q102 := eval_get r102
    clear hdep ha0 hA
    refine StepG.value (w' := w') (v := .bool true) (wanted_none rfl) rfl ?_ (hK _ hX)
    simp [go_sem, *]
  case y1v27 =>
    intro a w' hA hdep hX K hK
    have r103 : a.eval (.tmp 103) = .bool true := hdep ⟨26, .guard⟩ (by simp) rfl (103, .bool true) rfl
    have r20 : a.eval (.tmp 20) = .int .i64 0 := (hA.out 20 (by kernel_rfl)).trans (by rw [ha0]; rfl)
    have q103 := eval_get r103
    have q20 := eval_get r20
    clear hdep ha0 hA
    refine StepG.value (w' := w') (v := .int .i64 0) (wanted_some rfl rfl r103) rfl ?_ (hK _ hX)
    simp [go_sem, *]
  case y1v28 =>
    intro a w' hA hdep hX K hK
    have r104 : a.eval (.tmp 104) = .int .i64 0 := hdep ⟨27, .data⟩ (by simp) rfl (104, .int .i64 0) rfl
    have r103 : a.eval (.tmp 103) = .bool true := hdep ⟨26, .guard⟩ (by simp) rfl (103, .bool true) rfl
    have q104 := eval_get r104
    have q103 := eval_get r103
    clear hdep ha0 hA
    refine StepG.value (w' := w') (v := .bool true) (wanted_some rfl rfl r103) rfl ?_ (hK _ hX)
    simp [go_sem, *]
  case y1v29 =>
    intro a w' hA hdep hX K hK
    have r103 : a.eval (.tmp 103) = .bool true := hdep ⟨26, .data⟩ (by simp) rfl (103, .bool true) rfl
    have r105 : a.eval (.tmp 105) = .bool true := hdep ⟨28, .data⟩ (by simp) rfl (105, .bool true) rfl
    have q103 := eval_get r103
    have q105 := eval_get r105
    clear hdep ha0 hA
    refine StepG.value (w' := w') (v := .bool true) (wanted_none rfl) rfl ?_ (hK _ hX)
    simp [go_sem, *]
  case y1v30 =>
    intro a w' hA hdep hX K hK
    have r106 : a.eval (.tmp 106) = .bool true := hdep ⟨29, .data⟩ (by simp) rfl (106, .bool true) rfl
    have q106 := eval_get r106
    clear hdep ha0 hA
    refine StepG.value (w' := w') (v := .bool true) (wanted_none rfl) rfl ?_ (hK _ hX)
    simp [go_sem, *]
  case y1v31 =>
    intro a w' hA hdep hX K hK
    have r107 : a.eval (.tmp 107) = .bool true := hdep ⟨30, .guard⟩ (by simp) rfl (107, .bool true) rfl
    have r5 : a.eval (.tmp 5) = .pointer (some ⟨w3.heap.size, 0, none⟩) := (hA.out 5 (by kernel_rfl)).trans (by rw [ha0]; rfl)
    have kc0 : w'.cell? ⟨w3.heap.size, 0, none⟩ = some (.int .i64 A1) := hX.cell (by simp) (by first | assumption | (go_simp; done) | (simp; done))
    have kc1 : w'.cell? ⟨w3.heap.size, 1, none⟩ = some (.int .i64 A2) := hX.cell (by simp) (by first | assumption | (go_simp; done) | (simp; done))
    have kc2 : w'.cell? ⟨w4.heap.size, 0, none⟩ = some (.int .i64 (B1')) := hX.cell (by simp) (by first | assumption | (go_simp; done) | (simp; done))
    have kc3 : w'.cell? ⟨w4.heap.size, 1, none⟩ = some (.int .i64 (B2')) := hX.cell (by simp) (by first | assumption | (go_simp; done) | (simp; done))
    have kc4 : w'.cell? ⟨w5.heap.size, 0, none⟩ = some (.int .i64 C1) := hX.cell (by simp) (by first | assumption | (go_simp; done) | (simp; done))
    have kc5 : w'.cell? ⟨w5.heap.size, 1, none⟩ = some (.int .i64 C2) := hX.cell (by simp) (by first | assumption | (go_simp; done) | (simp; done))
    have kc6 : w'.cell? ⟨w7.heap.size, 0, none⟩ = some (.int .i64 P1) := hX.cell (by simp) (by first | assumption | (go_simp; done) | (simp; done))
    have kc7 : w'.cell? ⟨w7.heap.size, 1, none⟩ = some (.int .i64 P2) := hX.cell (by simp) (by first | assumption | (go_simp; done) | (simp; done))
    have kc8 : w'.cell? ⟨w8.heap.size, 0, none⟩ = some (.int .i64 P1) := hX.cell (by simp) (by first | assumption | (go_simp; done) | (simp; done))
    have kc9 : w'.cell? ⟨w8.heap.size, 1, none⟩ = some (.int .i64 P2) := hX.cell (by simp) (by first | assumption | (go_simp; done) | (simp; done))
    have q107 := eval_get r107
    have q5 := eval_get r5
    clear hdep ha0 hA
    refine StepG.value (w' := w') (v := .agg #[.int .i64 A1, .int .i64 A2]) (wanted_some rfl rfl r107) rfl ?_ (hK _ hX)
    simp [go_sem, *]
  case y1v32 =>
    intro a w' hA hdep hX K hK
    have r107 : a.eval (.tmp 107) = .bool true := hdep ⟨30, .guard⟩ (by simp) rfl (107, .bool true) rfl
    have r7 : a.eval (.tmp 7) = .pointer (some ⟨w4.heap.size, 0, none⟩) := (hA.out 7 (by kernel_rfl)).trans (by rw [ha0]; rfl)
    have kc0 : w'.cell? ⟨w3.heap.size, 0, none⟩ = some (.int .i64 A1) := hX.cell (by simp) (by first | assumption | (go_simp; done) | (simp; done))
    have kc1 : w'.cell? ⟨w3.heap.size, 1, none⟩ = some (.int .i64 A2) := hX.cell (by simp) (by first | assumption | (go_simp; done) | (simp; done))
    have kc2 : w'.cell? ⟨w4.heap.size, 0, none⟩ = some (.int .i64 (B1')) := hX.cell (by simp) (by first | assumption | (go_simp; done) | (simp; done))
    have kc3 : w'.cell? ⟨w4.heap.size, 1, none⟩ = some (.int .i64 (B2')) := hX.cell (by simp) (by first | assumption | (go_simp; done) | (simp; done))
    have kc4 : w'.cell? ⟨w5.heap.size, 0, none⟩ = some (.int .i64 C1) := hX.cell (by simp) (by first | assumption | (go_simp; done) | (simp; done))
    have kc5 : w'.cell? ⟨w5.heap.size, 1, none⟩ = some (.int .i64 C2) := hX.cell (by simp) (by first | assumption | (go_simp; done) | (simp; done))
    have kc6 : w'.cell? ⟨w7.heap.size, 0, none⟩ = some (.int .i64 P1) := hX.cell (by simp) (by first | assumption | (go_simp; done) | (simp; done))
    have kc7 : w'.cell? ⟨w7.heap.size, 1, none⟩ = some (.int .i64 P2) := hX.cell (by simp) (by first | assumption | (go_simp; done) | (simp; done))
    have kc8 : w'.cell? ⟨w8.heap.size, 0, none⟩ = some (.int .i64 P1) := hX.cell (by simp) (by first | assumption | (go_simp; done) | (simp; done))
    have kc9 : w'.cell? ⟨w8.heap.size, 1, none⟩ = some (.int .i64 P2) := hX.cell (by simp) (by first | assumption | (go_simp; done) | (simp; done))
    have q107 := eval_get r107
    have q7 := eval_get r7
    clear hdep ha0 hA
    refine StepG.value (w' := w') (v := .agg #[.int .i64 B1', .int .i64 B2']) (wanted_some rfl rfl r107) rfl ?_ (hK _ hX)
    simp [go_sem, *]
  case y1v33 =>
    intro a w' hA hdep hX K hK
    have r108 : a.eval (.tmp 108) = .agg #[.int .i64 A1, .int .i64 A2] := hdep ⟨31, .data⟩ (by simp) rfl (108, .agg #[.int .i64 A1, .int .i64 A2]) rfl
    have r109 : a.eval (.tmp 109) = .agg #[.int .i64 B1', .int .i64 B2'] := hdep ⟨32, .data⟩ (by simp) rfl (109, .agg #[.int .i64 B1', .int .i64 B2']) rfl
    have r107 : a.eval (.tmp 107) = .bool true := hdep ⟨30, .chain⟩ (by simp) rfl (107, .bool true) rfl
    have q108 := eval_get r108
    have q109 := eval_get r109
    have q107 := eval_get r107
    clear hdep ha0 hA
    refine StepG.call (v := .agg #[.int .i64 C1, .int .i64 C2]) (wanted_some rfl rfl r107) rfl ?_ ((HPL.out _)) (fun w2 hb => hK _ (hX.call hb))
    simp [go_sem, *]
  case y1v34 =>
    intro a w' hA hdep hX K hK
    have r107 : a.eval (.tmp 107) = .bool true := hdep ⟨30, .guard⟩ (by simp) rfl (107, .bool true) rfl
    have r9 : a.eval (.tmp 9) = .pointer (some ⟨w5.heap.size, 0, none⟩) := (hA.out 9 (by kernel_rfl)).trans (by rw [ha0]; rfl)
    have kc0 : w'.cell? ⟨w3.heap.size, 0, none⟩ = some (.int .i64 A1) := hX.cell (by simp) (by first | assumption | (go_simp; done) | (simp; done))
    have kc1 : w'.cell? ⟨w3.heap.size, 1, none⟩ = some (.int .i64 A2) := hX.cell (by simp) (by first | assumption | (go_simp; done) | (simp; done))
    have kc2 : w'.cell? ⟨w4.heap.size, 0, none⟩ = some (.int .i64 (B1')) := hX.cell (by simp) (by first | assumption | (go_simp; done) | (simp; done))
    have kc3 : w'.cell? ⟨w4.heap.size, 1, none⟩ = some (.int .i64 (B2')) := hX.cell (by simp) (by first | assumption | (go_simp; done) | (simp; done))
    have kc4 : w'.cell? ⟨w5.heap.size, 0, none⟩ = some (.int .i64 C1) := hX.cell (by simp) (by first | assumption | (go_simp; done) | (simp; done))
    have kc5 : w'.cell? ⟨w5.heap.size, 1, none⟩ = some (.int .i64 C2) := hX.cell (by simp) (by first | assumption | (go_simp; done) | (simp; done))
    have kc6 : w'.cell? ⟨w7.heap.size, 0, none⟩ = some (.int .i64 P1) := hX.cell (by simp) (by first | assumption | (go_simp; done) | (simp; done))
    have kc7 : w'.cell? ⟨w7.heap.size, 1, none⟩ = some (.int .i64 P2) := hX.cell (by simp) (by first | assumption | (go_simp; done) | (simp; done))
    have kc8 : w'.cell? ⟨w8.heap.size, 0, none⟩ = some (.int .i64 P1) := hX.cell (by simp) (by first | assumption | (go_simp; done) | (simp; done))
    have kc9 : w'.cell? ⟨w8.heap.size, 1, none⟩ = some (.int .i64 P2) := hX.cell (by simp) (by first | assumption | (go_simp; done) | (simp; done))
    have q107 := eval_get r107
    have q9 := eval_get r9
    clear hdep ha0 hA
    refine StepG.value (w' := w') (v := .agg #[.int .i64 C1, .int .i64 C2]) (wanted_some rfl rfl r107) rfl ?_ (hK _ hX)
    simp [go_sem, *]
  case y1v35 =>
    intro a w' hA hdep hX K hK
    have r110 : a.eval (.tmp 110) = .agg #[.int .i64 C1, .int .i64 C2] := hdep ⟨33, .data⟩ (by simp) rfl (110, .agg #[.int .i64 C1, .int .i64 C2]) rfl
    have r111 : a.eval (.tmp 111) = .agg #[.int .i64 C1, .int .i64 C2] := hdep ⟨34, .data⟩ (by simp) rfl (111, .agg #[.int .i64 C1, .int .i64 C2]) rfl
    have r107 : a.eval (.tmp 107) = .bool true := hdep ⟨30, .guard⟩ (by simp) rfl (107, .bool true) rfl
    have q110 := eval_get r110
    have q111 := eval_get r111
    have q107 := eval_get r107
    clear hdep ha0 hA
    refine StepG.value (w' := w') (v := .bool true) (wanted_some rfl rfl r107) rfl ?_ (hK _ hX)
    simp [go_sem, *]
  case y1v36 =>
    intro a w' hA hdep hX K hK
    have r107 : a.eval (.tmp 107) = .bool true := hdep ⟨30, .data⟩ (by simp) rfl (107, .bool true) rfl
    have r112 : a.eval (.tmp 112) = .bool true := hdep ⟨35, .data⟩ (by simp) rfl (112, .bool true) rfl
    have q107 := eval_get r107
    have q112 := eval_get r112
    clear hdep ha0 hA
    refine StepG.value (w' := w') (v := .bool true) (wanted_none rfl) rfl ?_ (hK _ hX)
    simp [go_sem, *]
  case y1v37 =>
    intro a w' hA hdep hX K hK
    have r113 : a.eval (.tmp 113) = .bool true := hdep ⟨36, .data⟩ (by simp) rfl (113, .bool true) rfl
    have q113 := eval_get r113
    clear hdep ha0 hA
    refine StepG.value (w' := w') (v := .bool true) (wanted_none rfl) rfl ?_ (hK _ hX)
    simp [go_sem, *]
  case y1v38 =>
    intro a w' hA hdep hX K hK
    have r114 : a.eval (.tmp 114) = .bool true := hdep ⟨37, .guard⟩ (by simp) rfl (114, .bool true) rfl
    have r13 : a.eval (.tmp 13) = .pointer (some ⟨w7.heap.size, 0, none⟩) := (hA.out 13 (by kernel_rfl)).trans (by rw [ha0]; rfl)
    have kc0 : w'.cell? ⟨w3.heap.size, 0, none⟩ = some (.int .i64 A1) := hX.cell (by simp) (by first | assumption | (go_simp; done) | (simp; done))
    have kc1 : w'.cell? ⟨w3.heap.size, 1, none⟩ = some (.int .i64 A2) := hX.cell (by simp) (by first | assumption | (go_simp; done) | (simp; done))
    have kc2 : w'.cell? ⟨w4.heap.size, 0, none⟩ = some (.int .i64 (B1')) := hX.cell (by simp) (by first | assumption | (go_simp; done) | (simp; done))
    have kc3 : w'.cell? ⟨w4.heap.size, 1, none⟩ = some (.int .i64 (B2')) := hX.cell (by simp) (by first | assumption | (go_simp; done) | (simp; done))
    have kc4 : w'.cell? ⟨w5.heap.size, 0, none⟩ = some (.int .i64 C1) := hX.cell (by simp) (by first | assumption | (go_simp; done) | (simp; done))
    have kc5 : w'.cell? ⟨w5.heap.size, 1, none⟩ = some (.int .i64 C2) := hX.cell (by simp) (by first | assumption | (go_simp; done) | (simp; done))
    have kc6 : w'.cell? ⟨w7.heap.size, 0, none⟩ = some (.int .i64 P1) := hX.cell (by simp) (by first | assumption | (go_simp; done) | (simp; done))
    have kc7 : w'.cell? ⟨w7.heap.size, 1, none⟩ = some (.int .i64 P2) := hX.cell (by simp) (by first | assumption | (go_simp; done) | (simp; done))
    have kc8 : w'.cell? ⟨w8.heap.size, 0, none⟩ = some (.int .i64 P1) := hX.cell (by simp) (by first | assumption | (go_simp; done) | (simp; done))
    have kc9 : w'.cell? ⟨w8.heap.size, 1, none⟩ = some (.int .i64 P2) := hX.cell (by simp) (by first | assumption | (go_simp; done) | (simp; done))
    have q114 := eval_get r114
    have q13 := eval_get r13
    clear hdep ha0 hA
    refine StepG.value (w' := w') (v := .agg #[.int .i64 P1, .int .i64 P2]) (wanted_some rfl rfl r114) rfl ?_ (hK _ hX)
    simp [go_sem, *]
  case y1v39 =>
    intro a w' hA hdep hX K hK
    have r114 : a.eval (.tmp 114) = .bool true := hdep ⟨37, .guard⟩ (by simp) rfl (114, .bool true) rfl
    have r15 : a.eval (.tmp 15) = .pointer (some ⟨w8.heap.size, 0, none⟩) := (hA.out 15 (by kernel_rfl)).trans (by rw [ha0]; rfl)
    have kc0 : w'.cell? ⟨w3.heap.size, 0, none⟩ = some (.int .i64 A1) := hX.cell (by simp) (by first | assumption | (go_simp; done) | (simp; done))
    have kc1 : w'.cell? ⟨w3.heap.size, 1, none⟩ = some (.int .i64 A2) := hX.cell (by simp) (by first | assumption | (go_simp; done) | (simp; done))
    have kc2 : w'.cell? ⟨w4.heap.size, 0, none⟩ = some (.int .i64 (B1')) := hX.cell (by simp) (by first | assumption | (go_simp; done) | (simp; done))
    have kc3 : w'.cell? ⟨w4.heap.size, 1, none⟩ = some (.int .i64 (B2')) := hX.cell (by simp) (by first | assumption | (go_simp; done) | (simp; done))
    have kc4 : w'.cell? ⟨w5.heap.size, 0, none⟩ = some (.int .i64 C1) := hX.cell (by simp) (by first | assumption | (go_simp; done) | (simp; done))
    have kc5 : w'.cell? ⟨w5.heap.size, 1, none⟩ = some (.int .i64 C2) := hX.cell (by simp) (by first | assumption | (go_simp; done) | (simp; done))
    have kc6 : w'.cell? ⟨w7.heap.size, 0, none⟩ = some (.int .i64 P1) := hX.cell (by simp) (by first | assumption | (go_simp; done) | (simp; done))
    have kc7 : w'.cell? ⟨w7.heap.size, 1, none⟩ = some (.int .i64 P2) := hX.cell (by simp) (by first | assumption | (go_simp; done) | (simp; done))
    have kc8 : w'.cell? ⟨w8.heap.size, 0, none⟩ = some (.int .i64 P1) := hX.cell (by simp) (by first | assumption | (go_simp; done) | (simp; done))
    have kc9 : w'.cell? ⟨w8.heap.size, 1, none⟩ = some (.int .i64 P2) := hX.cell (by simp) (by first | assumption | (go_simp; done) | (simp; done))
    have q114 := eval_get r114
    have q15 := eval_get r15
    clear hdep ha0 hA
    refine StepG.value (w' := w') (v := .agg #[.int .i64 P1, .int .i64 P2]) (wanted_some rfl rfl r114) rfl ?_ (hK _ hX)
    simp [go_sem, *]
  case y1v40 =>
    intro a w' hA hdep hX K hK
    have r115 : a.eval (.tmp 115) = .agg #[.int .i64 P1, .int .i64 P2] := hdep ⟨38, .data⟩ (by simp) rfl (115, .agg #[.int .i64 P1, .int .i64 P2]) rfl
    have r116 : a.eval (.tmp 116) = .agg #[.int .i64 P1, .int .i64 P2] := hdep ⟨39, .data⟩ (by simp) rfl (116, .agg #[.int .i64 P1, .int .i64 P2]) rfl
    have r114 : a.eval (.tmp 114) = .bool true := hdep ⟨37, .guard⟩ (by simp) rfl (114, .bool true) rfl
    have q115 := eval_get r115
    have q116 := eval_get r116
    have q114 := eval_get r114
    clear hdep ha0 hA
    refine StepG.value (w' := w') (v := .bool true) (wanted_some rfl rfl r114) rfl ?_ (hK _ hX)
    simp [go_sem, *]
  case y1v41 =>
    intro a w' hA hdep hX K hK
    have r114 : a.eval (.tmp 114) = .bool true := hdep ⟨37, .data⟩ (by simp) rfl (114, .bool true) rfl
    have r117 : a.eval (.tmp 117) = .bool true := hdep ⟨40, .data⟩ (by simp) rfl (117, .bool true) rfl
    have q114 := eval_get r114
    have q117 := eval_get r117
    clear hdep ha0 hA
    refine StepG.value (w' := w') (v := .bool true) (wanted_none rfl) rfl ?_ (hK _ hX)
    simp [go_sem, *]
  case y1v42 =>
    intro a w' hA hdep hX K hK
    have r118 : a.eval (.tmp 118) = .bool true := hdep ⟨41, .data⟩ (by simp) rfl (118, .bool true) rfl
    have q118 := eval_get r118
    clear hdep ha0 hA
    refine StepG.value (w' := w') (v := .bool true) (wanted_none rfl) rfl ?_ (hK _ hX)
    simp [go_sem, *]
  case y1v43 =>
    intro a w' hA hdep hX K hK
    have r119 : a.eval (.tmp 119) = .bool true := hdep ⟨42, .guard⟩ (by simp) rfl (119, .bool true) rfl
    have r17 : a.eval (.tmp 17) = .int .i64 (-1) := (hA.out 17 (by kernel_rfl)).trans (by rw [ha0]; rfl)
    have q119 := eval_get r119
    have q17 := eval_get r17
    clear hdep ha0 hA
    refine StepG.value (w' := w') (v := .int .i64 (-1)) (wanted_some rfl rfl r119) rfl ?_ (hK _ hX)
    simp [go_sem, *]
  case y1v44 =>
    intro a w' hA hdep hX K hK
    have r119 : a.eval (.tmp 119) = .bool true := hdep ⟨42, .guard⟩ (by simp) rfl (119, .bool true) rfl
    have r21 : a.eval (.tmp 21) = .int .i64 (-1) := (hA.out 21 (by kernel_rfl)).trans (by rw [ha0]; rfl)
    have q119 := eval_get r119
    have q21 := eval_get r21
    clear hdep ha0 hA
    refine StepG.value (w' := w') (v := .int .i64 (-1)) (wanted_some rfl rfl r119) rfl ?_ (hK _ hX)
    simp [go_sem, *]
  case y1v45 =>
    intro a w' hA hdep hX K hK
    have r120 : a.eval (.tmp 120) = .int .i64 (-1) := hdep ⟨43, .data⟩ (by simp) rfl (120, .int .i64 (-1)) rfl
    have r121 : a.eval (.tmp 121) = .int .i64 (-1) := hdep ⟨44, .data⟩ (by simp) rfl (121, .int .i64 (-1)) rfl
    have r119 : a.eval (.tmp 119) = .bool true := hdep ⟨42, .guard⟩ (by simp) rfl (119, .bool true) rfl
    have q120 := eval_get r120
    have q121 := eval_get r121
    have q119 := eval_get r119
    clear hdep ha0 hA
    refine StepG.value (w' := w') (v := .bool true) (wanted_some rfl rfl r119) rfl ?_ (hK _ hX)
    simp [go_sem, *]
  case y1v46 =>
    intro a w' hA hdep hX K hK
    have r119 : a.eval (.tmp 119) = .bool true := hdep ⟨42, .data⟩ (by simp) rfl (119, .bool true) rfl
    have r122 : a.eval (.tmp 122) = .bool true := hdep ⟨45, .data⟩ (by simp) rfl (122, .bool true) rfl
    have q119 := eval_get r119
    have q122 := eval_get r122
    clear hdep ha0 hA
    refine StepG.value (w' := w') (v := .bool true) (wanted_none rfl) rfl ?_ (hK _ hX)
    simp [go_sem, *]
  case y1v47 =>
    intro a w' hA hdep hX K hK
    have r123 : a.eval (.tmp 123) = .bool true := hdep ⟨46, .data⟩ (by simp) rfl (123, .bool true) rfl
    have q123 := eval_get r123
    clear hdep ha0 hA
    refine StepG.value (w' := w') (v := .bool true) (wanted_none rfl) rfl ?_ (hK _ hX)
    simp [go_sem, *]
  case y1v48 =>
    intro a w' hA hdep hX K hK
    have r124 : a.eval (.tmp 124) = .bool true := hdep ⟨47, .guard⟩ (by simp) rfl (124, .bool true) rfl
    have r19 : a.eval (.tmp 19) = .int .i64 (-1) := (hA.out 19 (by kernel_rfl)).trans (by rw [ha0]; rfl)
    have q124 := eval_get r124
    have q19 := eval_get r19
    clear hdep ha0 hA
    refine StepG.value (w' := w') (v := .int .i64 (-1)) (wanted_some rfl rfl r124) rfl ?_ (hK _ hX)
    simp [go_sem, *]
  case y1v49 =>
    intro a w' hA hdep hX K hK
    have r125 : a.eval (.tmp 125) = .int .i64 (-1) := hdep ⟨48, .data⟩ (by simp) rfl (125, .int .i64 (-1)) rfl
    have r124 : a.eval (.tmp 124) = .bool true := hdep ⟨47, .guard⟩ (by simp) rfl (124, .bool true) rfl
    have q125 := eval_get r125
    have q124 := eval_get r124
    clear hdep ha0 hA
    refine StepG.value (w' := w') (v := .bool true) (wanted_some rfl rfl r124) rfl ?_ (hK _ hX)
    simp [go_sem, *]
  case y1v50 =>
    intro a w' hA hdep hX K hK
    have r124 : a.eval (.tmp 124) = .bool true := hdep ⟨47, .data⟩ (by simp) rfl (124, .bool true) rfl
    have r126 : a.eval (.tmp 126) = .bool true := hdep ⟨49, .data⟩ (by simp) rfl (126, .bool true) rfl
    have q124 := eval_get r124
    have q126 := eval_get r126
    clear hdep ha0 hA
    refine StepG.value (w' := w') (v := .bool true) (wanted_none rfl) rfl ?_ (hK _ hX)
    simp [go_sem, *]
  case y1v51 =>
    intro a w' hA hdep hX K hK
    have r127 : a.eval (.tmp 127) = .bool true := hdep ⟨50, .data⟩ (by simp) rfl (127, .bool true) rfl
    have q127 := eval_get r127
    clear hdep ha0 hA
    refine StepG.value (w' := w') (v := .bool true) (wanted_none rfl) rfl ?_ (hK _ hX)
    simp [go_sem, *]
  case y1v52 =>
    intro a w' hA hdep hX K hK
    have r128 : a.eval (.tmp 128) = .bool true := hdep ⟨51, .chain⟩ (by simp) rfl (128, .bool true) rfl
    have q128 := eval_get r128
    clear hdep ha0 hA
    refine StepG.call (v := .bool true) (wanted_some rfl rfl r128) rfl ?_ ((awake_any _)) (fun w2 hb => hK _ (hX.call hb))
    simp [go_sem, *]
  case y1v53 =>
    intro a w' hA hdep hX K hK
    have r128 : a.eval (.tmp 128) = .bool true := hdep ⟨51, .data⟩ (by simp) rfl (128, .bool true) rfl
    have r129 : a.eval (.tmp 129) = .bool true := hdep ⟨52, .data⟩ (by simp) rfl (129, .bool true) rfl
    have q128 := eval_get r128
    have q129 := eval_get r129
    clear hdep ha0 hA
    refine StepG.value (w' := w') (v := .bool true) (wanted_none rfl) rfl ?_ (hK _ hX)
    simp [go_sem, *]
  case y1v54 =>
    intro a w' hA hdep hX K hK
    have r130 : a.eval (.tmp 130) = .bool true := hdep ⟨53, .data⟩ (by simp) rfl (130, .bool true) rfl
    have q130 := eval_get r130
    clear hdep ha0 hA
    refine StepG.value (w' := w') (v := .bool true) (wanted_none rfl) rfl ?_ (hK _ hX)
    simp [go_sem, *]
  intro w12 hXR
  rw [ha0]; simp only [putL, Act.put, List.setIfInBounds_toArray, List.set_cons_zero, List.set_cons_succ]
  clear ha0 hsz0
  have B12 : Below w.heap.size w w12 := hXR.below (by first | assumption | exact (by repeat (first | exact Below.refl _ _ | exact Nat.le_refl _ | refine Below.alloc ?_ ?_ _ | refine Below.setCell ?_ ?_ _ | refine Below.drew ?_ | refine bl_drewN ?_ _ | (assumption) | refine bl_call ?_ (by assumption) ?_ | omega | (simp <;> omega)))) (by first | omega | (simp <;> omega)) (by simp)
  clear hXR
  go_wp2_with fail
  go_ret
  exact ⟨rfl, (by repeat (first | exact Below.refl _ _ | exact Nat.le_refl _ | refine Below.alloc ?_ ?_ _ | refine Below.setCell ?_ ?_ _ | refine Below.drew ?_ | refine bl_drewN ?_ _ | (assumption) | refine bl_call ?_ (by assumption) ?_ | omega | (simp <;> omega)))⟩
end Go.Proofs.YtgocloilagcfoabDoor
