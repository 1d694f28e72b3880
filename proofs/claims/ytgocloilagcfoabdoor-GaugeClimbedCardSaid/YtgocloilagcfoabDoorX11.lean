/- GaugeClimbed: for every int the law returns true. -/
import Derived.Test.YtgocloilagcfoabDoorL1
import Derived.Test.YtgocloilagcfoabDoorL2
import Derived.Test.YtgocloilagcfoabDoorM9
import Derived.Test.YtgocloilagcfoabDoorG12
import Derived.Test.YtgocloilagcfoabDoorG16
import Derived.Test.YtgocloilagcfoabDoorF1
namespace Go.Proofs.YtgocloilagcfoabDoor
open Go.RowKit
attribute [local go_sem ↓] Go.wp_at_zero Go.wp_at_succ

theorem text_len1000 (x : GM.G) : (GM.textOf x).length ≤ 1000 := by
  have h1 := (GM.head_length x).2
  rw [GM.textOf_eq, List.length_append]
  unfold GM.tail
  split
  · simp; omega
  · have := GM.frac_length 40 (GM.rest 40 x); simp; omega
theorem neg_of_lin {a b : Int} (b1 : -1000000 ≤ b) (b2 : b ≤ 1000000) (h : 23416728348467685 * a + 37889062373143906 * b < 0) : GM.sgn a b < 0 := by
  rcases Int.lt_or_le (GM.sgn a b) 0 with h1 | h1
  · exact h1
  · have := GM.sgn_nonneg_lin h1 (by omega) (by omega)
    unfold GM.lin at this
    omega
theorem nonneg_of_lin {a b : Int} (b1 : -1000000 ≤ b) (b2 : b ≤ 1000000) (h : 0 ≤ 23416728348467685 * a + 37889062373143906 * b) : 0 ≤ GM.sgn a b := by
  rcases Int.lt_or_le (GM.sgn a b) 0 with h1 | h1
  · have := GM.sgn_neg_lin h1 (by omega) (by omega)
    unfold GM.lin at this
    omega
  · exact h1
theorem below_rung (k n : Int) (hk0 : 0 ≤ k) (hk1 : k ≤ 100000) (h : BelowIs (GM.gr 34 k).1 (GM.gr 34 k).2 n) (h0 : 0 ≤ n) (h1 : n ≤ 4000000) : n = k := by
  have rk := GM.gr_isRung k hk0 (by omega)
  have rn := GM.gr_isRung n h0 (by omega)
  have bk := rk.bounds hk0
  have bn := rn.bounds h0
  rcases Int.lt_trichotomy n k with hlt | heq | hgt
  · have h3 := rn.lt rk hlt
    have h2 := GM.sgn_nonneg_lin h.2 (by omega) (by omega)
    unfold GM.lin at h2 h3
    omega
  · exact heq
  · rcases h.1 with hz | hz
    · omega
    · have rm := GM.gr_isRung (n - 1) (by omega) (by omega)
      have bm := rm.bounds (by omega)
      have h2 := GM.sgn_neg_lin hz (by omega) (by omega)
      by_cases e : n - 1 = k
      · rw [e] at h2; unfold GM.lin at h2; omega
      · have h3 := rk.lt rm (by omega)
        unfold GM.lin at h2 h3
        omega
set_option maxRecDepth 100000 in
set_option maxHeartbeats 8000000 in
theorem GaugeClimbed_walk (q : Int) (w : World) (hq : -9223372036854775808 ≤ q ∧ q ≤ 9223372036854775807) :
    Calls Tryd.prog 8 #[.int .i64 q] w fun e w' => e = .returned (.bool true) ∧ Below w.heap.size w w' := by
  have hM := fun wx => mod_any q 99999 wx (by omega) (by omega) hq.1 hq.2
  have bM := modZ_bd q 99999 (by decide)
  obtain ⟨M, eM⟩ : ∃ M, modZ q 99999 = M := ⟨_, rfl⟩
  rw [eM] at hM bM
  clear eM hq
  have hR1 := fun wx => Rung_yes M wx (by omega) (by omega)
  have hR2 := fun wx => Rung_yes (M + 1) wx (by omega) (by omega)
  have hR3 := fun wx => Rung_yes (M + 2) wx (by omega) (by omega)
  have r1 := GM.gr_isRung M (by omega) (by omega)
  have r2 := GM.gr_isRung (M + 1) (by omega) (by omega)
  have r3 := GM.gr_isRung (M + 2) (by omega) (by omega)
  have g1 := r1.bounds (by omega)
  have g2 := r2.bounds (by omega)
  have g3 := r3.bounds (by omega)
  have s1 := r1.succ r2
  have s2 := r2.succ (show GM.IsRung (M + 1 + 1) _ _ by rw [show M + 1 + 1 = M + 2 by omega]; exact r3)
  have s3 := r1.succ2 r2 r3
  have hN : isN (GM.gr 34 M).1 (GM.gr 34 M).2 = true := (isN_iff _ _).2 ⟨by omega, by omega, by omega, by omega⟩
  have hsz : (GM.gr 34 M).1 + 2 * (GM.gr 34 M).2 = M := r1.1
  have h0 : 0 ≤ GM.sgn (GM.gr 34 M).1 (GM.gr 34 M).2 := nonneg_of_lin (by omega) (by omega) (by omega)
  have hBl := fun wx => Below_yes (GM.gr 34 M).1 (GM.gr 34 M).2 wx hN (Int.le_of_lt (neg_of_lin (by omega) (by omega) (by omega)))
  have hbr := fun n => below_rung M n (by omega) (by omega)
  have hT := fun wx => Text_yes (GM.gr 34 M).1 (GM.gr 34 M).2 wx hN h0
  have hPL := fun wx => refIsPlain (GM.textOf (GM.gr 34 M)) wx (text_len1000 _)
  have hnum : GM.Num (GM.gr 34 M) := ⟨by omega, by omega, by omega, by omega⟩
  rw [text_plain _ hnum h0] at hPL
  have hdig := rung_text M (by omega)
  have hlen := text_len1000 (GM.gr 34 M)
  clear hnum h0 hN r1 r2 r3 hsz
  obtain ⟨⟨a1, a2⟩, ea⟩ : ∃ x, GM.gr 34 M = x := ⟨_, rfl⟩
  obtain ⟨⟨b1, b2⟩, eb⟩ : ∃ x, GM.gr 34 (M + 1) = x := ⟨_, rfl⟩
  obtain ⟨⟨kk1, kk2⟩, ec⟩ : ∃ x, GM.gr 34 (M + 2) = x := ⟨_, rfl⟩
  rw [ea] at hR1 g1 s1 s3 hBl hbr hT hPL hdig hlen
  rw [eb] at hR2 g2 s1 s2 s3
  rw [ec] at hR3 g3 s2 s3
  dsimp only at hR1 g1 s1 hBl hbr hT hPL hR2 g2 s2 s3 hR3 g3
  clear ea eb ec
  have hA := fun wx => refMinus b1 b2 a1 a2 wx (by omega) (by omega) (by omega) (by omega)
  have hB := fun wx => refMinus kk1 kk2 b1 b2 wx (by omega) (by omega) (by omega) (by omega)
  have hc : (b1 - a1 = 1 ∧ b2 - a2 = 0 ∧ kk1 - b1 = 1 ∧ kk2 - b2 = 0) ∨ (b1 - a1 = 1 ∧ b2 - a2 = 0 ∧ kk1 - b1 = -1 ∧ kk2 - b2 = 1) ∨ (b1 - a1 = -1 ∧ b2 - a2 = 1 ∧ kk1 - b1 = 1 ∧ kk2 - b2 = 0) := by omega
  clear s1 s2 s3
  obtain ⟨d1, e1⟩ : ∃ d, b1 - a1 = d := ⟨_, rfl⟩
  obtain ⟨d2, e2⟩ : ∃ d, b2 - a2 = d := ⟨_, rfl⟩
  obtain ⟨f1, e3⟩ : ∃ d, kk1 - b1 = d := ⟨_, rfl⟩
  obtain ⟨f2, e4⟩ : ∃ d, kk2 - b2 = d := ⟨_, rfl⟩
  rw [e1, e2] at hA
  rw [e3, e4] at hB
  rw [e1, e2, e3, e4] at hc
  clear e1 e2 e3 e4
  obtain ⟨L, hL⟩ : ∃ L, GM.textOf (a1, a2) = L := ⟨_, rfl⟩
  rw [hL] at hT hPL hdig hlen
  clear hL
  have hts := str_size L
  have hb : ∀ (k : Nat) (c : UInt8), L[k]? = some c → ∀ h, (⟨L.toArray⟩ : ByteArray)[k]'h = c := by
    intro k c hc h
    have h' : k < L.length := by rw [hts] at h; exact h
    rw [List.getElem?_eq_getElem h'] at hc
    exact Option.some.inj hc
  generalize (⟨L.toArray⟩ : ByteArray) = t at *
  have HBY := Lib.hid hb
  obtain ⟨n, hn⟩ : ∃ n, L.length = n := ⟨_, rfl⟩
  rw [hn] at hts hlen
  have HNN := Lib.hid hn
  have HD := Lib.hid hdig
  have HM := Lib.hid hM
  have HR1 := Lib.hid hR1
  have HR2 := Lib.hid hR2
  have HR3 := Lib.hid hR3
  have HBL := Lib.hid hBl
  have HBR := Lib.hid hbr
  have HT := Lib.hid hT
  have HPL := Lib.hid hPL
  have HA := Lib.hid hA
  have HB := Lib.hid hB
  have HC := Lib.hid hc
  clear hM hR1 hR2 hR3 hBl hbr hT hPL hA hB hc hn hdig hb
  go_enter Tryd.func8, Tryd.ntmps8
  go_wp2_with fail
  refine (HM.out _).mono ?_
  rintro e w1 ⟨rfl, hb1⟩
  have B1 : Below w.heap.size w w1 := bl_call (by repeat (first | exact Below.refl _ _ | exact Nat.le_refl _ | refine Below.alloc ?_ ?_ _ | refine Below.setCell ?_ ?_ _ | refine Below.drew ?_ | refine bl_drewN ?_ _ | (assumption) | refine bl_call ?_ (by assumption) ?_ | omega | (simp <;> omega))) hb1 (by first | assumption | (simp; done) | (simp; omega) | omega)
  clear hb1
  have hsz_1 := B1.size
  go_wp2_with fail
  refine (HR1.out _).mono ?_
  rintro e w2 ⟨rfl, hb2⟩
  have B2 : Below w.heap.size w w2 := bl_call (by repeat (first | exact Below.refl _ _ | exact Nat.le_refl _ | refine Below.alloc ?_ ?_ _ | refine Below.setCell ?_ ?_ _ | refine Below.drew ?_ | refine bl_drewN ?_ _ | (assumption) | refine bl_call ?_ (by assumption) ?_ | omega | (simp <;> omega))) hb2 (by first | assumption | (simp; done) | (simp; omega) | omega)
  clear hb2
  have hsz_2 := B2.size
  go_wp2_with fail
  refine (HR2.out _).mono ?_
  rintro e w3 ⟨rfl, hb3⟩
  have cew2_heap_size3_0 : w3.cell? ⟨w2.heap.size, 0, none⟩ = some (.int .i64 a1) := keep_cell hb3 (by first | assumption | (go_simp; done) | (simp; done) | simp [*])
  have zew2_heap_size3 : w2.heap.size < w3.heap.size := block_lt_of_cell cew2_heap_size3_0
  have cew2_heap_size3_1 : w3.cell? ⟨w2.heap.size, 1, none⟩ = some (.int .i64 a2) := keep_cell hb3 (by first | assumption | (go_simp; done) | (simp; done) | simp [*])
  have B3 : Below w.heap.size w w3 := bl_call (by repeat (first | exact Below.refl _ _ | exact Nat.le_refl _ | refine Below.alloc ?_ ?_ _ | refine Below.setCell ?_ ?_ _ | refine Below.drew ?_ | refine bl_drewN ?_ _ | (assumption) | refine bl_call ?_ (by assumption) ?_ | omega | (simp <;> omega))) hb3 (by first | assumption | (simp; done) | (simp; omega) | omega)
  clear hb3
  have hsz_3 := B3.size
  go_wp2_with fail
  refine (HR3.out _).mono ?_
  rintro e w4 ⟨rfl, hb4⟩
  have cew2_heap_size4_0 : w4.cell? ⟨w2.heap.size, 0, none⟩ = some (.int .i64 a1) := keep_cell hb4 (by first | assumption | (go_simp; done) | (simp; done) | simp [*])
  have zew2_heap_size4 : w2.heap.size < w4.heap.size := block_lt_of_cell cew2_heap_size4_0
  have cew2_heap_size4_1 : w4.cell? ⟨w2.heap.size, 1, none⟩ = some (.int .i64 a2) := keep_cell hb4 (by first | assumption | (go_simp; done) | (simp; done) | simp [*])
  have cew3_heap_size4_0 : w4.cell? ⟨w3.heap.size, 0, none⟩ = some (.int .i64 b1) := keep_cell hb4 (by first | assumption | (go_simp; done) | (simp; done) | simp [*])
  have zew3_heap_size4 : w3.heap.size < w4.heap.size := block_lt_of_cell cew3_heap_size4_0
  have cew3_heap_size4_1 : w4.cell? ⟨w3.heap.size, 1, none⟩ = some (.int .i64 b2) := keep_cell hb4 (by first | assumption | (go_simp; done) | (simp; done) | simp [*])
  have B4 : Below w.heap.size w w4 := bl_call (by repeat (first | exact Below.refl _ _ | exact Nat.le_refl _ | refine Below.alloc ?_ ?_ _ | refine Below.setCell ?_ ?_ _ | refine Below.drew ?_ | refine bl_drewN ?_ _ | (assumption) | refine bl_call ?_ (by assumption) ?_ | omega | (simp <;> omega))) hb4 (by first | assumption | (simp; done) | (simp; omega) | omega)
  clear hb4
  have hsz_4 := B4.size
  go_wp2_with fail
  refine (HBL.out _).mono ?_
  rintro e w5 ⟨m, rfl, hF, n0, n1, hb5⟩
  have cew2_heap_size5_0 : w5.cell? ⟨w2.heap.size, 0, none⟩ = some (.int .i64 a1) := keep_cell hb5 (by first | assumption | (go_simp; done) | (simp; done) | simp [*])
  have zew2_heap_size5 : w2.heap.size < w5.heap.size := block_lt_of_cell cew2_heap_size5_0
  have cew2_heap_size5_1 : w5.cell? ⟨w2.heap.size, 1, none⟩ = some (.int .i64 a2) := keep_cell hb5 (by first | assumption | (go_simp; done) | (simp; done) | simp [*])
  have cew3_heap_size5_0 : w5.cell? ⟨w3.heap.size, 0, none⟩ = some (.int .i64 b1) := keep_cell hb5 (by first | assumption | (go_simp; done) | (simp; done) | simp [*])
  have zew3_heap_size5 : w3.heap.size < w5.heap.size := block_lt_of_cell cew3_heap_size5_0
  have cew3_heap_size5_1 : w5.cell? ⟨w3.heap.size, 1, none⟩ = some (.int .i64 b2) := keep_cell hb5 (by first | assumption | (go_simp; done) | (simp; done) | simp [*])
  have cew4_heap_size5_0 : w5.cell? ⟨w4.heap.size, 0, none⟩ = some (.int .i64 kk1) := keep_cell hb5 (by first | assumption | (go_simp; done) | (simp; done) | simp [*])
  have zew4_heap_size5 : w4.heap.size < w5.heap.size := block_lt_of_cell cew4_heap_size5_0
  have cew4_heap_size5_1 : w5.cell? ⟨w4.heap.size, 1, none⟩ = some (.int .i64 kk2) := keep_cell hb5 (by first | assumption | (go_simp; done) | (simp; done) | simp [*])
  have B5 : Below w.heap.size w w5 := bl_call (by repeat (first | exact Below.refl _ _ | exact Nat.le_refl _ | refine Below.alloc ?_ ?_ _ | refine Below.setCell ?_ ?_ _ | refine Below.drew ?_ | refine bl_drewN ?_ _ | (assumption) | refine bl_call ?_ (by assumption) ?_ | omega | (simp <;> omega))) hb5 (by first | assumption | (simp; done) | (simp; omega) | omega)
  clear hb5
  have hsz_5 := B5.size
  obtain rfl : m = M := HBR.out m hF n0 n1
  clear hF HBR
  go_wp2_with fail
  refine (HT.out _).mono ?_
  rintro e w6 ⟨rfl, hb6⟩
  have cew2_heap_size6_0 : w6.cell? ⟨w2.heap.size, 0, none⟩ = some (.int .i64 a1) := keep_cell hb6 (by first | assumption | (go_simp; done) | (simp; done) | simp [*])
  have zew2_heap_size6 : w2.heap.size < w6.heap.size := block_lt_of_cell cew2_heap_size6_0
  have cew2_heap_size6_1 : w6.cell? ⟨w2.heap.size, 1, none⟩ = some (.int .i64 a2) := keep_cell hb6 (by first | assumption | (go_simp; done) | (simp; done) | simp [*])
  have cew3_heap_size6_0 : w6.cell? ⟨w3.heap.size, 0, none⟩ = some (.int .i64 b1) := keep_cell hb6 (by first | assumption | (go_simp; done) | (simp; done) | simp [*])
  have zew3_heap_size6 : w3.heap.size < w6.heap.size := block_lt_of_cell cew3_heap_size6_0
  have cew3_heap_size6_1 : w6.cell? ⟨w3.heap.size, 1, none⟩ = some (.int .i64 b2) := keep_cell hb6 (by first | assumption | (go_simp; done) | (simp; done) | simp [*])
  have cew4_heap_size6_0 : w6.cell? ⟨w4.heap.size, 0, none⟩ = some (.int .i64 kk1) := keep_cell hb6 (by first | assumption | (go_simp; done) | (simp; done) | simp [*])
  have zew4_heap_size6 : w4.heap.size < w6.heap.size := block_lt_of_cell cew4_heap_size6_0
  have cew4_heap_size6_1 : w6.cell? ⟨w4.heap.size, 1, none⟩ = some (.int .i64 kk2) := keep_cell hb6 (by first | assumption | (go_simp; done) | (simp; done) | simp [*])
  have B6 : Below w.heap.size w w6 := bl_call (by repeat (first | exact Below.refl _ _ | exact Nat.le_refl _ | refine Below.alloc ?_ ?_ _ | refine Below.setCell ?_ ?_ _ | refine Below.drew ?_ | refine bl_drewN ?_ _ | (assumption) | refine bl_call ?_ (by assumption) ?_ | omega | (simp <;> omega))) hb6 (by first | assumption | (simp; done) | (simp; omega) | omega)
  clear hb6
  have hsz_6 := B6.size
  go_wp2_with fail
  refine (HPL.out _).mono ?_
  rintro e w7 ⟨rfl, hb7⟩
  have cew2_heap_size7_0 : w7.cell? ⟨w2.heap.size, 0, none⟩ = some (.int .i64 a1) := keep_cell hb7 (by first | assumption | (go_simp; done) | (simp; done) | simp [*])
  have zew2_heap_size7 : w2.heap.size < w7.heap.size := block_lt_of_cell cew2_heap_size7_0
  have cew2_heap_size7_1 : w7.cell? ⟨w2.heap.size, 1, none⟩ = some (.int .i64 a2) := keep_cell hb7 (by first | assumption | (go_simp; done) | (simp; done) | simp [*])
  have cew3_heap_size7_0 : w7.cell? ⟨w3.heap.size, 0, none⟩ = some (.int .i64 b1) := keep_cell hb7 (by first | assumption | (go_simp; done) | (simp; done) | simp [*])
  have zew3_heap_size7 : w3.heap.size < w7.heap.size := block_lt_of_cell cew3_heap_size7_0
  have cew3_heap_size7_1 : w7.cell? ⟨w3.heap.size, 1, none⟩ = some (.int .i64 b2) := keep_cell hb7 (by first | assumption | (go_simp; done) | (simp; done) | simp [*])
  have cew4_heap_size7_0 : w7.cell? ⟨w4.heap.size, 0, none⟩ = some (.int .i64 kk1) := keep_cell hb7 (by first | assumption | (go_simp; done) | (simp; done) | simp [*])
  have zew4_heap_size7 : w4.heap.size < w7.heap.size := block_lt_of_cell cew4_heap_size7_0
  have cew4_heap_size7_1 : w7.cell? ⟨w4.heap.size, 1, none⟩ = some (.int .i64 kk2) := keep_cell hb7 (by first | assumption | (go_simp; done) | (simp; done) | simp [*])
  have B7 : Below w.heap.size w w7 := bl_call (by repeat (first | exact Below.refl _ _ | exact Nat.le_refl _ | refine Below.alloc ?_ ?_ _ | refine Below.setCell ?_ ?_ _ | refine Below.drew ?_ | refine bl_drewN ?_ _ | (assumption) | refine bl_call ?_ (by assumption) ?_ | omega | (simp <;> omega))) hb7 (by first | assumption | (simp; done) | (simp; omega) | omega)
  clear hb7
  have hsz_7 := B7.size
  clear HM HR1 HR2 HR3 HBL HT HPL
  go_upto_region 10 with fail
  go_loopw [13] (fun y wr => ∃ k : Nat, y = .int .i64 k ∧ k ≤ n ∧ w7 = wr) (fun y _ => n - (intOf y).toNat)
  case atStart => exact ⟨0, rfl, by omega, rfl⟩
  case round =>
    obtain ⟨k, rfl, hk, rfl⟩ := hrel
    by_cases hkn : k < n
    · obtain ⟨c, hc⟩ : ∃ c, L[k]? = some c := ⟨L[k]'(by have := HNN.out; omega), by simp [show k < L.length by have := HNN.out; omega]⟩
      have hit : k < t.size := by omega
      have htc : t[k]'hit = c := HBY.out k c hc hit
      have hc1 : c.toNat < 256 := c.toNat_lt
      have h46 : ¬ c.toNat = 46 := by
        have := HD.out c (List.mem_of_getElem? hc)
        rcases this with rfl | rfl <;> decide
      clear hc
      go_wp2_with fail
      go_roundw
      case rel => exact ⟨k + 1, by simp, by omega, by first | rfl | trivial⟩
      case measure => simp [intOf]; omega
    · obtain rfl : k = n := by omega
      clear HBY HD
      go_upto_region 15 with fail
      refine with_act fun a0 ha0 => ?_
      refine wp_region_inv (by kernel_rfl) (by kernel_rfl) (fun s a' w' => ∃ v85 v86 v87 v88 v89 v90 v15 v16 : Value, a' = putL a0 [(85, v85), (86, v86), (87, v87), (88, v88), (89, v89), (90, v90), (15, v15), (16, v16)] ∧ Hid ((s 0 = true → v85 = .agg #[.int .i64 b1, .int .i64 b2]) ∧ (s 1 = true → v86 = .agg #[.int .i64 a1, .int .i64 a2]) ∧ (s 2 = true → v87 = .agg #[.int .i64 d1, .int .i64 d2]) ∧ (s 3 = true → v88 = .agg #[.int .i64 kk1, .int .i64 kk2]) ∧ (s 4 = true → v89 = .agg #[.int .i64 b1, .int .i64 b2]) ∧ (s 5 = true → v90 = .agg #[.int .i64 f1, .int .i64 f2]) ∧ True) ∧ BelX [] (w7.alloc (.cells #[.int .i64 (-1), .int .i64 1] 23)) w' ∧ (s 6 = true → ∃ (g : Nat) (c0 c1 : Value), v15 = .pointer (some ⟨g, 0, none⟩) ∧ (w7.alloc (.cells #[.int .i64 (-1), .int .i64 1] 23)).heap.size ≤ g ∧ w'.heap[g]? = some (.cells #[c0, c1] 23 (0, 0)) ∧ (s 8 = true → c0 = .int .i64 d1 ∧ c1 = .int .i64 d2)) ∧ (s 8 = true → s 6 = true) ∧ (s 7 = true → ∃ (g : Nat) (c0 c1 : Value), v16 = .pointer (some ⟨g, 0, none⟩) ∧ (w7.alloc (.cells #[.int .i64 (-1), .int .i64 1] 23)).heap.size ≤ g ∧ w'.heap[g]? = some (.cells #[c0, c1] 23 (0, 0)) ∧ (s 9 = true → c0 = .int .i64 f1 ∧ c1 = .int .i64 f2)) ∧ (s 9 = true → s 7 = true) ∧ (s 6 = true → s 7 = true → v15 ≠ v16) ∧ True) ?x1hzero ⟨?x1hs0, ?x1hs1, ?x1hs2, ?x1hs3, ?x1hs4, ?x1hs5, ?x1hs6, ?x1hs7, ?x1hs8, ?x1hs9, trivial⟩ ?x1hdone
      case x1hzero =>
        refine ⟨a0.tmps.getD 85 undef, a0.tmps.getD 86 undef, a0.tmps.getD 87 undef, a0.tmps.getD 88 undef, a0.tmps.getD 89 undef, a0.tmps.getD 90 undef, a0.tmps.getD 15 undef, a0.tmps.getD 16 undef, ?_, ?_, ?_, ?_, ?_, ?_, ?_, ?_, trivial⟩
        · simp only [putL, put_self]
        · exact Lib.hid ⟨fun h => (by simp at h), fun h => (by simp at h), fun h => (by simp at h), fun h => (by simp at h), fun h => (by simp at h), fun h => (by simp at h), trivial⟩
        · exact BelX.start _ _
        · exact fun h => (by simp at h)
        · exact fun h => (by simp at h)
        · exact fun h => (by simp at h)
        · exact fun h => (by simp at h)
        · exact fun h => (by simp at h)
      case x1hs0 =>
        intro s a' w' hsk hdep hI K hK
        try dsimp only at hI hK
        obtain ⟨v85, v86, v87, v88, v89, v90, v15, v16, hact, hR, hX, hA15, hN15, hA16, hN16, hD15_16, _⟩ := hI
        subst hact
        have HK := Lib.hid hK
        clear hK
        have kc0 : w'.cell? ⟨w2.heap.size, 0, none⟩ = some (.int .i64 a1) := hX.cell (by first | (simp; done) | (simp; omega)) (by first | assumption | (go_simp; done) | (simp; done))
        have kc1 : w'.cell? ⟨w2.heap.size, 1, none⟩ = some (.int .i64 a2) := hX.cell (by first | (simp; done) | (simp; omega)) (by first | assumption | (go_simp; done) | (simp; done))
        have kc2 : w'.cell? ⟨w3.heap.size, 0, none⟩ = some (.int .i64 b1) := hX.cell (by first | (simp; done) | (simp; omega)) (by first | assumption | (go_simp; done) | (simp; done))
        have kc3 : w'.cell? ⟨w3.heap.size, 1, none⟩ = some (.int .i64 b2) := hX.cell (by first | (simp; done) | (simp; omega)) (by first | assumption | (go_simp; done) | (simp; done))
        have kc4 : w'.cell? ⟨w4.heap.size, 0, none⟩ = some (.int .i64 kk1) := hX.cell (by first | (simp; done) | (simp; omega)) (by first | assumption | (go_simp; done) | (simp; done))
        have kc5 : w'.cell? ⟨w4.heap.size, 1, none⟩ = some (.int .i64 kk2) := hX.cell (by first | (simp; done) | (simp; omega)) (by first | assumption | (go_simp; done) | (simp; done))
        have kc6 : w'.cell? ⟨w7.heap.size, 0, none⟩ = some (.int .i64 (-1)) := hX.cell (by first | (simp; done) | (simp; omega)) (by first | assumption | (go_simp; done) | (simp; done))
        have kc7 : w'.cell? ⟨w7.heap.size, 1, none⟩ = some (.int .i64 1) := hX.cell (by first | (simp; done) | (simp; omega)) (by first | assumption | (go_simp; done) | (simp; done))
        clear hdep
        refine StepG.mk rfl ?_; rw [ha0]; simp only [putL, Act.put, List.setIfInBounds_toArray, List.set_cons_zero, List.set_cons_succ]
        go_wp2_with fail
        refine HK.out _ _ ?_
        refine ⟨(.agg #[.int .i64 b1, .int .i64 b2]), v86, v87, v88, v89, v90, v15, v16, (by rw [ha0]; simp only [putL, Act.put, List.setIfInBounds_toArray, List.set_cons_zero, List.set_cons_succ]), ?_, ?_, ?_, ?_, ?_, ?_, ?_, trivial⟩
        · obtain ⟨h85, h86, h87, h88, h89, h90, _⟩ := hR.out
          exact Lib.hid ⟨fun _ => rfl, fun h => h86 (by simpa using h), fun h => h87 (by simpa using h), fun h => h88 (by simpa using h), fun h => h89 (by simpa using h), fun h => h90 (by simpa using h), trivial⟩
        · exact hX
        · intro h; obtain ⟨g, c0, c1, e, hg, hblk, hst⟩ := hA15 (by simpa using h); exact ⟨g, c0, c1, e, hg, hblk, fun h => hst (by simpa using h)⟩
        · exact fun h => (by have h1 := hN15 (by simpa using h); simp [h1])
        · intro h; obtain ⟨g, c0, c1, e, hg, hblk, hst⟩ := hA16 (by simpa using h); exact ⟨g, c0, c1, e, hg, hblk, fun h => hst (by simpa using h)⟩
        · exact fun h => (by have h1 := hN16 (by simpa using h); simp [h1])
        · exact fun h1 h2 => hD15_16 (by simpa using h1) (by simpa using h2)
      case x1hs1 =>
        intro s a' w' hsk hdep hI K hK
        try dsimp only at hI hK
        obtain ⟨v85, v86, v87, v88, v89, v90, v15, v16, hact, hR, hX, hA15, hN15, hA16, hN16, hD15_16, _⟩ := hI
        subst hact
        have HK := Lib.hid hK
        clear hK
        have kc0 : w'.cell? ⟨w2.heap.size, 0, none⟩ = some (.int .i64 a1) := hX.cell (by first | (simp; done) | (simp; omega)) (by first | assumption | (go_simp; done) | (simp; done))
        have kc1 : w'.cell? ⟨w2.heap.size, 1, none⟩ = some (.int .i64 a2) := hX.cell (by first | (simp; done) | (simp; omega)) (by first | assumption | (go_simp; done) | (simp; done))
        have kc2 : w'.cell? ⟨w3.heap.size, 0, none⟩ = some (.int .i64 b1) := hX.cell (by first | (simp; done) | (simp; omega)) (by first | assumption | (go_simp; done) | (simp; done))
        have kc3 : w'.cell? ⟨w3.heap.size, 1, none⟩ = some (.int .i64 b2) := hX.cell (by first | (simp; done) | (simp; omega)) (by first | assumption | (go_simp; done) | (simp; done))
        have kc4 : w'.cell? ⟨w4.heap.size, 0, none⟩ = some (.int .i64 kk1) := hX.cell (by first | (simp; done) | (simp; omega)) (by first | assumption | (go_simp; done) | (simp; done))
        have kc5 : w'.cell? ⟨w4.heap.size, 1, none⟩ = some (.int .i64 kk2) := hX.cell (by first | (simp; done) | (simp; omega)) (by first | assumption | (go_simp; done) | (simp; done))
        have kc6 : w'.cell? ⟨w7.heap.size, 0, none⟩ = some (.int .i64 (-1)) := hX.cell (by first | (simp; done) | (simp; omega)) (by first | assumption | (go_simp; done) | (simp; done))
        have kc7 : w'.cell? ⟨w7.heap.size, 1, none⟩ = some (.int .i64 1) := hX.cell (by first | (simp; done) | (simp; omega)) (by first | assumption | (go_simp; done) | (simp; done))
        clear hdep
        refine StepG.mk rfl ?_; rw [ha0]; simp only [putL, Act.put, List.setIfInBounds_toArray, List.set_cons_zero, List.set_cons_succ]
        go_wp2_with fail
        refine HK.out _ _ ?_
        refine ⟨v85, (.agg #[.int .i64 a1, .int .i64 a2]), v87, v88, v89, v90, v15, v16, (by rw [ha0]; simp only [putL, Act.put, List.setIfInBounds_toArray, List.set_cons_zero, List.set_cons_succ]), ?_, ?_, ?_, ?_, ?_, ?_, ?_, trivial⟩
        · obtain ⟨h85, h86, h87, h88, h89, h90, _⟩ := hR.out
          exact Lib.hid ⟨fun h => h85 (by simpa using h), fun _ => rfl, fun h => h87 (by simpa using h), fun h => h88 (by simpa using h), fun h => h89 (by simpa using h), fun h => h90 (by simpa using h), trivial⟩
        · exact hX
        · intro h; obtain ⟨g, c0, c1, e, hg, hblk, hst⟩ := hA15 (by simpa using h); exact ⟨g, c0, c1, e, hg, hblk, fun h => hst (by simpa using h)⟩
        · exact fun h => (by have h1 := hN15 (by simpa using h); simp [h1])
        · intro h; obtain ⟨g, c0, c1, e, hg, hblk, hst⟩ := hA16 (by simpa using h); exact ⟨g, c0, c1, e, hg, hblk, fun h => hst (by simpa using h)⟩
        · exact fun h => (by have h1 := hN16 (by simpa using h); simp [h1])
        · exact fun h1 h2 => hD15_16 (by simpa using h1) (by simpa using h2)
      case x1hs2 =>
        intro s a' w' hsk hdep hI K hK
        try dsimp only at hI hK
        obtain ⟨v85, v86, v87, v88, v89, v90, v15, v16, hact, hR, hX, hA15, hN15, hA16, hN16, hD15_16, _⟩ := hI
        subst hact
        have HK := Lib.hid hK
        clear hK
        have e85 : v85 = .agg #[.int .i64 b1, .int .i64 b2] := by obtain ⟨h85, h86, h87, h88, h89, h90, _⟩ := hR.out; exact h85 (hdep ⟨0, .data⟩ (by simp) rfl)
        subst e85
        have e86 : v86 = .agg #[.int .i64 a1, .int .i64 a2] := by obtain ⟨h85, h86, h87, h88, h89, h90, _⟩ := hR.out; exact h86 (hdep ⟨1, .data⟩ (by simp) rfl)
        subst e86
        have kc0 : w'.cell? ⟨w2.heap.size, 0, none⟩ = some (.int .i64 a1) := hX.cell (by first | (simp; done) | (simp; omega)) (by first | assumption | (go_simp; done) | (simp; done))
        have kc1 : w'.cell? ⟨w2.heap.size, 1, none⟩ = some (.int .i64 a2) := hX.cell (by first | (simp; done) | (simp; omega)) (by first | assumption | (go_simp; done) | (simp; done))
        have kc2 : w'.cell? ⟨w3.heap.size, 0, none⟩ = some (.int .i64 b1) := hX.cell (by first | (simp; done) | (simp; omega)) (by first | assumption | (go_simp; done) | (simp; done))
        have kc3 : w'.cell? ⟨w3.heap.size, 1, none⟩ = some (.int .i64 b2) := hX.cell (by first | (simp; done) | (simp; omega)) (by first | assumption | (go_simp; done) | (simp; done))
        have kc4 : w'.cell? ⟨w4.heap.size, 0, none⟩ = some (.int .i64 kk1) := hX.cell (by first | (simp; done) | (simp; omega)) (by first | assumption | (go_simp; done) | (simp; done))
        have kc5 : w'.cell? ⟨w4.heap.size, 1, none⟩ = some (.int .i64 kk2) := hX.cell (by first | (simp; done) | (simp; omega)) (by first | assumption | (go_simp; done) | (simp; done))
        have kc6 : w'.cell? ⟨w7.heap.size, 0, none⟩ = some (.int .i64 (-1)) := hX.cell (by first | (simp; done) | (simp; omega)) (by first | assumption | (go_simp; done) | (simp; done))
        have kc7 : w'.cell? ⟨w7.heap.size, 1, none⟩ = some (.int .i64 1) := hX.cell (by first | (simp; done) | (simp; omega)) (by first | assumption | (go_simp; done) | (simp; done))
        clear hdep
        refine StepG.mk rfl ?_; rw [ha0]; simp only [putL, Act.put, List.setIfInBounds_toArray, List.set_cons_zero, List.set_cons_succ]
        go_wp2_with fail
        refine ((HA.out _)).mono ?_
        rintro e wn ⟨rfl, hb⟩
        go_wp2_with fail
        refine HK.out _ _ ?_
        refine ⟨(.agg #[.int .i64 b1, .int .i64 b2]), (.agg #[.int .i64 a1, .int .i64 a2]), (.agg #[.int .i64 d1, .int .i64 d2]), v88, v89, v90, v15, v16, (by rw [ha0]; simp only [putL, Act.put, List.setIfInBounds_toArray, List.set_cons_zero, List.set_cons_succ]), ?_, ?_, ?_, ?_, ?_, ?_, ?_, trivial⟩
        · obtain ⟨h85, h86, h87, h88, h89, h90, _⟩ := hR.out
          exact Lib.hid ⟨fun _ => rfl, fun _ => rfl, fun _ => rfl, fun h => h88 (by simpa using h), fun h => h89 (by simpa using h), fun h => h90 (by simpa using h), trivial⟩
        · exact hX.call hb
        · intro h; obtain ⟨g, c0, c1, e, hg, hblk, hst⟩ := hA15 (by simpa using h); exact ⟨g, c0, c1, e, hg, (hb.block g (blk_lt hblk)).trans hblk, fun h => hst (by simpa using h)⟩
        · exact fun h => (by have h1 := hN15 (by simpa using h); simp [h1])
        · intro h; obtain ⟨g, c0, c1, e, hg, hblk, hst⟩ := hA16 (by simpa using h); exact ⟨g, c0, c1, e, hg, (hb.block g (blk_lt hblk)).trans hblk, fun h => hst (by simpa using h)⟩
        · exact fun h => (by have h1 := hN16 (by simpa using h); simp [h1])
        · exact fun h1 h2 => hD15_16 (by simpa using h1) (by simpa using h2)
      case x1hs3 =>
        intro s a' w' hsk hdep hI K hK
        try dsimp only at hI hK
        obtain ⟨v85, v86, v87, v88, v89, v90, v15, v16, hact, hR, hX, hA15, hN15, hA16, hN16, hD15_16, _⟩ := hI
        subst hact
        have HK := Lib.hid hK
        clear hK
        have kc0 : w'.cell? ⟨w2.heap.size, 0, none⟩ = some (.int .i64 a1) := hX.cell (by first | (simp; done) | (simp; omega)) (by first | assumption | (go_simp; done) | (simp; done))
        have kc1 : w'.cell? ⟨w2.heap.size, 1, none⟩ = some (.int .i64 a2) := hX.cell (by first | (simp; done) | (simp; omega)) (by first | assumption | (go_simp; done) | (simp; done))
        have kc2 : w'.cell? ⟨w3.heap.size, 0, none⟩ = some (.int .i64 b1) := hX.cell (by first | (simp; done) | (simp; omega)) (by first | assumption | (go_simp; done) | (simp; done))
        have kc3 : w'.cell? ⟨w3.heap.size, 1, none⟩ = some (.int .i64 b2) := hX.cell (by first | (simp; done) | (simp; omega)) (by first | assumption | (go_simp; done) | (simp; done))
        have kc4 : w'.cell? ⟨w4.heap.size, 0, none⟩ = some (.int .i64 kk1) := hX.cell (by first | (simp; done) | (simp; omega)) (by first | assumption | (go_simp; done) | (simp; done))
        have kc5 : w'.cell? ⟨w4.heap.size, 1, none⟩ = some (.int .i64 kk2) := hX.cell (by first | (simp; done) | (simp; omega)) (by first | assumption | (go_simp; done) | (simp; done))
        have kc6 : w'.cell? ⟨w7.heap.size, 0, none⟩ = some (.int .i64 (-1)) := hX.cell (by first | (simp; done) | (simp; omega)) (by first | assumption | (go_simp; done) | (simp; done))
        have kc7 : w'.cell? ⟨w7.heap.size, 1, none⟩ = some (.int .i64 1) := hX.cell (by first | (simp; done) | (simp; omega)) (by first | assumption | (go_simp; done) | (simp; done))
        clear hdep
        refine StepG.mk rfl ?_; rw [ha0]; simp only [putL, Act.put, List.setIfInBounds_toArray, List.set_cons_zero, List.set_cons_succ]
        go_wp2_with fail
        refine HK.out _ _ ?_
        refine ⟨v85, v86, v87, (.agg #[.int .i64 kk1, .int .i64 kk2]), v89, v90, v15, v16, (by rw [ha0]; simp only [putL, Act.put, List.setIfInBounds_toArray, List.set_cons_zero, List.set_cons_succ]), ?_, ?_, ?_, ?_, ?_, ?_, ?_, trivial⟩
        · obtain ⟨h85, h86, h87, h88, h89, h90, _⟩ := hR.out
          exact Lib.hid ⟨fun h => h85 (by simpa using h), fun h => h86 (by simpa using h), fun h => h87 (by simpa using h), fun _ => rfl, fun h => h89 (by simpa using h), fun h => h90 (by simpa using h), trivial⟩
        · exact hX
        · intro h; obtain ⟨g, c0, c1, e, hg, hblk, hst⟩ := hA15 (by simpa using h); exact ⟨g, c0, c1, e, hg, hblk, fun h => hst (by simpa using h)⟩
        · exact fun h => (by have h1 := hN15 (by simpa using h); simp [h1])
        · intro h; obtain ⟨g, c0, c1, e, hg, hblk, hst⟩ := hA16 (by simpa using h); exact ⟨g, c0, c1, e, hg, hblk, fun h => hst (by simpa using h)⟩
        · exact fun h => (by have h1 := hN16 (by simpa using h); simp [h1])
        · exact fun h1 h2 => hD15_16 (by simpa using h1) (by simpa using h2)
      case x1hs4 =>
        intro s a' w' hsk hdep hI K hK
        try dsimp only at hI hK
        obtain ⟨v85, v86, v87, v88, v89, v90, v15, v16, hact, hR, hX, hA15, hN15, hA16, hN16, hD15_16, _⟩ := hI
        subst hact
        have HK := Lib.hid hK
        clear hK
        have kc0 : w'.cell? ⟨w2.heap.size, 0, none⟩ = some (.int .i64 a1) := hX.cell (by first | (simp; done) | (simp; omega)) (by first | assumption | (go_simp; done) | (simp; done))
        have kc1 : w'.cell? ⟨w2.heap.size, 1, none⟩ = some (.int .i64 a2) := hX.cell (by first | (simp; done) | (simp; omega)) (by first | assumption | (go_simp; done) | (simp; done))
        have kc2 : w'.cell? ⟨w3.heap.size, 0, none⟩ = some (.int .i64 b1) := hX.cell (by first | (simp; done) | (simp; omega)) (by first | assumption | (go_simp; done) | (simp; done))
        have kc3 : w'.cell? ⟨w3.heap.size, 1, none⟩ = some (.int .i64 b2) := hX.cell (by first | (simp; done) | (simp; omega)) (by first | assumption | (go_simp; done) | (simp; done))
        have kc4 : w'.cell? ⟨w4.heap.size, 0, none⟩ = some (.int .i64 kk1) := hX.cell (by first | (simp; done) | (simp; omega)) (by first | assumption | (go_simp; done) | (simp; done))
        have kc5 : w'.cell? ⟨w4.heap.size, 1, none⟩ = some (.int .i64 kk2) := hX.cell (by first | (simp; done) | (simp; omega)) (by first | assumption | (go_simp; done) | (simp; done))
        have kc6 : w'.cell? ⟨w7.heap.size, 0, none⟩ = some (.int .i64 (-1)) := hX.cell (by first | (simp; done) | (simp; omega)) (by first | assumption | (go_simp; done) | (simp; done))
        have kc7 : w'.cell? ⟨w7.heap.size, 1, none⟩ = some (.int .i64 1) := hX.cell (by first | (simp; done) | (simp; omega)) (by first | assumption | (go_simp; done) | (simp; done))
        clear hdep
        refine StepG.mk rfl ?_; rw [ha0]; simp only [putL, Act.put, List.setIfInBounds_toArray, List.set_cons_zero, List.set_cons_succ]
        go_wp2_with fail
        refine HK.out _ _ ?_
        refine ⟨v85, v86, v87, v88, (.agg #[.int .i64 b1, .int .i64 b2]), v90, v15, v16, (by rw [ha0]; simp only [putL, Act.put, List.setIfInBounds_toArray, List.set_cons_zero, List.set_cons_succ]), ?_, ?_, ?_, ?_, ?_, ?_, ?_, trivial⟩
        · obtain ⟨h85, h86, h87, h88, h89, h90, _⟩ := hR.out
          exact Lib.hid ⟨fun h => h85 (by simpa using h), fun h => h86 (by simpa using h), fun h => h87 (by simpa using h), fun h => h88 (by simpa using h), fun _ => rfl, fun h => h90 (by simpa using h), trivial⟩
        · exact hX
        · intro h; obtain ⟨g, c0, c1, e, hg, hblk, hst⟩ := hA15 (by simpa using h); exact ⟨g, c0, c1, e, hg, hblk, fun h => hst (by simpa using h)⟩
        · exact fun h => (by have h1 := hN15 (by simpa using h); simp [h1])
        · intro h; obtain ⟨g, c0, c1, e, hg, hblk, hst⟩ := hA16 (by simpa using h); exact ⟨g, c0, c1, e, hg, hblk, fun h => hst (by simpa using h)⟩
        · exact fun h => (by have h1 := hN16 (by simpa using h); simp [h1])
        · exact fun h1 h2 => hD15_16 (by simpa using h1) (by simpa using h2)
      case x1hs5 =>
        intro s a' w' hsk hdep hI K hK
        try dsimp only at hI hK
        obtain ⟨v85, v86, v87, v88, v89, v90, v15, v16, hact, hR, hX, hA15, hN15, hA16, hN16, hD15_16, _⟩ := hI
        subst hact
        have HK := Lib.hid hK
        clear hK
        have e88 : v88 = .agg #[.int .i64 kk1, .int .i64 kk2] := by obtain ⟨h85, h86, h87, h88, h89, h90, _⟩ := hR.out; exact h88 (hdep ⟨3, .data⟩ (by simp) rfl)
        subst e88
        have e89 : v89 = .agg #[.int .i64 b1, .int .i64 b2] := by obtain ⟨h85, h86, h87, h88, h89, h90, _⟩ := hR.out; exact h89 (hdep ⟨4, .data⟩ (by simp) rfl)
        subst e89
        have kc0 : w'.cell? ⟨w2.heap.size, 0, none⟩ = some (.int .i64 a1) := hX.cell (by first | (simp; done) | (simp; omega)) (by first | assumption | (go_simp; done) | (simp; done))
        have kc1 : w'.cell? ⟨w2.heap.size, 1, none⟩ = some (.int .i64 a2) := hX.cell (by first | (simp; done) | (simp; omega)) (by first | assumption | (go_simp; done) | (simp; done))
        have kc2 : w'.cell? ⟨w3.heap.size, 0, none⟩ = some (.int .i64 b1) := hX.cell (by first | (simp; done) | (simp; omega)) (by first | assumption | (go_simp; done) | (simp; done))
        have kc3 : w'.cell? ⟨w3.heap.size, 1, none⟩ = some (.int .i64 b2) := hX.cell (by first | (simp; done) | (simp; omega)) (by first | assumption | (go_simp; done) | (simp; done))
        have kc4 : w'.cell? ⟨w4.heap.size, 0, none⟩ = some (.int .i64 kk1) := hX.cell (by first | (simp; done) | (simp; omega)) (by first | assumption | (go_simp; done) | (simp; done))
        have kc5 : w'.cell? ⟨w4.heap.size, 1, none⟩ = some (.int .i64 kk2) := hX.cell (by first | (simp; done) | (simp; omega)) (by first | assumption | (go_simp; done) | (simp; done))
        have kc6 : w'.cell? ⟨w7.heap.size, 0, none⟩ = some (.int .i64 (-1)) := hX.cell (by first | (simp; done) | (simp; omega)) (by first | assumption | (go_simp; done) | (simp; done))
        have kc7 : w'.cell? ⟨w7.heap.size, 1, none⟩ = some (.int .i64 1) := hX.cell (by first | (simp; done) | (simp; omega)) (by first | assumption | (go_simp; done) | (simp; done))
        clear hdep
        refine StepG.mk rfl ?_; rw [ha0]; simp only [putL, Act.put, List.setIfInBounds_toArray, List.set_cons_zero, List.set_cons_succ]
        go_wp2_with fail
        refine ((HB.out _)).mono ?_
        rintro e wn ⟨rfl, hb⟩
        go_wp2_with fail
        refine HK.out _ _ ?_
        refine ⟨v85, v86, v87, (.agg #[.int .i64 kk1, .int .i64 kk2]), (.agg #[.int .i64 b1, .int .i64 b2]), (.agg #[.int .i64 f1, .int .i64 f2]), v15, v16, (by rw [ha0]; simp only [putL, Act.put, List.setIfInBounds_toArray, List.set_cons_zero, List.set_cons_succ]), ?_, ?_, ?_, ?_, ?_, ?_, ?_, trivial⟩
        · obtain ⟨h85, h86, h87, h88, h89, h90, _⟩ := hR.out
          exact Lib.hid ⟨fun h => h85 (by simpa using h), fun h => h86 (by simpa using h), fun h => h87 (by simpa using h), fun _ => rfl, fun _ => rfl, fun _ => rfl, trivial⟩
        · exact hX.call hb
        · intro h; obtain ⟨g, c0, c1, e, hg, hblk, hst⟩ := hA15 (by simpa using h); exact ⟨g, c0, c1, e, hg, (hb.block g (blk_lt hblk)).trans hblk, fun h => hst (by simpa using h)⟩
        · exact fun h => (by have h1 := hN15 (by simpa using h); simp [h1])
        · intro h; obtain ⟨g, c0, c1, e, hg, hblk, hst⟩ := hA16 (by simpa using h); exact ⟨g, c0, c1, e, hg, (hb.block g (blk_lt hblk)).trans hblk, fun h => hst (by simpa using h)⟩
        · exact fun h => (by have h1 := hN16 (by simpa using h); simp [h1])
        · exact fun h1 h2 => hD15_16 (by simpa using h1) (by simpa using h2)
      case x1hs6 =>
        intro s a' w' hsk hdep hI K hK
        try dsimp only at hI hK
        obtain ⟨v85, v86, v87, v88, v89, v90, v15, v16, hact, hR, hX, hA15, hN15, hA16, hN16, hD15_16, _⟩ := hI
        subst hact
        have HK := Lib.hid hK
        clear hK
        have kc0 : w'.cell? ⟨w2.heap.size, 0, none⟩ = some (.int .i64 a1) := hX.cell (by first | (simp; done) | (simp; omega)) (by first | assumption | (go_simp; done) | (simp; done))
        have kc1 : w'.cell? ⟨w2.heap.size, 1, none⟩ = some (.int .i64 a2) := hX.cell (by first | (simp; done) | (simp; omega)) (by first | assumption | (go_simp; done) | (simp; done))
        have kc2 : w'.cell? ⟨w3.heap.size, 0, none⟩ = some (.int .i64 b1) := hX.cell (by first | (simp; done) | (simp; omega)) (by first | assumption | (go_simp; done) | (simp; done))
        have kc3 : w'.cell? ⟨w3.heap.size, 1, none⟩ = some (.int .i64 b2) := hX.cell (by first | (simp; done) | (simp; omega)) (by first | assumption | (go_simp; done) | (simp; done))
        have kc4 : w'.cell? ⟨w4.heap.size, 0, none⟩ = some (.int .i64 kk1) := hX.cell (by first | (simp; done) | (simp; omega)) (by first | assumption | (go_simp; done) | (simp; done))
        have kc5 : w'.cell? ⟨w4.heap.size, 1, none⟩ = some (.int .i64 kk2) := hX.cell (by first | (simp; done) | (simp; omega)) (by first | assumption | (go_simp; done) | (simp; done))
        have kc6 : w'.cell? ⟨w7.heap.size, 0, none⟩ = some (.int .i64 (-1)) := hX.cell (by first | (simp; done) | (simp; omega)) (by first | assumption | (go_simp; done) | (simp; done))
        have kc7 : w'.cell? ⟨w7.heap.size, 1, none⟩ = some (.int .i64 1) := hX.cell (by first | (simp; done) | (simp; omega)) (by first | assumption | (go_simp; done) | (simp; done))
        clear hdep
        refine StepG.mk rfl ?_; rw [ha0]; simp only [putL, Act.put, List.setIfInBounds_toArray, List.set_cons_zero, List.set_cons_succ]
        go_wp2_with fail
        refine HK.out _ _ ?_
        refine ⟨v85, v86, v87, v88, v89, v90, (.pointer (some ⟨w'.heap.size, 0, none⟩)), v16, (by rw [ha0]; simp only [putL, Act.put, List.setIfInBounds_toArray, List.set_cons_zero, List.set_cons_succ]), ?_, ?_, ?_, ?_, ?_, ?_, ?_, trivial⟩
        · obtain ⟨h85, h86, h87, h88, h89, h90, _⟩ := hR.out
          exact Lib.hid ⟨fun h => h85 (by simpa using h), fun h => h86 (by simpa using h), fun h => h87 (by simpa using h), fun h => h88 (by simpa using h), fun h => h89 (by simpa using h), fun h => h90 (by simpa using h), trivial⟩
        · exact hX.alloc _
        · exact fun _ => ⟨w'.heap.size, .int .i64 0, .int .i64 0, rfl, hX.size, blk_new w' _, fun h => (by have h1 := hN15 (by simpa using h); rw [h1] at hsk; cases hsk)⟩
        · exact fun _ => rfl
        · intro h; obtain ⟨g, c0, c1, e, hg, hblk, hst⟩ := hA16 (by simpa using h); exact ⟨g, c0, c1, e, hg, blk_old hblk, fun h => hst (by simpa using h)⟩
        · exact fun h => (by have h1 := hN16 (by simpa using h); simp [h1])
        · intro h1 h2 hE; obtain ⟨g2, _, _, e2, hg2, hblk2, _⟩ := hA16 (by simpa using h2); rw [e2] at hE; have hlt2 := blk_lt hblk2; (simp at hE <;> omega)
      case x1hs7 =>
        intro s a' w' hsk hdep hI K hK
        try dsimp only at hI hK
        obtain ⟨v85, v86, v87, v88, v89, v90, v15, v16, hact, hR, hX, hA15, hN15, hA16, hN16, hD15_16, _⟩ := hI
        subst hact
        have HK := Lib.hid hK
        clear hK
        have kc0 : w'.cell? ⟨w2.heap.size, 0, none⟩ = some (.int .i64 a1) := hX.cell (by first | (simp; done) | (simp; omega)) (by first | assumption | (go_simp; done) | (simp; done))
        have kc1 : w'.cell? ⟨w2.heap.size, 1, none⟩ = some (.int .i64 a2) := hX.cell (by first | (simp; done) | (simp; omega)) (by first | assumption | (go_simp; done) | (simp; done))
        have kc2 : w'.cell? ⟨w3.heap.size, 0, none⟩ = some (.int .i64 b1) := hX.cell (by first | (simp; done) | (simp; omega)) (by first | assumption | (go_simp; done) | (simp; done))
        have kc3 : w'.cell? ⟨w3.heap.size, 1, none⟩ = some (.int .i64 b2) := hX.cell (by first | (simp; done) | (simp; omega)) (by first | assumption | (go_simp; done) | (simp; done))
        have kc4 : w'.cell? ⟨w4.heap.size, 0, none⟩ = some (.int .i64 kk1) := hX.cell (by first | (simp; done) | (simp; omega)) (by first | assumption | (go_simp; done) | (simp; done))
        have kc5 : w'.cell? ⟨w4.heap.size, 1, none⟩ = some (.int .i64 kk2) := hX.cell (by first | (simp; done) | (simp; omega)) (by first | assumption | (go_simp; done) | (simp; done))
        have kc6 : w'.cell? ⟨w7.heap.size, 0, none⟩ = some (.int .i64 (-1)) := hX.cell (by first | (simp; done) | (simp; omega)) (by first | assumption | (go_simp; done) | (simp; done))
        have kc7 : w'.cell? ⟨w7.heap.size, 1, none⟩ = some (.int .i64 1) := hX.cell (by first | (simp; done) | (simp; omega)) (by first | assumption | (go_simp; done) | (simp; done))
        clear hdep
        refine StepG.mk rfl ?_; rw [ha0]; simp only [putL, Act.put, List.setIfInBounds_toArray, List.set_cons_zero, List.set_cons_succ]
        go_wp2_with fail
        refine HK.out _ _ ?_
        refine ⟨v85, v86, v87, v88, v89, v90, v15, (.pointer (some ⟨w'.heap.size, 0, none⟩)), (by rw [ha0]; simp only [putL, Act.put, List.setIfInBounds_toArray, List.set_cons_zero, List.set_cons_succ]), ?_, ?_, ?_, ?_, ?_, ?_, ?_, trivial⟩
        · obtain ⟨h85, h86, h87, h88, h89, h90, _⟩ := hR.out
          exact Lib.hid ⟨fun h => h85 (by simpa using h), fun h => h86 (by simpa using h), fun h => h87 (by simpa using h), fun h => h88 (by simpa using h), fun h => h89 (by simpa using h), fun h => h90 (by simpa using h), trivial⟩
        · exact hX.alloc _
        · intro h; obtain ⟨g, c0, c1, e, hg, hblk, hst⟩ := hA15 (by simpa using h); exact ⟨g, c0, c1, e, hg, blk_old hblk, fun h => hst (by simpa using h)⟩
        · exact fun h => (by have h1 := hN15 (by simpa using h); simp [h1])
        · exact fun _ => ⟨w'.heap.size, .int .i64 0, .int .i64 0, rfl, hX.size, blk_new w' _, fun h => (by have h1 := hN16 (by simpa using h); rw [h1] at hsk; cases hsk)⟩
        · exact fun _ => rfl
        · intro h1 h2 hE; obtain ⟨g2, _, _, e2, hg2, hblk2, _⟩ := hA15 (by simpa using h1); rw [e2] at hE; have hlt2 := blk_lt hblk2; (simp at hE <;> omega)
      case x1hs8 =>
        intro s a' w' hsk hdep hI K hK
        try dsimp only at hI hK
        obtain ⟨v85, v86, v87, v88, v89, v90, v15, v16, hact, hR, hX, hA15, hN15, hA16, hN16, hD15_16, _⟩ := hI
        subst hact
        have HK := Lib.hid hK
        clear hK
        have e87 : v87 = .agg #[.int .i64 d1, .int .i64 d2] := by obtain ⟨h85, h86, h87, h88, h89, h90, _⟩ := hR.out; exact h87 (hdep ⟨2, .data⟩ (by simp) rfl)
        subst e87
        obtain ⟨g, c0, c1, ev, hg, hblk, hst⟩ := hA15 (hdep ⟨6, .data⟩ (by simp) rfl)
        subst ev
        have kc0 : w'.cell? ⟨w2.heap.size, 0, none⟩ = some (.int .i64 a1) := hX.cell (by first | (simp; done) | (simp; omega)) (by first | assumption | (go_simp; done) | (simp; done))
        have kc1 : w'.cell? ⟨w2.heap.size, 1, none⟩ = some (.int .i64 a2) := hX.cell (by first | (simp; done) | (simp; omega)) (by first | assumption | (go_simp; done) | (simp; done))
        have kc2 : w'.cell? ⟨w3.heap.size, 0, none⟩ = some (.int .i64 b1) := hX.cell (by first | (simp; done) | (simp; omega)) (by first | assumption | (go_simp; done) | (simp; done))
        have kc3 : w'.cell? ⟨w3.heap.size, 1, none⟩ = some (.int .i64 b2) := hX.cell (by first | (simp; done) | (simp; omega)) (by first | assumption | (go_simp; done) | (simp; done))
        have kc4 : w'.cell? ⟨w4.heap.size, 0, none⟩ = some (.int .i64 kk1) := hX.cell (by first | (simp; done) | (simp; omega)) (by first | assumption | (go_simp; done) | (simp; done))
        have kc5 : w'.cell? ⟨w4.heap.size, 1, none⟩ = some (.int .i64 kk2) := hX.cell (by first | (simp; done) | (simp; omega)) (by first | assumption | (go_simp; done) | (simp; done))
        have kc6 : w'.cell? ⟨w7.heap.size, 0, none⟩ = some (.int .i64 (-1)) := hX.cell (by first | (simp; done) | (simp; omega)) (by first | assumption | (go_simp; done) | (simp; done))
        have kc7 : w'.cell? ⟨w7.heap.size, 1, none⟩ = some (.int .i64 1) := hX.cell (by first | (simp; done) | (simp; omega)) (by first | assumption | (go_simp; done) | (simp; done))
        have kb0 : w'.cell? ⟨g, 0, none⟩ = some c0 := cell_of_row w' g 0 _ _ _ hblk
        have kb1 : w'.cell? ⟨g, 1, none⟩ = some c1 := cell_of_row w' g 1 _ _ _ hblk
        have kf : ∀ o, w'.frozen? ⟨g, o, none⟩ = false := fun o => frozen_of_row w' g o _ _ hblk
        have hBlk := Lib.hid hblk
        clear hblk
        have hdepA : s 6 = true := hdep ⟨6, .data⟩ (by simp) rfl
        clear hdep
        refine StepG.mk rfl ?_; rw [ha0]; simp only [putL, Act.put, List.setIfInBounds_toArray, List.set_cons_zero, List.set_cons_succ]
        go_wp2_with fail
        refine HK.out _ _ ?_
        refine ⟨v85, v86, (.agg #[.int .i64 d1, .int .i64 d2]), v88, v89, v90, (.pointer (some ⟨g, 0, none⟩)), v16, (by rw [ha0]; simp only [putL, Act.put, List.setIfInBounds_toArray, List.set_cons_zero, List.set_cons_succ]), ?_, ?_, ?_, ?_, ?_, ?_, ?_, trivial⟩
        · obtain ⟨h85, h86, h87, h88, h89, h90, _⟩ := hR.out
          exact Lib.hid ⟨fun h => h85 (by simpa using h), fun h => h86 (by simpa using h), fun _ => rfl, fun h => h88 (by simpa using h), fun h => h89 (by simpa using h), fun h => h90 (by simpa using h), trivial⟩
        · exact ((hX.setNew (p := ⟨g, 0, none⟩) hg _).setNew (p := ⟨g, 1, none⟩) hg _)
        · exact fun _ => ⟨g, _, _, rfl, hg, blk_set2 hBlk.out, fun _ => ⟨rfl, rfl⟩⟩
        · exact fun _ => (by simp [hdepA])
        · intro h; obtain ⟨g2, c0, c1, e, hg2, hblk, hst⟩ := hA16 (by simpa using h); exact ⟨g2, c0, c1, e, hg2, blk_far2 (fun h0 => hD15_16 hdepA (by simpa using h) (by rw [e, h0])) hblk, fun h => hst (by simpa using h)⟩
        · exact fun h => (by have h1 := hN16 (by simpa using h); simp [h1])
        · exact fun h1 h2 => hD15_16 (by simpa using h1) (by simpa using h2)
      case x1hs9 =>
        intro s a' w' hsk hdep hI K hK
        try dsimp only at hI hK
        obtain ⟨v85, v86, v87, v88, v89, v90, v15, v16, hact, hR, hX, hA15, hN15, hA16, hN16, hD15_16, _⟩ := hI
        subst hact
        have HK := Lib.hid hK
        clear hK
        have e90 : v90 = .agg #[.int .i64 f1, .int .i64 f2] := by obtain ⟨h85, h86, h87, h88, h89, h90, _⟩ := hR.out; exact h90 (hdep ⟨5, .data⟩ (by simp) rfl)
        subst e90
        obtain ⟨g, c0, c1, ev, hg, hblk, hst⟩ := hA16 (hdep ⟨7, .data⟩ (by simp) rfl)
        subst ev
        have kc0 : w'.cell? ⟨w2.heap.size, 0, none⟩ = some (.int .i64 a1) := hX.cell (by first | (simp; done) | (simp; omega)) (by first | assumption | (go_simp; done) | (simp; done))
        have kc1 : w'.cell? ⟨w2.heap.size, 1, none⟩ = some (.int .i64 a2) := hX.cell (by first | (simp; done) | (simp; omega)) (by first | assumption | (go_simp; done) | (simp; done))
        have kc2 : w'.cell? ⟨w3.heap.size, 0, none⟩ = some (.int .i64 b1) := hX.cell (by first | (simp; done) | (simp; omega)) (by first | assumption | (go_simp; done) | (simp; done))
        have kc3 : w'.cell? ⟨w3.heap.size, 1, none⟩ = some (.int .i64 b2) := hX.cell (by first | (simp; done) | (simp; omega)) (by first | assumption | (go_simp; done) | (simp; done))
        have kc4 : w'.cell? ⟨w4.heap.size, 0, none⟩ = some (.int .i64 kk1) := hX.cell (by first | (simp; done) | (simp; omega)) (by first | assumption | (go_simp; done) | (simp; done))
        have kc5 : w'.cell? ⟨w4.heap.size, 1, none⟩ = some (.int .i64 kk2) := hX.cell (by first | (simp; done) | (simp; omega)) (by first | assumption | (go_simp; done) | (simp; done))
        have kc6 : w'.cell? ⟨w7.heap.size, 0, none⟩ = some (.int .i64 (-1)) := hX.cell (by first | (simp; done) | (simp; omega)) (by first | assumption | (go_simp; done) | (simp; done))
        have kc7 : w'.cell? ⟨w7.heap.size, 1, none⟩ = some (.int .i64 1) := hX.cell (by first | (simp; done) | (simp; omega)) (by first | assumption | (go_simp; done) | (simp; done))
        have kb0 : w'.cell? ⟨g, 0, none⟩ = some c0 := cell_of_row w' g 0 _ _ _ hblk
        have kb1 : w'.cell? ⟨g, 1, none⟩ = some c1 := cell_of_row w' g 1 _ _ _ hblk
        have kf : ∀ o, w'.frozen? ⟨g, o, none⟩ = false := fun o => frozen_of_row w' g o _ _ hblk
        have hBlk := Lib.hid hblk
        clear hblk
        have hdepA : s 7 = true := hdep ⟨7, .data⟩ (by simp) rfl
        clear hdep
        refine StepG.mk rfl ?_; rw [ha0]; simp only [putL, Act.put, List.setIfInBounds_toArray, List.set_cons_zero, List.set_cons_succ]
        go_wp2_with fail
        refine HK.out _ _ ?_
        refine ⟨v85, v86, v87, v88, v89, (.agg #[.int .i64 f1, .int .i64 f2]), v15, (.pointer (some ⟨g, 0, none⟩)), (by rw [ha0]; simp only [putL, Act.put, List.setIfInBounds_toArray, List.set_cons_zero, List.set_cons_succ]), ?_, ?_, ?_, ?_, ?_, ?_, ?_, trivial⟩
        · obtain ⟨h85, h86, h87, h88, h89, h90, _⟩ := hR.out
          exact Lib.hid ⟨fun h => h85 (by simpa using h), fun h => h86 (by simpa using h), fun h => h87 (by simpa using h), fun h => h88 (by simpa using h), fun h => h89 (by simpa using h), fun _ => rfl, trivial⟩
        · exact ((hX.setNew (p := ⟨g, 0, none⟩) hg _).setNew (p := ⟨g, 1, none⟩) hg _)
        · intro h; obtain ⟨g2, c0, c1, e, hg2, hblk, hst⟩ := hA15 (by simpa using h); exact ⟨g2, c0, c1, e, hg2, blk_far2 (fun h0 => hD15_16 (by simpa using h) hdepA (by rw [e, h0])) hblk, fun h => hst (by simpa using h)⟩
        · exact fun h => (by have h1 := hN15 (by simpa using h); simp [h1])
        · exact fun _ => ⟨g, _, _, rfl, hg, blk_set2 hBlk.out, fun _ => ⟨rfl, rfl⟩⟩
        · exact fun _ => (by simp [hdepA])
        · exact fun h1 h2 => hD15_16 (by simpa using h1) (by simpa using h2)
      intro s a' w15 hall hI
      try dsimp only at hI
      obtain ⟨v85, v86, v87, v88, v89, v90, v15, v16, hact, hR, hXR, hA15, hN15, hA16, hN16, hD15_16, _⟩ := hI
      subst hact
      obtain ⟨h85, h86, h87, h88, h89, h90, _⟩ := hR.out
      clear hR
      have e85 := h85 (hall 0 (by decide))
      subst e85
      clear h85
      have e86 := h86 (hall 1 (by decide))
      subst e86
      clear h86
      have e87 := h87 (hall 2 (by decide))
      subst e87
      clear h87
      have e88 := h88 (hall 3 (by decide))
      subst e88
      clear h88
      have e89 := h89 (hall 4 (by decide))
      subst e89
      clear h89
      have e90 := h90 (hall 5 (by decide))
      subst e90
      clear h90
      obtain ⟨g15, c0, c1, ev, hg15, hblk15, hst⟩ := hA15 (hall 6 (by decide))
      subst ev
      clear hA15 hN15
      obtain ⟨es0, es1⟩ := hst (hall 8 (by decide))
      subst es0
      subst es1
      clear hst
      obtain ⟨g16, c0, c1, ev, hg16, hblk16, hst⟩ := hA16 (hall 7 (by decide))
      subst ev
      clear hA16 hN16
      obtain ⟨es0, es1⟩ := hst (hall 9 (by decide))
      subst es0
      subst es1
      clear hst
      have hgne15_16 : g15 ≠ g16 := fun h0 => hD15_16 (hall 6 (by decide)) (hall 7 (by decide)) (by rw [h0])
      clear hD15_16
      clear hall
      rw [ha0]; simp only [putL, Act.put, List.setIfInBounds_toArray, List.set_cons_zero, List.set_cons_succ]
      clear ha0
      have B15 : Below w.heap.size w w15 := hXR.below (by first | assumption | exact (by repeat (first | exact Below.refl _ _ | exact Nat.le_refl _ | refine Below.alloc ?_ ?_ _ | refine Below.setCell ?_ ?_ _ | refine Below.drew ?_ | refine bl_drewN ?_ _ | (assumption) | refine bl_call ?_ (by assumption) ?_ | omega | (simp <;> omega)))) (by first | omega | (simp <;> omega)) (by simp <;> omega)
      have cew2_heap_size15_0 : w15.cell? ⟨w2.heap.size, 0, none⟩ = some (.int .i64 a1) := hXR.cell (by first | (simp; done) | (simp; omega)) (by first | assumption | (go_simp; done) | (simp; done))
      have cew2_heap_size15_1 : w15.cell? ⟨w2.heap.size, 1, none⟩ = some (.int .i64 a2) := hXR.cell (by first | (simp; done) | (simp; omega)) (by first | assumption | (go_simp; done) | (simp; done))
      have zew2_heap_size15 : w2.heap.size < w15.heap.size := block_lt_of_cell cew2_heap_size15_0
      have cew3_heap_size15_0 : w15.cell? ⟨w3.heap.size, 0, none⟩ = some (.int .i64 b1) := hXR.cell (by first | (simp; done) | (simp; omega)) (by first | assumption | (go_simp; done) | (simp; done))
      have cew3_heap_size15_1 : w15.cell? ⟨w3.heap.size, 1, none⟩ = some (.int .i64 b2) := hXR.cell (by first | (simp; done) | (simp; omega)) (by first | assumption | (go_simp; done) | (simp; done))
      have zew3_heap_size15 : w3.heap.size < w15.heap.size := block_lt_of_cell cew3_heap_size15_0
      have cew4_heap_size15_0 : w15.cell? ⟨w4.heap.size, 0, none⟩ = some (.int .i64 kk1) := hXR.cell (by first | (simp; done) | (simp; omega)) (by first | assumption | (go_simp; done) | (simp; done))
      have cew4_heap_size15_1 : w15.cell? ⟨w4.heap.size, 1, none⟩ = some (.int .i64 kk2) := hXR.cell (by first | (simp; done) | (simp; omega)) (by first | assumption | (go_simp; done) | (simp; done))
      have zew4_heap_size15 : w4.heap.size < w15.heap.size := block_lt_of_cell cew4_heap_size15_0
      have cew7_heap_size15_0 : w15.cell? ⟨w7.heap.size, 0, none⟩ = some (.int .i64 (-1)) := hXR.cell (by first | (simp; done) | (simp; omega)) (by first | assumption | (go_simp; done) | (simp; done))
      have cew7_heap_size15_1 : w15.cell? ⟨w7.heap.size, 1, none⟩ = some (.int .i64 1) := hXR.cell (by first | (simp; done) | (simp; omega)) (by first | assumption | (go_simp; done) | (simp; done))
      have zew7_heap_size15 : w7.heap.size < w15.heap.size := block_lt_of_cell cew7_heap_size15_0
      have ceg1515_0 := row2_0 hblk15
      have ceg1515_1 := row2_1 hblk15
      have zeg1515 := blk_lt hblk15
      have ceg1615_0 := row2_0 hblk16
      have ceg1615_1 := row2_1 hblk16
      have zeg1615 := blk_lt hblk16
      have hsz_15 := B15.size
      clear hXR
      have hc := HC.out
      clear HC HA HB
      rcases hc with ⟨rfl, rfl, rfl, rfl⟩ | ⟨rfl, rfl, rfl, rfl⟩ | ⟨rfl, rfl, rfl, rfl⟩
      · skip
        go_wp2_with fail
        refine (awake_any _).mono ?_
        rintro e w16 ⟨rfl, hb16⟩
        have B16 : Below w.heap.size w w16 := bl_call (by repeat (first | exact Below.refl _ _ | exact Nat.le_refl _ | refine Below.alloc ?_ ?_ _ | refine Below.setCell ?_ ?_ _ | refine Below.drew ?_ | refine bl_drewN ?_ _ | (assumption) | refine bl_call ?_ (by assumption) ?_ | omega | (simp <;> omega))) hb16 (by first | assumption | (simp; done) | (simp; omega) | omega)
        clear hb16
        have hsz_16 := B16.size
        go_wp2_with fail
        go_ret
        exact ⟨rfl, (by repeat (first | exact Below.refl _ _ | exact Nat.le_refl _ | refine Below.alloc ?_ ?_ _ | refine Below.setCell ?_ ?_ _ | refine Below.drew ?_ | refine bl_drewN ?_ _ | (assumption) | refine bl_call ?_ (by assumption) ?_ | omega | (simp <;> omega)))⟩
      · skip
        go_wp2_with fail
        refine (awake_any _).mono ?_
        rintro e w16 ⟨rfl, hb16⟩
        have B16 : Below w.heap.size w w16 := bl_call (by repeat (first | exact Below.refl _ _ | exact Nat.le_refl _ | refine Below.alloc ?_ ?_ _ | refine Below.setCell ?_ ?_ _ | refine Below.drew ?_ | refine bl_drewN ?_ _ | (assumption) | refine bl_call ?_ (by assumption) ?_ | omega | (simp <;> omega))) hb16 (by first | assumption | (simp; done) | (simp; omega) | omega)
        clear hb16
        have hsz_16 := B16.size
        go_wp2_with fail
        go_ret
        exact ⟨rfl, (by repeat (first | exact Below.refl _ _ | exact Nat.le_refl _ | refine Below.alloc ?_ ?_ _ | refine Below.setCell ?_ ?_ _ | refine Below.drew ?_ | refine bl_drewN ?_ _ | (assumption) | refine bl_call ?_ (by assumption) ?_ | omega | (simp <;> omega)))⟩
      · skip
        go_wp2_with fail
        refine (awake_any _).mono ?_
        rintro e w16 ⟨rfl, hb16⟩
        have B16 : Below w.heap.size w w16 := bl_call (by repeat (first | exact Below.refl _ _ | exact Nat.le_refl _ | refine Below.alloc ?_ ?_ _ | refine Below.setCell ?_ ?_ _ | refine Below.drew ?_ | refine bl_drewN ?_ _ | (assumption) | refine bl_call ?_ (by assumption) ?_ | omega | (simp <;> omega))) hb16 (by first | assumption | (simp; done) | (simp; omega) | omega)
        clear hb16
        have hsz_16 := B16.size
        go_wp2_with fail
        go_ret
        exact ⟨rfl, (by repeat (first | exact Below.refl _ _ | exact Nat.le_refl _ | refine Below.alloc ?_ ?_ _ | refine Below.setCell ?_ ?_ _ | refine Below.drew ?_ | refine bl_drewN ?_ _ | (assumption) | refine bl_call ?_ (by assumption) ?_ | omega | (simp <;> omega)))⟩
namespace gaugeClimbed
open Go.ChangeShapes Go.WideShapes Go.ChangeAt Go.RowKit
open Go.Lib Go.Joins
set_option maxRecDepth 100000 in
theorem contract (H : Type) (enc : TypeId × Value → H) (W : World) (base : Nat) (args : Array Value) (ds gs : List (DataW H)) (before : List MemPlace)
    (hval : ∀ (j : Nat) t v, Tryd.f8.params[j]? = some t → args[j]? = some v → Value.okWide Tryd.prog W .any base t v)
    (hW : DataW.Whole enc Tryd.prog Tryd.f8.params.toList Rows.gaugeClimbedSpec.vars false W args.toList ds gs before) :
    Calls Tryd.prog 8 args W fun e W' => ∃ v, e = .returned v ∧ Rows.gaugeClimbedSpec.post enc Tryd.prog Tryd.f8 false true false false W args v W' := by
  have hW' := hW
  obtain ⟨p, q, hA0, hV, rfl, hfz, hnd⟩ := hW
  have hA : DataW.TrodAll enc Tryd.prog W 0 (fun _ => true) true Tryd.f8.params.toList args.toList ds p := hA0
  rw [Tryd.params8] at hA hval
  obtain ⟨v0, vs0, d0, ds0, p0, q0, hargs, rfl, rfl, h0, r0⟩ := trodAll_cons hA
  obtain ⟨rfl, rfl, rfl⟩ := trodAll_nil r0
  obtain rfl : args = #[v0] := by cases args; simp_all
  obtain ⟨rfl, rfl⟩ := trodVars_none hV
  obtain ⟨x0, rfl, rfl, rfl, wx0⟩ := open_int Tryd.underlying3 (hval 0 3 v0 rfl rfl) h0
  clear hA0
  simp only [List.append_nil] at hW'
  refine (show Calls Tryd.prog 8 _ W _ from (GaugeClimbed_walk x0 W (inI wx0))).mono fun e W' ⟨he, hb⟩ => ?_
  subst he
  exact ⟨_, rfl, _, _, _, [], [], [], hW', trodAll_mk1 (shut_bool Tryd.underlying4 _), trodAll_cons_mk (shut_int Tryd.underlying3 wx0) (trodAll_mk0), rfl, hb.frame _, fun h => by cases h⟩
theorem reads (os : Os) {H : Type} (enc : TypeId × Value → H) : ∃ places, DataW.whole enc Tryd.prog ((laidWorld os).forCall (fun _ _ => 0) ⟨#[], #[.int .i64 0], []⟩).memory Tryd.f8.params.toList Rows.gaugeClimbedSpec.vars false (#[.int .i64 0] : Array Value).toList 8 = some ([.lit (.int .i64 0)], [], places) :=
  ⟨[], by kernel_rfl⟩
set_option maxRecDepth 100000 in
theorem lifted (os : Os) (started : os.Started) (H : Type) (enc : TypeId × Value → H) (F : Stop.Interp) :
    ReturnsInHanded {} Tryd.checked os 8 .any ((OpenSpec.ofChange Rows.gaugeClimbedSpec).preRow enc Tryd.prog Tryd.f8 Rows.gaugeClimbedRow.domain false Rows.gaugeClimbedRow.laid) (((OpenSpec.ofChange Rows.gaugeClimbedSpec).at F).post enc Tryd.prog Tryd.f8 false true false false) := by
  obtain ⟨places, hx⟩ := reads os enc
  refine returnsInHanded_of_row (C := Tryd.checked) (s := OpenSpec.ofChange Rows.gaugeClimbedSpec) own started (by kernel_rfl) Tryd.func8
    (witness_row_at (enc := enc) (C := Tryd.checked) false (laidWorld os) #[.int .i64 0] rfl (by kernel_rfl) (by kernel_rfl) (by kernel_rfl)
      (OpenSpec.preRow_of_cond 8 hx (by kernel_rfl) (fun k hk => by cases hk) (by kernel_rfl) (laid_met os _))) ?_
  intro W base args ds gs before hval hW _ _ _ _ _ _
  exact contract H enc W base args ds gs before hval hW
theorem said : Rows.GaugeClimbedSaid :=
  OpenClaim.holds_of_cond 8 Tryd.f8 rfl rfl rfl rfl rfl rfl rfl ⟨rfl, rfl, rfl, rfl, rfl⟩ rfl rfl rfl rfl rfl (by kernel_rfl) Tryd.func8 (by kernel_rfl)
    (of_decide_eq_true (by kernel_rfl)) (by unfold Func.isWrapper; first | (rw [if_pos (by decide +kernel)]; kernel_rfl) | (rw [if_neg (by decide +kernel)]; exact ⟨rfl, rfl⟩))
    (fun os started H enc _ F => by rw [OpenClaim.pre_eq_preRow]; exact lifted os started H enc F)
theorem plain (f : FuncId) (fn : Func) (hf : Tryd.pinned.checked.prog.funcNamed "remould/remouldlaw04.GaugeClimbed" = some f) (hfn : Tryd.pinned.checked.prog.funcs[f]? = some fn) :
    true = Tryd.pinned.checked.prog.looks [] ∧ ∀ (j : Nat) t, fn.params[j]? = some t → Tryd.pinned.checked.prog.wantsStandIn t = false := by
  obtain rfl : f = 8 := Option.some.inj ((show Tryd.prog.funcNamed "remould/remouldlaw04.GaugeClimbed" = some 8 by kernel_rfl).symm.trans hf) |>.symm
  obtain rfl : fn = Tryd.f8 := (Option.some.inj (Tryd.func8.symm.trans hfn)).symm
  refine ⟨by kernel_rfl, fun j t ht => ?_⟩
  rw [Tryd.params8] at ht
  have hm : t ∈ [3] := by simpa using Array.mem_of_getElem? ht
  have hall : ([3].all fun u => !Tryd.prog.wantsStandIn u) = true := by kernel_rfl
  exact (show Tryd.prog.wantsStandIn t = false by simpa using List.all_eq_true.1 hall t (by simpa using hm))
theorem card : Rows.GaugeClimbedCardSaid :=
  Claim7.holds_tied_plain_at .later [] _ _ _ _ said (fun _ h => by cases h) (by kernel_rfl) (fun _ h => by cases h) gaugeClimbed_row_tie rfl ⟨rfl, rfl⟩ (by kernel_rfl) rfl plain (by kernel_rfl)
end gaugeClimbed
theorem GaugeClimbed_holds : Rows.GaugeClimbedCardSaid := gaugeClimbed.card
end Go.Proofs.YtgocloilagcfoabDoor
