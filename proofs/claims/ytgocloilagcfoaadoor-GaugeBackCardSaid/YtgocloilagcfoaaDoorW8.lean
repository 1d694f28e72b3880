/- GaugeBack: for every number the law returns true. -/
import Derived.Test.YtgocloilagcfoaaDoorL1
import Derived.Test.YtgocloilagcfoaaDoorL3
import Derived.Test.YtgocloilagcfoaaDoorM7
import Derived.Test.YtgocloilagcfoaaDoorR8
import Derived.Test.YtgocloilagcfoaaDoorF1
namespace Go.Proofs.YtgocloilagcfoaaDoor
open Go.RowKit
attribute [local go_sem ↓] Go.wp_at_zero Go.wp_at_succ

theorem pos_text (X Y : Int) (h : 0 ≤ GM.sgn X Y) (x1 : -1000000 ≤ X) (x2 : X ≤ 1000000) (y1 : -1000000 ≤ Y) (y2 : Y ≤ 1000000) (H : Nat) (hH : (GM.head (X, Y)).length = H) :
    1 ≤ H ∧ H ≤ 40 ∧ H ≤ (GM.textOf (X, Y)).length ∧ (∀ (i : Nat) (c : UInt8), i < H → (GM.textOf (X, Y))[i]? = some c → c ≠ 46) ∧ (H = (GM.textOf (X, Y)).length ∨ (GM.textOf (X, Y))[H]? = some 46) ∧
    0 < GM.sgn ((GM.pt (H + 40)).1 - X) ((GM.pt (H + 40)).2 - Y) ∧ ((GM.textOf (X, Y))[0]? = some 48 → GM.sgn (X - 1) Y < 0) ∧ ((GM.textOf (X, Y))[0]? ≠ some 48 → 0 ≤ GM.sgn (X - (GM.pt (H + 39)).1) (Y - (GM.pt (H + 39)).2)) := by
  obtain ⟨b1, b2, b3⟩ := text_between (X, Y) ⟨x1, x2, y1, y2⟩ h
  obtain ⟨h1, h2⟩ := GM.head_length (X, Y)
  rw [hH] at b1 b3 h1 h2
  refine ⟨h1, h2, ?_, ?_, ?_, b1, ?_, b3⟩
  · rw [GM.textOf_eq, List.length_append]; omega
  · intro i c hi hc
    rw [GM.textOf_eq, List.getElem?_append_left (by omega)] at hc
    intro e
    exact no_point (head_dig (X, Y)) (e ▸ List.mem_of_getElem? hc)
  · rw [GM.textOf_eq]
    unfold GM.tail
    split
    · left; simp [hH]
    · right
      rw [List.getElem?_append_right (by omega), hH, Nat.sub_self]; rfl
  · intro h0
    have := b2 h0
    unfold GM.Lt at this
    rw [GM.sg_sub_comm] at this
    unfold GM.sg GM.sub at this
    simp only [Int.sub_zero] at this
    omega
set_option maxRecDepth 100000 in
set_option maxHeartbeats 8000000 in
theorem GaugeBack_walk (a b : Int) (w : World) (ha : -9223372036854775808 ≤ a ∧ a ≤ 9223372036854775807) (hb : -9223372036854775808 ≤ b ∧ b ≤ 9223372036854775807) :
    Calls Tryd.prog 8 #[.agg #[.int .i64 a, .int .i64 b]] w fun e w' => e = .returned (.bool true) ∧ Below w.heap.size w w' := by
  have HPOS := Lib.hid (fun wx => positive_any a b 1000000 wx (by omega) (by omega) ha.1 ha.2 hb.1 hb.2)
  clear ha hb
  go_enter Tryd.func8, Tryd.ntmps8
  go_upto_region 1 with fail
  obtain ⟨w0, hw0⟩ : ∃ wx : World, wx = (w.alloc (.cells #[.int .i64 a, .int .i64 b] 23)) := ⟨_, rfl⟩
  rw [← hw0]
  have q0_0 : w0.heap[w.heap.size]? = some (.cells #[.int .i64 a, .int .i64 b] 23 (0, 0)) := by rw [hw0]; exact blk_new _ _
  have z0_0 : w.heap.size < w0.heap.size := by rw [hw0]; simp <;> omega
  have c0_0_0 : w0.cell? ⟨w.heap.size, 0, none⟩ = some (.int .i64 a) := by rw [hw0]; first | (go_simp; done) | simp
  have c0_0_1 : w0.cell? ⟨w.heap.size, 1, none⟩ = some (.int .i64 b) := by rw [hw0]; first | (go_simp; done) | simp
  have f0_0 : ∀ o, w0.frozen? ⟨w.heap.size, o, none⟩ = false := by intro o; rw [hw0]; first | (go_simp; done) | simp
  have B0 : Below w.heap.size w w0 := by rw [hw0]; exact (by repeat (first | exact Below.refl _ _ | exact Nat.le_refl _ | refine Below.alloc ?_ ?_ _ | refine Below.setCell ?_ ?_ _ | refine Below.drew ?_ | refine bl_drewN ?_ _ | (assumption) | refine bl_call ?_ (by assumption) ?_ | omega | (simp <;> omega)))
  clear hw0
  go_wp2_with fail
  refine (HPOS.out _).mono ?_
  rintro e w1 ⟨X, Y, rfl, ⟨x1, x2, y1, y2⟩, hpos, hb1⟩
  have R1 := blk_call hb1 q0_0
  have B1 := bl_call B0 hb1 (by omega)
  have z1 := blk_lt R1
  have c0 := row2_0 R1
  have c1 := row2_1 R1
  have f0 := row_f R1
  clear hb1 q0_0
  go_upto_region 2 with fail
  obtain ⟨w2, h2⟩ : ∃ wx : World, wx = (w1.setCell ⟨w.heap.size, 0, none⟩ (.int .i64 X)).setCell ⟨w.heap.size, 1, none⟩ (.int .i64 Y) := ⟨_, rfl⟩
  rw [← h2]
  have R2 : w2.heap[w.heap.size]? = some (.cells #[.int .i64 X, .int .i64 Y] 23 (0, 0)) := by rw [h2]; exact blk_set2 R1
  have B2 : Below w.heap.size w w2 := by rw [h2]; exact (by repeat (first | exact Below.refl _ _ | exact Nat.le_refl _ | refine Below.alloc ?_ ?_ _ | refine Below.setCell ?_ ?_ _ | refine Below.drew ?_ | refine bl_drewN ?_ _ | (assumption) | refine bl_call ?_ (by assumption) ?_ | omega | (simp <;> omega)))
  clear h2 R1 c0 c1 f0
  have z2 := blk_lt R2
  have d0 := row2_0 R2
  have d1 := row2_1 R2
  clear R2 HPOS B0 B1
  have hNum : GM.Num (X, Y) := ⟨x1, x2, y1, y2⟩
  have hN : isN X Y = true := (isN_iff _ _).2 ⟨x1, x2, y1, y2⟩
  obtain ⟨H, hH⟩ : ∃ H, (GM.head (X, Y)).length = H := ⟨_, rfl⟩
  obtain ⟨p1, p2, p3, p4, p5, p6, p7, p8⟩ := pos_text X Y hpos x1 x2 y1 y2 H hH
  have hL : (GM.textOf (X, Y)).length ≤ 1000 := by
    rcases p5 with h | h
    · omega
    · rw [GM.textOf_eq, List.length_append, hH]
      unfold GM.tail
      split
      · simp; omega
      · have := GM.frac_length 40 (GM.rest 40 (X, Y)); simp; omega
  have hT := fun wx => Text_yes X Y wx hN hpos
  have hPL := fun wx => refIsPlain (GM.textOf (X, Y)) wx hL
  rw [text_plain (X, Y) hNum hpos] at hPL
  have hv := val_text (X, Y) hNum hpos
  have hV := fun wx => Value_yes (GM.textOf (X, Y)) wx hL (text_ok _) (by rw [hv]; exact hN)
  have hP := fun wx => Plain_yes (GM.textOf (X, Y)) wx hL (text_ok _) (by rw [hv]; exact hN)
  rw [hv] at hV hP
  dsimp only at hV hP
  obtain ⟨L, hLL⟩ : ∃ L, GM.textOf (X, Y) = L := ⟨_, rfl⟩
  rw [hLL] at hT hPL hV hP hL p3 p4 p5 p7 p8
  clear hLL hv hH hN hNum
  have hts := str_size L
  have hb : ∀ (k : Nat) (c : UInt8), L[k]? = some c → ∀ h, (⟨L.toArray⟩ : ByteArray)[k]'h = c := by
    intro k c hc h
    have h' : k < L.length := by rw [hts] at h; exact h
    rw [List.getElem?_eq_getElem h'] at hc
    exact Option.some.inj hc
  have HB := Lib.hid hb
  clear hb
  generalize (⟨L.toArray⟩ : ByteArray) = t at *
  have HT := Lib.hid hT
  have HPL := Lib.hid hPL
  have HV := Lib.hid hV
  have HP := Lib.hid hP
  obtain ⟨n, hn⟩ : ∃ n, L.length = n := ⟨_, rfl⟩
  rw [hn] at hts p3 p5 hL
  have HNN := Lib.hid hn
  have HP4 := Lib.hid p4
  have HP5 := Lib.hid p5
  have HP6 := Lib.hid p6
  have HP7 := Lib.hid p7
  have HP8 := Lib.hid p8
  clear hT hPL hV hP hn p4 p5 p6 p7 p8 hpos
  go_wp2_with fail
  refine (HT.out _).mono ?_
  rintro e w3 ⟨rfl, hb3⟩
  have z3_0 : w.heap.size < w3.heap.size := by have := hb3.size; (try simp at this); omega
  have cew_heap_size3_0 : w3.cell? ⟨w.heap.size, 0, none⟩ = some (.int .i64 X) := keep_cell hb3 (by first | assumption | (go_simp; done) | (simp; done) | simp [*])
  have zew_heap_size3 : w.heap.size < w3.heap.size := block_lt_of_cell cew_heap_size3_0
  have cew_heap_size3_1 : w3.cell? ⟨w.heap.size, 1, none⟩ = some (.int .i64 Y) := keep_cell hb3 (by first | assumption | (go_simp; done) | (simp; done) | simp [*])
  have B3 : Below w.heap.size w w3 := bl_call (by repeat (first | exact Below.refl _ _ | exact Nat.le_refl _ | refine Below.alloc ?_ ?_ _ | refine Below.setCell ?_ ?_ _ | refine Below.drew ?_ | refine bl_drewN ?_ _ | (assumption) | refine bl_call ?_ (by assumption) ?_ | omega | (simp <;> omega))) hb3 (by first | assumption | (simp; done) | (simp; omega) | omega)
  clear hb3
  have hsz_3 := B3.size
  go_wp2_with fail
  refine (HPL.out _).mono ?_
  rintro e w4 ⟨rfl, hb4⟩
  have z4_0 : w.heap.size < w4.heap.size := by have := hb4.size; (try simp at this); omega
  have cew_heap_size4_0 : w4.cell? ⟨w.heap.size, 0, none⟩ = some (.int .i64 X) := keep_cell hb4 (by first | assumption | (go_simp; done) | (simp; done) | simp [*])
  have zew_heap_size4 : w.heap.size < w4.heap.size := block_lt_of_cell cew_heap_size4_0
  have cew_heap_size4_1 : w4.cell? ⟨w.heap.size, 1, none⟩ = some (.int .i64 Y) := keep_cell hb4 (by first | assumption | (go_simp; done) | (simp; done) | simp [*])
  have B4 : Below w.heap.size w w4 := bl_call (by repeat (first | exact Below.refl _ _ | exact Nat.le_refl _ | refine Below.alloc ?_ ?_ _ | refine Below.setCell ?_ ?_ _ | refine Below.drew ?_ | refine bl_drewN ?_ _ | (assumption) | refine bl_call ?_ (by assumption) ?_ | omega | (simp <;> omega))) hb4 (by first | assumption | (simp; done) | (simp; omega) | omega)
  clear hb4
  have hsz_4 := B4.size
  go_wp2_with fail
  refine (HV.out _).mono ?_
  rintro e w5 ⟨rfl, hb5⟩
  have z5_0 : w.heap.size < w5.heap.size := by have := hb5.size; (try simp at this); omega
  have cew_heap_size5_0 : w5.cell? ⟨w.heap.size, 0, none⟩ = some (.int .i64 X) := keep_cell hb5 (by first | assumption | (go_simp; done) | (simp; done) | simp [*])
  have zew_heap_size5 : w.heap.size < w5.heap.size := block_lt_of_cell cew_heap_size5_0
  have cew_heap_size5_1 : w5.cell? ⟨w.heap.size, 1, none⟩ = some (.int .i64 Y) := keep_cell hb5 (by first | assumption | (go_simp; done) | (simp; done) | simp [*])
  have B5 : Below w.heap.size w w5 := bl_call (by repeat (first | exact Below.refl _ _ | exact Nat.le_refl _ | refine Below.alloc ?_ ?_ _ | refine Below.setCell ?_ ?_ _ | refine Below.drew ?_ | refine bl_drewN ?_ _ | (assumption) | refine bl_call ?_ (by assumption) ?_ | omega | (simp <;> omega))) hb5 (by first | assumption | (simp; done) | (simp; omega) | omega)
  clear hb5
  have hsz_5 := B5.size
  go_wp2_with fail
  refine (HP.out _).mono ?_
  rintro e w6 ⟨rfl, hb6⟩
  have z6_0 : w.heap.size < w6.heap.size := by have := hb6.size; (try simp at this); omega
  have cew_heap_size6_0 : w6.cell? ⟨w.heap.size, 0, none⟩ = some (.int .i64 X) := keep_cell hb6 (by first | assumption | (go_simp; done) | (simp; done) | simp [*])
  have zew_heap_size6 : w.heap.size < w6.heap.size := block_lt_of_cell cew_heap_size6_0
  have cew_heap_size6_1 : w6.cell? ⟨w.heap.size, 1, none⟩ = some (.int .i64 Y) := keep_cell hb6 (by first | assumption | (go_simp; done) | (simp; done) | simp [*])
  have cew5_heap_size6_0 : w6.cell? ⟨w5.heap.size, 0, none⟩ = some (.int .i64 X) := keep_cell hb6 (by first | assumption | (go_simp; done) | (simp; done) | simp [*])
  have zew5_heap_size6 : w5.heap.size < w6.heap.size := block_lt_of_cell cew5_heap_size6_0
  have cew5_heap_size6_1 : w6.cell? ⟨w5.heap.size, 1, none⟩ = some (.int .i64 Y) := keep_cell hb6 (by first | assumption | (go_simp; done) | (simp; done) | simp [*])
  have B6 : Below w.heap.size w w6 := bl_call (by repeat (first | exact Below.refl _ _ | exact Nat.le_refl _ | refine Below.alloc ?_ ?_ _ | refine Below.setCell ?_ ?_ _ | refine Below.drew ?_ | refine bl_drewN ?_ _ | (assumption) | refine bl_call ?_ (by assumption) ?_ | omega | (simp <;> omega))) hb6 (by first | assumption | (simp; done) | (simp; omega) | omega)
  clear hb6
  have hsz_6 := B6.size
  clear HT HPL HV HP
  go_upto_region 10 with fail
  go_loopw [9] (fun y wr => ∃ k : Nat, y = .int .i64 k ∧ k ≤ H ∧ w6 = wr) (fun y _ => n - (intOf y).toNat)
  case atStart => exact ⟨0, rfl, by omega, rfl⟩
  case round =>
    obtain ⟨k, rfl, hk, rfl⟩ := hrel
    by_cases hkH : k < H
    · obtain ⟨c, hc⟩ : ∃ c, L[k]? = some c := ⟨L[k]'(by have := HNN.out; omega), by simp [show k < L.length by have := HNN.out; omega]⟩
      have hit : k < t.size := by omega
      have htc : t[k]'hit = c := HB.out k c hc hit
      have hc1 : c.toNat < 256 := c.toNat_lt
      have hc46 : ¬ c.toNat = 46 := fun h => HP4.out k c hkH hc (UInt8.toNat_inj.1 h)
      have hkn : k < n := by omega
      clear hc
      go_wp2_with fail
      go_roundw
      case rel => exact ⟨k + 1, by simp, by omega, by first | rfl | trivial⟩
      case measure => simp [intOf]; omega
    · obtain rfl : k = H := by omega
      obtain ⟨c, hc⟩ : ∃ c, L[0]? = some c := ⟨L[0]'(by have := HNN.out; omega), by simp [show 0 < L.length by have := HNN.out; omega]⟩
      have hit : 0 < t.size := by omega
      have htc : t[0]'hit = c := HB.out 0 c hc hit
      have hc1 : c.toNat < 256 := c.toNat_lt
      have hcc : c = 48 ↔ c.toNat = 48 := ⟨fun h => by rw [h]; rfl, fun h => UInt8.toNat_inj.1 h⟩
      have hend : (¬ k < n) ∨ (∃ (hkt : k < t.size), k < n ∧ t[k]'hkt = 46) := by
        rcases HP5.out with h | h
        · left; omega
        · have hkL := (List.getElem?_eq_some_iff.1 h).1
          have hkn : k < n := by have := HNN.out; omega
          exact .inr ⟨by omega, hkn, HB.out k 46 h (by omega)⟩
      have HC := Lib.hid hc
      have HCC := Lib.hid hcc
      clear hc hcc
      by_cases h48 : c.toNat = 48
      · have hlt := HP7.out (by rw [HC.out, HCC.out.2 h48])
        have hM := fun wx => refMinus X Y 1 0 wx (by omega) (by omega) (by omega) (by omega)
        have hS := fun wx => refSign (X - 1) Y wx (by omega) (by omega) (by omega) (by omega)
        rw [Int.sub_zero] at hM
        obtain ⟨S, eS⟩ : ∃ S, GM.sgn (X - 1) Y = S := ⟨_, rfl⟩
        rw [eS] at hS hlt
        have HM := Lib.hid hM
        have HS := Lib.hid hS
        clear hM hS eS
        rcases hend with hend | ⟨hkt, hkn, ht46⟩
        all_goals
          go_wp2_with fail
          refine (HM.out _).mono ?_
          rintro e w7 ⟨rfl, hb7⟩
          have z7_0 : w.heap.size < w7.heap.size := by have := hb7.size; (try simp at this); omega
          have cew_heap_size7_0 : w7.cell? ⟨w.heap.size, 0, none⟩ = some (.int .i64 X) := keep_cell hb7 (by first | assumption | (go_simp; done) | (simp; done) | simp [*])
          have zew_heap_size7 : w.heap.size < w7.heap.size := block_lt_of_cell cew_heap_size7_0
          have cew_heap_size7_1 : w7.cell? ⟨w.heap.size, 1, none⟩ = some (.int .i64 Y) := keep_cell hb7 (by first | assumption | (go_simp; done) | (simp; done) | simp [*])
          have B7 : Below w.heap.size w w7 := bl_call (by repeat (first | exact Below.refl _ _ | exact Nat.le_refl _ | refine Below.alloc ?_ ?_ _ | refine Below.setCell ?_ ?_ _ | refine Below.drew ?_ | refine bl_drewN ?_ _ | (assumption) | refine bl_call ?_ (by assumption) ?_ | omega | (simp <;> omega))) hb7 (by first | assumption | (simp; done) | (simp; omega) | omega)
          clear hb7
          have hsz_7 := B7.size
          go_wp2_with fail
          refine (HS.out _).mono ?_
          rintro e w8 ⟨rfl, hb8⟩
          have z8_0 : w.heap.size < w8.heap.size := by have := hb8.size; (try simp at this); omega
          have cew_heap_size8_0 : w8.cell? ⟨w.heap.size, 0, none⟩ = some (.int .i64 X) := keep_cell hb8 (by first | assumption | (go_simp; done) | (simp; done) | simp [*])
          have zew_heap_size8 : w.heap.size < w8.heap.size := block_lt_of_cell cew_heap_size8_0
          have cew_heap_size8_1 : w8.cell? ⟨w.heap.size, 1, none⟩ = some (.int .i64 Y) := keep_cell hb8 (by first | assumption | (go_simp; done) | (simp; done) | simp [*])
          have B8 : Below w.heap.size w w8 := bl_call (by repeat (first | exact Below.refl _ _ | exact Nat.le_refl _ | refine Below.alloc ?_ ?_ _ | refine Below.setCell ?_ ?_ _ | refine Below.drew ?_ | refine bl_drewN ?_ _ | (assumption) | refine bl_call ?_ (by assumption) ?_ | omega | (simp <;> omega))) hb8 (by first | assumption | (simp; done) | (simp; omega) | omega)
          clear hb8
          have hsz_8 := B8.size
          go_wp2_with fail
          refine (awake_any _).mono ?_
          rintro e w9 ⟨rfl, hb9⟩
          have z9_0 : w.heap.size < w9.heap.size := by have := hb9.size; (try simp at this); omega
          have cew_heap_size9_0 : w9.cell? ⟨w.heap.size, 0, none⟩ = some (.int .i64 X) := keep_cell hb9 (by first | assumption | (go_simp; done) | (simp; done) | simp [*])
          have zew_heap_size9 : w.heap.size < w9.heap.size := block_lt_of_cell cew_heap_size9_0
          have cew_heap_size9_1 : w9.cell? ⟨w.heap.size, 1, none⟩ = some (.int .i64 Y) := keep_cell hb9 (by first | assumption | (go_simp; done) | (simp; done) | simp [*])
          have B9 : Below w.heap.size w w9 := bl_call (by repeat (first | exact Below.refl _ _ | exact Nat.le_refl _ | refine Below.alloc ?_ ?_ _ | refine Below.setCell ?_ ?_ _ | refine Below.drew ?_ | refine bl_drewN ?_ _ | (assumption) | refine bl_call ?_ (by assumption) ?_ | omega | (simp <;> omega))) hb9 (by first | assumption | (simp; done) | (simp; omega) | omega)
          clear hb9
          have hsz_9 := B9.size
          go_wp2_with fail
          go_ret
          exact ⟨rfl, (by repeat (first | exact Below.refl _ _ | exact Nat.le_refl _ | refine Below.alloc ?_ ?_ _ | refine Below.setCell ?_ ?_ _ | refine Below.drew ?_ | refine bl_drewN ?_ _ | (assumption) | refine bl_call ?_ (by assumption) ?_ | omega | (simp <;> omega)))⟩
      · have hge := HP8.out (by rw [HC.out]; intro h; exact h48 (HCC.out.1 (Option.some.inj h)))
        have hlt := HP6.out
        have hpw1 := fun wx => refPower (((k + 39 : Nat) : Int) - 40) wx (by omega) (by omega)
        have hpw2 := fun wx => refPower (((k + 40 : Nat) : Int) - 40) wx (by omega) (by omega)
        have hpb1 := pt_bd ⟨k + 39, by omega⟩
        have hpb2 := pt_bd ⟨k + 40, by omega⟩
        rw [pw_pt, show ((k + 39 : Nat) : Int) - 40 = (k : Int) - 1 by omega] at hpw1
        rw [pw_pt, show ((k + 40 : Nat) : Int) - 40 = (k : Int) by omega] at hpw2
        dsimp only at hpb1 hpb2
        obtain ⟨⟨P1, P2⟩, e1⟩ : ∃ p, GM.pt (k + 39) = p := ⟨_, rfl⟩
        obtain ⟨⟨Q1, Q2⟩, e2⟩ : ∃ p, GM.pt (k + 40) = p := ⟨_, rfl⟩
        rw [e1] at hge hpw1 hpb1
        rw [e2] at hlt hpw2 hpb2
        dsimp only at hge hpw1 hpb1 hlt hpw2 hpb2
        have hS1 := fun wx => refSign (X - P1) (Y - P2) wx (by omega) (by omega) (by omega) (by omega)
        have hS2 := fun wx => refSign (Q1 - X) (Q2 - Y) wx (by omega) (by omega) (by omega) (by omega)
        have HM1 := Lib.hid (fun wx => refMinus X Y P1 P2 wx (by omega) (by omega) (by omega) (by omega))
        have HM2 := Lib.hid (fun wx => refMinus Q1 Q2 X Y wx (by omega) (by omega) (by omega) (by omega))
        obtain ⟨S1, eS1⟩ : ∃ S, GM.sgn (X - P1) (Y - P2) = S := ⟨_, rfl⟩
        obtain ⟨S2, eS2⟩ : ∃ S, GM.sgn (Q1 - X) (Q2 - Y) = S := ⟨_, rfl⟩
        rw [eS1] at hS1 hge
        rw [eS2] at hS2 hlt
        have HS1 := Lib.hid hS1
        have HS2 := Lib.hid hS2
        have HW1 := Lib.hid hpw1
        have HW2 := Lib.hid hpw2
        clear hS1 hS2 hpw1 hpw2 eS1 eS2 e1 e2 hpb1 hpb2
        rcases hend with hend | ⟨hkt, hkn, ht46⟩
        · skip
          go_upto_region 14 with fail
          have hbc : ((c.toNat : Int) == 48) = false := by simp; omega
          rw [hbc]
          clear hbc hit htc hc1 h48 hts
          refine with_act fun a0 ha0 => ?_
          refine wp_region_inv (by kernel_rfl) (by kernel_rfl) (fun s a' w' => ∃ v73 v74 v75 v76 v77 v78 v79 v80 v81 v82 v83 v84 v85 v86 v87 v88 v89 v90 v2 : Value, a' = putL a0 [(73, v73), (74, v74), (75, v75), (76, v76), (77, v77), (78, v78), (79, v79), (80, v80), (81, v81), (82, v82), (83, v83), (84, v84), (85, v85), (86, v86), (87, v87), (88, v88), (89, v89), (90, v90), (2, v2)] ∧ Hid ((s 0 = true → v73 = .agg #[.int .i64 X, .int .i64 Y]) ∧ (s 1 = true → v74 = .int .i64 k) ∧ (s 2 = true → v75 = .int .i64 (k - 1)) ∧ (s 3 = true → v76 = .agg #[.int .i64 P1, .int .i64 P2]) ∧ (s 4 = true → v77 = .agg #[.int .i64 (X - P1), .int .i64 (Y - P2)]) ∧ (s 5 = true → v78 = .int .i64 S1) ∧ (s 6 = true → v79 = .bool true) ∧ (s 7 = true → v80 = .bool true) ∧ (s 8 = true → v81 = .int .i64 k) ∧ (s 9 = true → v82 = .agg #[.int .i64 Q1, .int .i64 Q2]) ∧ (s 10 = true → v83 = .agg #[.int .i64 X, .int .i64 Y]) ∧ (s 11 = true → v84 = .agg #[.int .i64 (Q1 - X), .int .i64 (Q2 - Y)]) ∧ (s 12 = true → v85 = .int .i64 S2) ∧ (s 13 = true → v86 = .bool true) ∧ (s 14 = true → v87 = .bool true) ∧ (s 15 = true → v88 = .bool true) ∧ (s 16 = true → v89 = .bool true) ∧ (s 17 = true → v90 = .bool true) ∧ (s 18 = true → v2 = .bool true) ∧ True) ∧ BelX [] w6 w' ∧ True) ?x1hzero ⟨?x1hs0, ?x1hs1, ?x1hs2, ?x1hs3, ?x1hs4, ?x1hs5, ?x1hs6, ?x1hs7, ?x1hs8, ?x1hs9, ?x1hs10, ?x1hs11, ?x1hs12, ?x1hs13, ?x1hs14, ?x1hs15, ?x1hs16, ?x1hs17, ?x1hs18, trivial⟩ ?x1hdone
          case x1hzero =>
            refine ⟨a0.tmps.getD 73 undef, a0.tmps.getD 74 undef, a0.tmps.getD 75 undef, a0.tmps.getD 76 undef, a0.tmps.getD 77 undef, a0.tmps.getD 78 undef, a0.tmps.getD 79 undef, a0.tmps.getD 80 undef, a0.tmps.getD 81 undef, a0.tmps.getD 82 undef, a0.tmps.getD 83 undef, a0.tmps.getD 84 undef, a0.tmps.getD 85 undef, a0.tmps.getD 86 undef, a0.tmps.getD 87 undef, a0.tmps.getD 88 undef, a0.tmps.getD 89 undef, a0.tmps.getD 90 undef, a0.tmps.getD 2 undef, ?_, ?_, ?_, trivial⟩
            · simp only [putL, put_self]
            · exact Lib.hid ⟨fun h => (by simp at h), fun h => (by simp at h), fun h => (by simp at h), fun h => (by simp at h), fun h => (by simp at h), fun h => (by simp at h), fun h => (by simp at h), fun h => (by simp at h), fun h => (by simp at h), fun h => (by simp at h), fun h => (by simp at h), fun h => (by simp at h), fun h => (by simp at h), fun h => (by simp at h), fun h => (by simp at h), fun h => (by simp at h), fun h => (by simp at h), fun h => (by simp at h), fun h => (by simp at h), trivial⟩
            · exact BelX.start _ _
          case x1hs0 =>
            intro s a' w' hsk hdep hI K hK
            try dsimp only at hI hK
            obtain ⟨v73, v74, v75, v76, v77, v78, v79, v80, v81, v82, v83, v84, v85, v86, v87, v88, v89, v90, v2, hact, hR, hX, _⟩ := hI
            subst hact
            have HK := Lib.hid hK
            clear hK
            have kc0 : w'.cell? ⟨w.heap.size, 0, none⟩ = some (.int .i64 X) := hX.cell (by first | (simp; done) | (simp; omega)) (by first | assumption | (go_simp; done) | (simp; done))
            have kc1 : w'.cell? ⟨w.heap.size, 1, none⟩ = some (.int .i64 Y) := hX.cell (by first | (simp; done) | (simp; omega)) (by first | assumption | (go_simp; done) | (simp; done))
            clear hdep
            refine StepG.mk rfl ?_; rw [ha0]; simp only [putL, Act.put, List.setIfInBounds_toArray, List.set_cons_zero, List.set_cons_succ]
            go_wp2_with fail
            refine HK.out _ _ ?_
            refine ⟨(.agg #[.int .i64 X, .int .i64 Y]), v74, v75, v76, v77, v78, v79, v80, v81, v82, v83, v84, v85, v86, v87, v88, v89, v90, v2, (by rw [ha0]; simp only [putL, Act.put, List.setIfInBounds_toArray, List.set_cons_zero, List.set_cons_succ]), ?_, ?_, trivial⟩
            · obtain ⟨h73, h74, h75, h76, h77, h78, h79, h80, h81, h82, h83, h84, h85, h86, h87, h88, h89, h90, h2, _⟩ := hR.out
              exact Lib.hid ⟨fun _ => rfl, fun h => h74 (by simpa using h), fun h => h75 (by simpa using h), fun h => h76 (by simpa using h), fun h => h77 (by simpa using h), fun h => h78 (by simpa using h), fun h => h79 (by simpa using h), fun h => h80 (by simpa using h), fun h => h81 (by simpa using h), fun h => h82 (by simpa using h), fun h => h83 (by simpa using h), fun h => h84 (by simpa using h), fun h => h85 (by simpa using h), fun h => h86 (by simpa using h), fun h => h87 (by simpa using h), fun h => h88 (by simpa using h), fun h => h89 (by simpa using h), fun h => h90 (by simpa using h), fun h => h2 (by simpa using h), trivial⟩
            · exact hX
          case x1hs1 =>
            intro s a' w' hsk hdep hI K hK
            try dsimp only at hI hK
            obtain ⟨v73, v74, v75, v76, v77, v78, v79, v80, v81, v82, v83, v84, v85, v86, v87, v88, v89, v90, v2, hact, hR, hX, _⟩ := hI
            subst hact
            have HK := Lib.hid hK
            clear hK
            have kc0 : w'.cell? ⟨w.heap.size, 0, none⟩ = some (.int .i64 X) := hX.cell (by first | (simp; done) | (simp; omega)) (by first | assumption | (go_simp; done) | (simp; done))
            have kc1 : w'.cell? ⟨w.heap.size, 1, none⟩ = some (.int .i64 Y) := hX.cell (by first | (simp; done) | (simp; omega)) (by first | assumption | (go_simp; done) | (simp; done))
            clear hdep
            refine StepG.mk rfl ?_; rw [ha0]; simp only [putL, Act.put, List.setIfInBounds_toArray, List.set_cons_zero, List.set_cons_succ]
            go_wp2_with fail
            refine HK.out _ _ ?_
            refine ⟨v73, (.int .i64 k), v75, v76, v77, v78, v79, v80, v81, v82, v83, v84, v85, v86, v87, v88, v89, v90, v2, (by rw [ha0]; simp only [putL, Act.put, List.setIfInBounds_toArray, List.set_cons_zero, List.set_cons_succ]), ?_, ?_, trivial⟩
            · obtain ⟨h73, h74, h75, h76, h77, h78, h79, h80, h81, h82, h83, h84, h85, h86, h87, h88, h89, h90, h2, _⟩ := hR.out
              exact Lib.hid ⟨fun h => h73 (by simpa using h), fun _ => rfl, fun h => h75 (by simpa using h), fun h => h76 (by simpa using h), fun h => h77 (by simpa using h), fun h => h78 (by simpa using h), fun h => h79 (by simpa using h), fun h => h80 (by simpa using h), fun h => h81 (by simpa using h), fun h => h82 (by simpa using h), fun h => h83 (by simpa using h), fun h => h84 (by simpa using h), fun h => h85 (by simpa using h), fun h => h86 (by simpa using h), fun h => h87 (by simpa using h), fun h => h88 (by simpa using h), fun h => h89 (by simpa using h), fun h => h90 (by simpa using h), fun h => h2 (by simpa using h), trivial⟩
            · exact hX
          case x1hs2 =>
            intro s a' w' hsk hdep hI K hK
            try dsimp only at hI hK
            obtain ⟨v73, v74, v75, v76, v77, v78, v79, v80, v81, v82, v83, v84, v85, v86, v87, v88, v89, v90, v2, hact, hR, hX, _⟩ := hI
            subst hact
            have HK := Lib.hid hK
            clear hK
            have e74 : v74 = .int .i64 k := by obtain ⟨h73, h74, h75, h76, h77, h78, h79, h80, h81, h82, h83, h84, h85, h86, h87, h88, h89, h90, h2, _⟩ := hR.out; exact h74 (hdep ⟨1, .data⟩ (by simp) rfl)
            subst e74
            have kc0 : w'.cell? ⟨w.heap.size, 0, none⟩ = some (.int .i64 X) := hX.cell (by first | (simp; done) | (simp; omega)) (by first | assumption | (go_simp; done) | (simp; done))
            have kc1 : w'.cell? ⟨w.heap.size, 1, none⟩ = some (.int .i64 Y) := hX.cell (by first | (simp; done) | (simp; omega)) (by first | assumption | (go_simp; done) | (simp; done))
            clear hdep
            refine StepG.mk rfl ?_; rw [ha0]; simp only [putL, Act.put, List.setIfInBounds_toArray, List.set_cons_zero, List.set_cons_succ]
            go_wp2_with fail
            refine HK.out _ _ ?_
            refine ⟨v73, (.int .i64 k), (.int .i64 (k - 1)), v76, v77, v78, v79, v80, v81, v82, v83, v84, v85, v86, v87, v88, v89, v90, v2, (by rw [ha0]; simp only [putL, Act.put, List.setIfInBounds_toArray, List.set_cons_zero, List.set_cons_succ]), ?_, ?_, trivial⟩
            · obtain ⟨h73, h74, h75, h76, h77, h78, h79, h80, h81, h82, h83, h84, h85, h86, h87, h88, h89, h90, h2, _⟩ := hR.out
              exact Lib.hid ⟨fun h => h73 (by simpa using h), fun _ => rfl, fun _ => rfl, fun h => h76 (by simpa using h), fun h => h77 (by simpa using h), fun h => h78 (by simpa using h), fun h => h79 (by simpa using h), fun h => h80 (by simpa using h), fun h => h81 (by simpa using h), fun h => h82 (by simpa using h), fun h => h83 (by simpa using h), fun h => h84 (by simpa using h), fun h => h85 (by simpa using h), fun h => h86 (by simpa using h), fun h => h87 (by simpa using h), fun h => h88 (by simpa using h), fun h => h89 (by simpa using h), fun h => h90 (by simpa using h), fun h => h2 (by simpa using h), trivial⟩
            · exact hX
          case x1hs3 =>
            intro s a' w' hsk hdep hI K hK
            try dsimp only at hI hK
            obtain ⟨v73, v74, v75, v76, v77, v78, v79, v80, v81, v82, v83, v84, v85, v86, v87, v88, v89, v90, v2, hact, hR, hX, _⟩ := hI
            subst hact
            have HK := Lib.hid hK
            clear hK
            have e75 : v75 = .int .i64 (k - 1) := by obtain ⟨h73, h74, h75, h76, h77, h78, h79, h80, h81, h82, h83, h84, h85, h86, h87, h88, h89, h90, h2, _⟩ := hR.out; exact h75 (hdep ⟨2, .data⟩ (by simp) rfl)
            subst e75
            have kc0 : w'.cell? ⟨w.heap.size, 0, none⟩ = some (.int .i64 X) := hX.cell (by first | (simp; done) | (simp; omega)) (by first | assumption | (go_simp; done) | (simp; done))
            have kc1 : w'.cell? ⟨w.heap.size, 1, none⟩ = some (.int .i64 Y) := hX.cell (by first | (simp; done) | (simp; omega)) (by first | assumption | (go_simp; done) | (simp; done))
            clear hdep
            refine StepG.mk rfl ?_; rw [ha0]; simp only [putL, Act.put, List.setIfInBounds_toArray, List.set_cons_zero, List.set_cons_succ]
            go_wp2_with fail
            refine ((HW1.out _)).mono ?_
            rintro e wn ⟨rfl, hb⟩
            go_wp2_with fail
            refine HK.out _ _ ?_
            refine ⟨v73, v74, (.int .i64 (k - 1)), (.agg #[.int .i64 P1, .int .i64 P2]), v77, v78, v79, v80, v81, v82, v83, v84, v85, v86, v87, v88, v89, v90, v2, (by rw [ha0]; simp only [putL, Act.put, List.setIfInBounds_toArray, List.set_cons_zero, List.set_cons_succ]), ?_, ?_, trivial⟩
            · obtain ⟨h73, h74, h75, h76, h77, h78, h79, h80, h81, h82, h83, h84, h85, h86, h87, h88, h89, h90, h2, _⟩ := hR.out
              exact Lib.hid ⟨fun h => h73 (by simpa using h), fun h => h74 (by simpa using h), fun _ => rfl, fun _ => rfl, fun h => h77 (by simpa using h), fun h => h78 (by simpa using h), fun h => h79 (by simpa using h), fun h => h80 (by simpa using h), fun h => h81 (by simpa using h), fun h => h82 (by simpa using h), fun h => h83 (by simpa using h), fun h => h84 (by simpa using h), fun h => h85 (by simpa using h), fun h => h86 (by simpa using h), fun h => h87 (by simpa using h), fun h => h88 (by simpa using h), fun h => h89 (by simpa using h), fun h => h90 (by simpa using h), fun h => h2 (by simpa using h), trivial⟩
            · exact hX.call hb
          case x1hs4 =>
            intro s a' w' hsk hdep hI K hK
            try dsimp only at hI hK
            obtain ⟨v73, v74, v75, v76, v77, v78, v79, v80, v81, v82, v83, v84, v85, v86, v87, v88, v89, v90, v2, hact, hR, hX, _⟩ := hI
            subst hact
            have HK := Lib.hid hK
            clear hK
            have e73 : v73 = .agg #[.int .i64 X, .int .i64 Y] := by obtain ⟨h73, h74, h75, h76, h77, h78, h79, h80, h81, h82, h83, h84, h85, h86, h87, h88, h89, h90, h2, _⟩ := hR.out; exact h73 (hdep ⟨0, .data⟩ (by simp) rfl)
            subst e73
            have e76 : v76 = .agg #[.int .i64 P1, .int .i64 P2] := by obtain ⟨h73, h74, h75, h76, h77, h78, h79, h80, h81, h82, h83, h84, h85, h86, h87, h88, h89, h90, h2, _⟩ := hR.out; exact h76 (hdep ⟨3, .data⟩ (by simp) rfl)
            subst e76
            have kc0 : w'.cell? ⟨w.heap.size, 0, none⟩ = some (.int .i64 X) := hX.cell (by first | (simp; done) | (simp; omega)) (by first | assumption | (go_simp; done) | (simp; done))
            have kc1 : w'.cell? ⟨w.heap.size, 1, none⟩ = some (.int .i64 Y) := hX.cell (by first | (simp; done) | (simp; omega)) (by first | assumption | (go_simp; done) | (simp; done))
            clear hdep
            refine StepG.mk rfl ?_; rw [ha0]; simp only [putL, Act.put, List.setIfInBounds_toArray, List.set_cons_zero, List.set_cons_succ]
            go_wp2_with fail
            refine ((HM1.out _)).mono ?_
            rintro e wn ⟨rfl, hb⟩
            go_wp2_with fail
            refine HK.out _ _ ?_
            refine ⟨(.agg #[.int .i64 X, .int .i64 Y]), v74, v75, (.agg #[.int .i64 P1, .int .i64 P2]), (.agg #[.int .i64 (X - P1), .int .i64 (Y - P2)]), v78, v79, v80, v81, v82, v83, v84, v85, v86, v87, v88, v89, v90, v2, (by rw [ha0]; simp only [putL, Act.put, List.setIfInBounds_toArray, List.set_cons_zero, List.set_cons_succ]), ?_, ?_, trivial⟩
            · obtain ⟨h73, h74, h75, h76, h77, h78, h79, h80, h81, h82, h83, h84, h85, h86, h87, h88, h89, h90, h2, _⟩ := hR.out
              exact Lib.hid ⟨fun _ => rfl, fun h => h74 (by simpa using h), fun h => h75 (by simpa using h), fun _ => rfl, fun _ => rfl, fun h => h78 (by simpa using h), fun h => h79 (by simpa using h), fun h => h80 (by simpa using h), fun h => h81 (by simpa using h), fun h => h82 (by simpa using h), fun h => h83 (by simpa using h), fun h => h84 (by simpa using h), fun h => h85 (by simpa using h), fun h => h86 (by simpa using h), fun h => h87 (by simpa using h), fun h => h88 (by simpa using h), fun h => h89 (by simpa using h), fun h => h90 (by simpa using h), fun h => h2 (by simpa using h), trivial⟩
            · exact hX.call hb
          case x1hs5 =>
            intro s a' w' hsk hdep hI K hK
            try dsimp only at hI hK
            obtain ⟨v73, v74, v75, v76, v77, v78, v79, v80, v81, v82, v83, v84, v85, v86, v87, v88, v89, v90, v2, hact, hR, hX, _⟩ := hI
            subst hact
            have HK := Lib.hid hK
            clear hK
            have e77 : v77 = .agg #[.int .i64 (X - P1), .int .i64 (Y - P2)] := by obtain ⟨h73, h74, h75, h76, h77, h78, h79, h80, h81, h82, h83, h84, h85, h86, h87, h88, h89, h90, h2, _⟩ := hR.out; exact h77 (hdep ⟨4, .data⟩ (by simp) rfl)
            subst e77
            have kc0 : w'.cell? ⟨w.heap.size, 0, none⟩ = some (.int .i64 X) := hX.cell (by first | (simp; done) | (simp; omega)) (by first | assumption | (go_simp; done) | (simp; done))
            have kc1 : w'.cell? ⟨w.heap.size, 1, none⟩ = some (.int .i64 Y) := hX.cell (by first | (simp; done) | (simp; omega)) (by first | assumption | (go_simp; done) | (simp; done))
            clear hdep
            refine StepG.mk rfl ?_; rw [ha0]; simp only [putL, Act.put, List.setIfInBounds_toArray, List.set_cons_zero, List.set_cons_succ]
            go_wp2_with fail
            refine ((HS1.out _)).mono ?_
            rintro e wn ⟨rfl, hb⟩
            go_wp2_with fail
            refine HK.out _ _ ?_
            refine ⟨v73, v74, v75, v76, (.agg #[.int .i64 (X - P1), .int .i64 (Y - P2)]), (.int .i64 S1), v79, v80, v81, v82, v83, v84, v85, v86, v87, v88, v89, v90, v2, (by rw [ha0]; simp only [putL, Act.put, List.setIfInBounds_toArray, List.set_cons_zero, List.set_cons_succ]), ?_, ?_, trivial⟩
            · obtain ⟨h73, h74, h75, h76, h77, h78, h79, h80, h81, h82, h83, h84, h85, h86, h87, h88, h89, h90, h2, _⟩ := hR.out
              exact Lib.hid ⟨fun h => h73 (by simpa using h), fun h => h74 (by simpa using h), fun h => h75 (by simpa using h), fun h => h76 (by simpa using h), fun _ => rfl, fun _ => rfl, fun h => h79 (by simpa using h), fun h => h80 (by simpa using h), fun h => h81 (by simpa using h), fun h => h82 (by simpa using h), fun h => h83 (by simpa using h), fun h => h84 (by simpa using h), fun h => h85 (by simpa using h), fun h => h86 (by simpa using h), fun h => h87 (by simpa using h), fun h => h88 (by simpa using h), fun h => h89 (by simpa using h), fun h => h90 (by simpa using h), fun h => h2 (by simpa using h), trivial⟩
            · exact hX.call hb
          case x1hs6 =>
            intro s a' w' hsk hdep hI K hK
            try dsimp only at hI hK
            obtain ⟨v73, v74, v75, v76, v77, v78, v79, v80, v81, v82, v83, v84, v85, v86, v87, v88, v89, v90, v2, hact, hR, hX, _⟩ := hI
            subst hact
            have HK := Lib.hid hK
            clear hK
            have e78 : v78 = .int .i64 S1 := by obtain ⟨h73, h74, h75, h76, h77, h78, h79, h80, h81, h82, h83, h84, h85, h86, h87, h88, h89, h90, h2, _⟩ := hR.out; exact h78 (hdep ⟨5, .data⟩ (by simp) rfl)
            subst e78
            have kc0 : w'.cell? ⟨w.heap.size, 0, none⟩ = some (.int .i64 X) := hX.cell (by first | (simp; done) | (simp; omega)) (by first | assumption | (go_simp; done) | (simp; done))
            have kc1 : w'.cell? ⟨w.heap.size, 1, none⟩ = some (.int .i64 Y) := hX.cell (by first | (simp; done) | (simp; omega)) (by first | assumption | (go_simp; done) | (simp; done))
            clear hdep
            refine StepG.mk rfl ?_; rw [ha0]; simp only [putL, Act.put, List.setIfInBounds_toArray, List.set_cons_zero, List.set_cons_succ]
            go_wp2_with fail
            refine HK.out _ _ ?_
            refine ⟨v73, v74, v75, v76, v77, (.int .i64 S1), (.bool true), v80, v81, v82, v83, v84, v85, v86, v87, v88, v89, v90, v2, (by rw [ha0]; simp only [putL, Act.put, List.setIfInBounds_toArray, List.set_cons_zero, List.set_cons_succ]), ?_, ?_, trivial⟩
            · obtain ⟨h73, h74, h75, h76, h77, h78, h79, h80, h81, h82, h83, h84, h85, h86, h87, h88, h89, h90, h2, _⟩ := hR.out
              exact Lib.hid ⟨fun h => h73 (by simpa using h), fun h => h74 (by simpa using h), fun h => h75 (by simpa using h), fun h => h76 (by simpa using h), fun h => h77 (by simpa using h), fun _ => rfl, fun _ => rfl, fun h => h80 (by simpa using h), fun h => h81 (by simpa using h), fun h => h82 (by simpa using h), fun h => h83 (by simpa using h), fun h => h84 (by simpa using h), fun h => h85 (by simpa using h), fun h => h86 (by simpa using h), fun h => h87 (by simpa using h), fun h => h88 (by simpa using h), fun h => h89 (by simpa using h), fun h => h90 (by simpa using h), fun h => h2 (by simpa using h), trivial⟩
            · exact hX
          case x1hs7 =>
            intro s a' w' hsk hdep hI K hK
            try dsimp only at hI hK
            obtain ⟨v73, v74, v75, v76, v77, v78, v79, v80, v81, v82, v83, v84, v85, v86, v87, v88, v89, v90, v2, hact, hR, hX, _⟩ := hI
            subst hact
            have HK := Lib.hid hK
            clear hK
            have e79 : v79 = .bool true := by obtain ⟨h73, h74, h75, h76, h77, h78, h79, h80, h81, h82, h83, h84, h85, h86, h87, h88, h89, h90, h2, _⟩ := hR.out; exact h79 (hdep ⟨6, .data⟩ (by simp) rfl)
            subst e79
            have kc0 : w'.cell? ⟨w.heap.size, 0, none⟩ = some (.int .i64 X) := hX.cell (by first | (simp; done) | (simp; omega)) (by first | assumption | (go_simp; done) | (simp; done))
            have kc1 : w'.cell? ⟨w.heap.size, 1, none⟩ = some (.int .i64 Y) := hX.cell (by first | (simp; done) | (simp; omega)) (by first | assumption | (go_simp; done) | (simp; done))
            clear hdep
            refine StepG.mk rfl ?_; rw [ha0]; simp only [putL, Act.put, List.setIfInBounds_toArray, List.set_cons_zero, List.set_cons_succ]
            go_wp2_with fail
            refine HK.out _ _ ?_
            refine ⟨v73, v74, v75, v76, v77, v78, (.bool true), (.bool true), v81, v82, v83, v84, v85, v86, v87, v88, v89, v90, v2, (by rw [ha0]; simp only [putL, Act.put, List.setIfInBounds_toArray, List.set_cons_zero, List.set_cons_succ]), ?_, ?_, trivial⟩
            · obtain ⟨h73, h74, h75, h76, h77, h78, h79, h80, h81, h82, h83, h84, h85, h86, h87, h88, h89, h90, h2, _⟩ := hR.out
              exact Lib.hid ⟨fun h => h73 (by simpa using h), fun h => h74 (by simpa using h), fun h => h75 (by simpa using h), fun h => h76 (by simpa using h), fun h => h77 (by simpa using h), fun h => h78 (by simpa using h), fun _ => rfl, fun _ => rfl, fun h => h81 (by simpa using h), fun h => h82 (by simpa using h), fun h => h83 (by simpa using h), fun h => h84 (by simpa using h), fun h => h85 (by simpa using h), fun h => h86 (by simpa using h), fun h => h87 (by simpa using h), fun h => h88 (by simpa using h), fun h => h89 (by simpa using h), fun h => h90 (by simpa using h), fun h => h2 (by simpa using h), trivial⟩
            · exact hX
          case x1hs8 =>
            intro s a' w' hsk hdep hI K hK
            try dsimp only at hI hK
            obtain ⟨v73, v74, v75, v76, v77, v78, v79, v80, v81, v82, v83, v84, v85, v86, v87, v88, v89, v90, v2, hact, hR, hX, _⟩ := hI
            subst hact
            have HK := Lib.hid hK
            clear hK
            have e80 : v80 = .bool true := by obtain ⟨h73, h74, h75, h76, h77, h78, h79, h80, h81, h82, h83, h84, h85, h86, h87, h88, h89, h90, h2, _⟩ := hR.out; exact h80 (hdep ⟨7, .guard⟩ (by simp) rfl)
            subst e80
            have kc0 : w'.cell? ⟨w.heap.size, 0, none⟩ = some (.int .i64 X) := hX.cell (by first | (simp; done) | (simp; omega)) (by first | assumption | (go_simp; done) | (simp; done))
            have kc1 : w'.cell? ⟨w.heap.size, 1, none⟩ = some (.int .i64 Y) := hX.cell (by first | (simp; done) | (simp; omega)) (by first | assumption | (go_simp; done) | (simp; done))
            clear hdep
            refine StepG.lay ?_; rw [ha0]; simp only [putL, Act.put, List.setIfInBounds_toArray, List.set_cons_zero, List.set_cons_succ]
            go_wp2_with fail
            refine HK.out _ _ ?_
            refine ⟨v73, v74, v75, v76, v77, v78, v79, (.bool true), (.int .i64 k), v82, v83, v84, v85, v86, v87, v88, v89, v90, v2, (by rw [ha0]; simp only [putL, Act.put, List.setIfInBounds_toArray, List.set_cons_zero, List.set_cons_succ]), ?_, ?_, trivial⟩
            · obtain ⟨h73, h74, h75, h76, h77, h78, h79, h80, h81, h82, h83, h84, h85, h86, h87, h88, h89, h90, h2, _⟩ := hR.out
              exact Lib.hid ⟨fun h => h73 (by simpa using h), fun h => h74 (by simpa using h), fun h => h75 (by simpa using h), fun h => h76 (by simpa using h), fun h => h77 (by simpa using h), fun h => h78 (by simpa using h), fun h => h79 (by simpa using h), fun _ => rfl, fun _ => rfl, fun h => h82 (by simpa using h), fun h => h83 (by simpa using h), fun h => h84 (by simpa using h), fun h => h85 (by simpa using h), fun h => h86 (by simpa using h), fun h => h87 (by simpa using h), fun h => h88 (by simpa using h), fun h => h89 (by simpa using h), fun h => h90 (by simpa using h), fun h => h2 (by simpa using h), trivial⟩
            · exact hX
          case x1hs9 =>
            intro s a' w' hsk hdep hI K hK
            try dsimp only at hI hK
            obtain ⟨v73, v74, v75, v76, v77, v78, v79, v80, v81, v82, v83, v84, v85, v86, v87, v88, v89, v90, v2, hact, hR, hX, _⟩ := hI
            subst hact
            have HK := Lib.hid hK
            clear hK
            have e81 : v81 = .int .i64 k := by obtain ⟨h73, h74, h75, h76, h77, h78, h79, h80, h81, h82, h83, h84, h85, h86, h87, h88, h89, h90, h2, _⟩ := hR.out; exact h81 (hdep ⟨8, .data⟩ (by simp) rfl)
            subst e81
            have e80 : v80 = .bool true := by obtain ⟨h73, h74, h75, h76, h77, h78, h79, h80, h81, h82, h83, h84, h85, h86, h87, h88, h89, h90, h2, _⟩ := hR.out; exact h80 (hdep ⟨7, .guard⟩ (by simp) rfl)
            subst e80
            have kc0 : w'.cell? ⟨w.heap.size, 0, none⟩ = some (.int .i64 X) := hX.cell (by first | (simp; done) | (simp; omega)) (by first | assumption | (go_simp; done) | (simp; done))
            have kc1 : w'.cell? ⟨w.heap.size, 1, none⟩ = some (.int .i64 Y) := hX.cell (by first | (simp; done) | (simp; omega)) (by first | assumption | (go_simp; done) | (simp; done))
            clear hdep
            refine StepG.lay ?_; rw [ha0]; simp only [putL, Act.put, List.setIfInBounds_toArray, List.set_cons_zero, List.set_cons_succ]
            go_wp2_with fail
            refine ((HW2.out _)).mono ?_
            rintro e wn ⟨rfl, hb⟩
            go_wp2_with fail
            refine HK.out _ _ ?_
            refine ⟨v73, v74, v75, v76, v77, v78, v79, (.bool true), (.int .i64 k), (.agg #[.int .i64 Q1, .int .i64 Q2]), v83, v84, v85, v86, v87, v88, v89, v90, v2, (by rw [ha0]; simp only [putL, Act.put, List.setIfInBounds_toArray, List.set_cons_zero, List.set_cons_succ]), ?_, ?_, trivial⟩
            · obtain ⟨h73, h74, h75, h76, h77, h78, h79, h80, h81, h82, h83, h84, h85, h86, h87, h88, h89, h90, h2, _⟩ := hR.out
              exact Lib.hid ⟨fun h => h73 (by simpa using h), fun h => h74 (by simpa using h), fun h => h75 (by simpa using h), fun h => h76 (by simpa using h), fun h => h77 (by simpa using h), fun h => h78 (by simpa using h), fun h => h79 (by simpa using h), fun _ => rfl, fun _ => rfl, fun _ => rfl, fun h => h83 (by simpa using h), fun h => h84 (by simpa using h), fun h => h85 (by simpa using h), fun h => h86 (by simpa using h), fun h => h87 (by simpa using h), fun h => h88 (by simpa using h), fun h => h89 (by simpa using h), fun h => h90 (by simpa using h), fun h => h2 (by simpa using h), trivial⟩
            · exact hX.call hb
          case x1hs10 =>
            intro s a' w' hsk hdep hI K hK
            try dsimp only at hI hK
            obtain ⟨v73, v74, v75, v76, v77, v78, v79, v80, v81, v82, v83, v84, v85, v86, v87, v88, v89, v90, v2, hact, hR, hX, _⟩ := hI
            subst hact
            have HK := Lib.hid hK
            clear hK
            have e80 : v80 = .bool true := by obtain ⟨h73, h74, h75, h76, h77, h78, h79, h80, h81, h82, h83, h84, h85, h86, h87, h88, h89, h90, h2, _⟩ := hR.out; exact h80 (hdep ⟨7, .guard⟩ (by simp) rfl)
            subst e80
            have kc0 : w'.cell? ⟨w.heap.size, 0, none⟩ = some (.int .i64 X) := hX.cell (by first | (simp; done) | (simp; omega)) (by first | assumption | (go_simp; done) | (simp; done))
            have kc1 : w'.cell? ⟨w.heap.size, 1, none⟩ = some (.int .i64 Y) := hX.cell (by first | (simp; done) | (simp; omega)) (by first | assumption | (go_simp; done) | (simp; done))
            clear hdep
            refine StepG.lay ?_; rw [ha0]; simp only [putL, Act.put, List.setIfInBounds_toArray, List.set_cons_zero, List.set_cons_succ]
            go_wp2_with fail
            refine HK.out _ _ ?_
            refine ⟨v73, v74, v75, v76, v77, v78, v79, (.bool true), v81, v82, (.agg #[.int .i64 X, .int .i64 Y]), v84, v85, v86, v87, v88, v89, v90, v2, (by rw [ha0]; simp only [putL, Act.put, List.setIfInBounds_toArray, List.set_cons_zero, List.set_cons_succ]), ?_, ?_, trivial⟩
            · obtain ⟨h73, h74, h75, h76, h77, h78, h79, h80, h81, h82, h83, h84, h85, h86, h87, h88, h89, h90, h2, _⟩ := hR.out
              exact Lib.hid ⟨fun h => h73 (by simpa using h), fun h => h74 (by simpa using h), fun h => h75 (by simpa using h), fun h => h76 (by simpa using h), fun h => h77 (by simpa using h), fun h => h78 (by simpa using h), fun h => h79 (by simpa using h), fun _ => rfl, fun h => h81 (by simpa using h), fun h => h82 (by simpa using h), fun _ => rfl, fun h => h84 (by simpa using h), fun h => h85 (by simpa using h), fun h => h86 (by simpa using h), fun h => h87 (by simpa using h), fun h => h88 (by simpa using h), fun h => h89 (by simpa using h), fun h => h90 (by simpa using h), fun h => h2 (by simpa using h), trivial⟩
            · exact hX
          case x1hs11 =>
            intro s a' w' hsk hdep hI K hK
            try dsimp only at hI hK
            obtain ⟨v73, v74, v75, v76, v77, v78, v79, v80, v81, v82, v83, v84, v85, v86, v87, v88, v89, v90, v2, hact, hR, hX, _⟩ := hI
            subst hact
            have HK := Lib.hid hK
            clear hK
            have e82 : v82 = .agg #[.int .i64 Q1, .int .i64 Q2] := by obtain ⟨h73, h74, h75, h76, h77, h78, h79, h80, h81, h82, h83, h84, h85, h86, h87, h88, h89, h90, h2, _⟩ := hR.out; exact h82 (hdep ⟨9, .data⟩ (by simp) rfl)
            subst e82
            have e83 : v83 = .agg #[.int .i64 X, .int .i64 Y] := by obtain ⟨h73, h74, h75, h76, h77, h78, h79, h80, h81, h82, h83, h84, h85, h86, h87, h88, h89, h90, h2, _⟩ := hR.out; exact h83 (hdep ⟨10, .data⟩ (by simp) rfl)
            subst e83
            have e80 : v80 = .bool true := by obtain ⟨h73, h74, h75, h76, h77, h78, h79, h80, h81, h82, h83, h84, h85, h86, h87, h88, h89, h90, h2, _⟩ := hR.out; exact h80 (hdep ⟨7, .guard⟩ (by simp) rfl)
            subst e80
            have kc0 : w'.cell? ⟨w.heap.size, 0, none⟩ = some (.int .i64 X) := hX.cell (by first | (simp; done) | (simp; omega)) (by first | assumption | (go_simp; done) | (simp; done))
            have kc1 : w'.cell? ⟨w.heap.size, 1, none⟩ = some (.int .i64 Y) := hX.cell (by first | (simp; done) | (simp; omega)) (by first | assumption | (go_simp; done) | (simp; done))
            clear hdep
            refine StepG.lay ?_; rw [ha0]; simp only [putL, Act.put, List.setIfInBounds_toArray, List.set_cons_zero, List.set_cons_succ]
            go_wp2_with fail
            refine ((HM2.out _)).mono ?_
            rintro e wn ⟨rfl, hb⟩
            go_wp2_with fail
            refine HK.out _ _ ?_
            refine ⟨v73, v74, v75, v76, v77, v78, v79, (.bool true), v81, (.agg #[.int .i64 Q1, .int .i64 Q2]), (.agg #[.int .i64 X, .int .i64 Y]), (.agg #[.int .i64 (Q1 - X), .int .i64 (Q2 - Y)]), v85, v86, v87, v88, v89, v90, v2, (by rw [ha0]; simp only [putL, Act.put, List.setIfInBounds_toArray, List.set_cons_zero, List.set_cons_succ]), ?_, ?_, trivial⟩
            · obtain ⟨h73, h74, h75, h76, h77, h78, h79, h80, h81, h82, h83, h84, h85, h86, h87, h88, h89, h90, h2, _⟩ := hR.out
              exact Lib.hid ⟨fun h => h73 (by simpa using h), fun h => h74 (by simpa using h), fun h => h75 (by simpa using h), fun h => h76 (by simpa using h), fun h => h77 (by simpa using h), fun h => h78 (by simpa using h), fun h => h79 (by simpa using h), fun _ => rfl, fun h => h81 (by simpa using h), fun _ => rfl, fun _ => rfl, fun _ => rfl, fun h => h85 (by simpa using h), fun h => h86 (by simpa using h), fun h => h87 (by simpa using h), fun h => h88 (by simpa using h), fun h => h89 (by simpa using h), fun h => h90 (by simpa using h), fun h => h2 (by simpa using h), trivial⟩
            · exact hX.call hb
          case x1hs12 =>
            intro s a' w' hsk hdep hI K hK
            try dsimp only at hI hK
            obtain ⟨v73, v74, v75, v76, v77, v78, v79, v80, v81, v82, v83, v84, v85, v86, v87, v88, v89, v90, v2, hact, hR, hX, _⟩ := hI
            subst hact
            have HK := Lib.hid hK
            clear hK
            have e84 : v84 = .agg #[.int .i64 (Q1 - X), .int .i64 (Q2 - Y)] := by obtain ⟨h73, h74, h75, h76, h77, h78, h79, h80, h81, h82, h83, h84, h85, h86, h87, h88, h89, h90, h2, _⟩ := hR.out; exact h84 (hdep ⟨11, .data⟩ (by simp) rfl)
            subst e84
            have e80 : v80 = .bool true := by obtain ⟨h73, h74, h75, h76, h77, h78, h79, h80, h81, h82, h83, h84, h85, h86, h87, h88, h89, h90, h2, _⟩ := hR.out; exact h80 (hdep ⟨7, .guard⟩ (by simp) rfl)
            subst e80
            have kc0 : w'.cell? ⟨w.heap.size, 0, none⟩ = some (.int .i64 X) := hX.cell (by first | (simp; done) | (simp; omega)) (by first | assumption | (go_simp; done) | (simp; done))
            have kc1 : w'.cell? ⟨w.heap.size, 1, none⟩ = some (.int .i64 Y) := hX.cell (by first | (simp; done) | (simp; omega)) (by first | assumption | (go_simp; done) | (simp; done))
            clear hdep
            refine StepG.lay ?_; rw [ha0]; simp only [putL, Act.put, List.setIfInBounds_toArray, List.set_cons_zero, List.set_cons_succ]
            go_wp2_with fail
            refine ((HS2.out _)).mono ?_
            rintro e wn ⟨rfl, hb⟩
            go_wp2_with fail
            refine HK.out _ _ ?_
            refine ⟨v73, v74, v75, v76, v77, v78, v79, (.bool true), v81, v82, v83, (.agg #[.int .i64 (Q1 - X), .int .i64 (Q2 - Y)]), (.int .i64 S2), v86, v87, v88, v89, v90, v2, (by rw [ha0]; simp only [putL, Act.put, List.setIfInBounds_toArray, List.set_cons_zero, List.set_cons_succ]), ?_, ?_, trivial⟩
            · obtain ⟨h73, h74, h75, h76, h77, h78, h79, h80, h81, h82, h83, h84, h85, h86, h87, h88, h89, h90, h2, _⟩ := hR.out
              exact Lib.hid ⟨fun h => h73 (by simpa using h), fun h => h74 (by simpa using h), fun h => h75 (by simpa using h), fun h => h76 (by simpa using h), fun h => h77 (by simpa using h), fun h => h78 (by simpa using h), fun h => h79 (by simpa using h), fun _ => rfl, fun h => h81 (by simpa using h), fun h => h82 (by simpa using h), fun h => h83 (by simpa using h), fun _ => rfl, fun _ => rfl, fun h => h86 (by simpa using h), fun h => h87 (by simpa using h), fun h => h88 (by simpa using h), fun h => h89 (by simpa using h), fun h => h90 (by simpa using h), fun h => h2 (by simpa using h), trivial⟩
            · exact hX.call hb
          case x1hs13 =>
            intro s a' w' hsk hdep hI K hK
            try dsimp only at hI hK
            obtain ⟨v73, v74, v75, v76, v77, v78, v79, v80, v81, v82, v83, v84, v85, v86, v87, v88, v89, v90, v2, hact, hR, hX, _⟩ := hI
            subst hact
            have HK := Lib.hid hK
            clear hK
            have e85 : v85 = .int .i64 S2 := by obtain ⟨h73, h74, h75, h76, h77, h78, h79, h80, h81, h82, h83, h84, h85, h86, h87, h88, h89, h90, h2, _⟩ := hR.out; exact h85 (hdep ⟨12, .data⟩ (by simp) rfl)
            subst e85
            have e80 : v80 = .bool true := by obtain ⟨h73, h74, h75, h76, h77, h78, h79, h80, h81, h82, h83, h84, h85, h86, h87, h88, h89, h90, h2, _⟩ := hR.out; exact h80 (hdep ⟨7, .guard⟩ (by simp) rfl)
            subst e80
            have kc0 : w'.cell? ⟨w.heap.size, 0, none⟩ = some (.int .i64 X) := hX.cell (by first | (simp; done) | (simp; omega)) (by first | assumption | (go_simp; done) | (simp; done))
            have kc1 : w'.cell? ⟨w.heap.size, 1, none⟩ = some (.int .i64 Y) := hX.cell (by first | (simp; done) | (simp; omega)) (by first | assumption | (go_simp; done) | (simp; done))
            clear hdep
            refine StepG.lay ?_; rw [ha0]; simp only [putL, Act.put, List.setIfInBounds_toArray, List.set_cons_zero, List.set_cons_succ]
            go_wp2_with fail
            refine HK.out _ _ ?_
            refine ⟨v73, v74, v75, v76, v77, v78, v79, (.bool true), v81, v82, v83, v84, (.int .i64 S2), (.bool true), v87, v88, v89, v90, v2, (by rw [ha0]; simp only [putL, Act.put, List.setIfInBounds_toArray, List.set_cons_zero, List.set_cons_succ]), ?_, ?_, trivial⟩
            · obtain ⟨h73, h74, h75, h76, h77, h78, h79, h80, h81, h82, h83, h84, h85, h86, h87, h88, h89, h90, h2, _⟩ := hR.out
              exact Lib.hid ⟨fun h => h73 (by simpa using h), fun h => h74 (by simpa using h), fun h => h75 (by simpa using h), fun h => h76 (by simpa using h), fun h => h77 (by simpa using h), fun h => h78 (by simpa using h), fun h => h79 (by simpa using h), fun _ => rfl, fun h => h81 (by simpa using h), fun h => h82 (by simpa using h), fun h => h83 (by simpa using h), fun h => h84 (by simpa using h), fun _ => rfl, fun _ => rfl, fun h => h87 (by simpa using h), fun h => h88 (by simpa using h), fun h => h89 (by simpa using h), fun h => h90 (by simpa using h), fun h => h2 (by simpa using h), trivial⟩
            · exact hX
          case x1hs14 =>
            intro s a' w' hsk hdep hI K hK
            try dsimp only at hI hK
            obtain ⟨v73, v74, v75, v76, v77, v78, v79, v80, v81, v82, v83, v84, v85, v86, v87, v88, v89, v90, v2, hact, hR, hX, _⟩ := hI
            subst hact
            have HK := Lib.hid hK
            clear hK
            have e80 : v80 = .bool true := by obtain ⟨h73, h74, h75, h76, h77, h78, h79, h80, h81, h82, h83, h84, h85, h86, h87, h88, h89, h90, h2, _⟩ := hR.out; exact h80 (hdep ⟨7, .data⟩ (by simp) rfl)
            subst e80
            have e86 : v86 = .bool true := by obtain ⟨h73, h74, h75, h76, h77, h78, h79, h80, h81, h82, h83, h84, h85, h86, h87, h88, h89, h90, h2, _⟩ := hR.out; exact h86 (hdep ⟨13, .data⟩ (by simp) rfl)
            subst e86
            have kc0 : w'.cell? ⟨w.heap.size, 0, none⟩ = some (.int .i64 X) := hX.cell (by first | (simp; done) | (simp; omega)) (by first | assumption | (go_simp; done) | (simp; done))
            have kc1 : w'.cell? ⟨w.heap.size, 1, none⟩ = some (.int .i64 Y) := hX.cell (by first | (simp; done) | (simp; omega)) (by first | assumption | (go_simp; done) | (simp; done))
            clear hdep
            refine StepG.mk rfl ?_; rw [ha0]; simp only [putL, Act.put, List.setIfInBounds_toArray, List.set_cons_zero, List.set_cons_succ]
            go_wp2_with fail
            refine HK.out _ _ ?_
            refine ⟨v73, v74, v75, v76, v77, v78, v79, (.bool true), v81, v82, v83, v84, v85, (.bool true), (.bool true), v88, v89, v90, v2, (by rw [ha0]; simp only [putL, Act.put, List.setIfInBounds_toArray, List.set_cons_zero, List.set_cons_succ]), ?_, ?_, trivial⟩
            · obtain ⟨h73, h74, h75, h76, h77, h78, h79, h80, h81, h82, h83, h84, h85, h86, h87, h88, h89, h90, h2, _⟩ := hR.out
              exact Lib.hid ⟨fun h => h73 (by simpa using h), fun h => h74 (by simpa using h), fun h => h75 (by simpa using h), fun h => h76 (by simpa using h), fun h => h77 (by simpa using h), fun h => h78 (by simpa using h), fun h => h79 (by simpa using h), fun _ => rfl, fun h => h81 (by simpa using h), fun h => h82 (by simpa using h), fun h => h83 (by simpa using h), fun h => h84 (by simpa using h), fun h => h85 (by simpa using h), fun _ => rfl, fun _ => rfl, fun h => h88 (by simpa using h), fun h => h89 (by simpa using h), fun h => h90 (by simpa using h), fun h => h2 (by simpa using h), trivial⟩
            · exact hX
          case x1hs15 =>
            intro s a' w' hsk hdep hI K hK
            try dsimp only at hI hK
            obtain ⟨v73, v74, v75, v76, v77, v78, v79, v80, v81, v82, v83, v84, v85, v86, v87, v88, v89, v90, v2, hact, hR, hX, _⟩ := hI
            subst hact
            have HK := Lib.hid hK
            clear hK
            have e87 : v87 = .bool true := by obtain ⟨h73, h74, h75, h76, h77, h78, h79, h80, h81, h82, h83, h84, h85, h86, h87, h88, h89, h90, h2, _⟩ := hR.out; exact h87 (hdep ⟨14, .data⟩ (by simp) rfl)
            subst e87
            have kc0 : w'.cell? ⟨w.heap.size, 0, none⟩ = some (.int .i64 X) := hX.cell (by first | (simp; done) | (simp; omega)) (by first | assumption | (go_simp; done) | (simp; done))
            have kc1 : w'.cell? ⟨w.heap.size, 1, none⟩ = some (.int .i64 Y) := hX.cell (by first | (simp; done) | (simp; omega)) (by first | assumption | (go_simp; done) | (simp; done))
            clear hdep
            refine StepG.mk rfl ?_; rw [ha0]; simp only [putL, Act.put, List.setIfInBounds_toArray, List.set_cons_zero, List.set_cons_succ]
            go_wp2_with fail
            refine HK.out _ _ ?_
            refine ⟨v73, v74, v75, v76, v77, v78, v79, v80, v81, v82, v83, v84, v85, v86, (.bool true), (.bool true), v89, v90, v2, (by rw [ha0]; simp only [putL, Act.put, List.setIfInBounds_toArray, List.set_cons_zero, List.set_cons_succ]), ?_, ?_, trivial⟩
            · obtain ⟨h73, h74, h75, h76, h77, h78, h79, h80, h81, h82, h83, h84, h85, h86, h87, h88, h89, h90, h2, _⟩ := hR.out
              exact Lib.hid ⟨fun h => h73 (by simpa using h), fun h => h74 (by simpa using h), fun h => h75 (by simpa using h), fun h => h76 (by simpa using h), fun h => h77 (by simpa using h), fun h => h78 (by simpa using h), fun h => h79 (by simpa using h), fun h => h80 (by simpa using h), fun h => h81 (by simpa using h), fun h => h82 (by simpa using h), fun h => h83 (by simpa using h), fun h => h84 (by simpa using h), fun h => h85 (by simpa using h), fun h => h86 (by simpa using h), fun _ => rfl, fun _ => rfl, fun h => h89 (by simpa using h), fun h => h90 (by simpa using h), fun h => h2 (by simpa using h), trivial⟩
            · exact hX
          case x1hs16 =>
            intro s a' w' hsk hdep hI K hK
            try dsimp only at hI hK
            obtain ⟨v73, v74, v75, v76, v77, v78, v79, v80, v81, v82, v83, v84, v85, v86, v87, v88, v89, v90, v2, hact, hR, hX, _⟩ := hI
            subst hact
            have HK := Lib.hid hK
            clear hK
            have e88 : v88 = .bool true := by obtain ⟨h73, h74, h75, h76, h77, h78, h79, h80, h81, h82, h83, h84, h85, h86, h87, h88, h89, h90, h2, _⟩ := hR.out; exact h88 (hdep ⟨15, .guard⟩ (by simp) rfl)
            subst e88
            have kc0 : w'.cell? ⟨w.heap.size, 0, none⟩ = some (.int .i64 X) := hX.cell (by first | (simp; done) | (simp; omega)) (by first | assumption | (go_simp; done) | (simp; done))
            have kc1 : w'.cell? ⟨w.heap.size, 1, none⟩ = some (.int .i64 Y) := hX.cell (by first | (simp; done) | (simp; omega)) (by first | assumption | (go_simp; done) | (simp; done))
            clear hdep
            refine StepG.lay ?_; rw [ha0]; simp only [putL, Act.put, List.setIfInBounds_toArray, List.set_cons_zero, List.set_cons_succ]
            go_wp2_with fail
            refine ((awake_any _)).mono ?_
            rintro e wn ⟨rfl, hb⟩
            go_wp2_with fail
            refine HK.out _ _ ?_
            refine ⟨v73, v74, v75, v76, v77, v78, v79, v80, v81, v82, v83, v84, v85, v86, v87, (.bool true), (.bool true), v90, v2, (by rw [ha0]; simp only [putL, Act.put, List.setIfInBounds_toArray, List.set_cons_zero, List.set_cons_succ]), ?_, ?_, trivial⟩
            · obtain ⟨h73, h74, h75, h76, h77, h78, h79, h80, h81, h82, h83, h84, h85, h86, h87, h88, h89, h90, h2, _⟩ := hR.out
              exact Lib.hid ⟨fun h => h73 (by simpa using h), fun h => h74 (by simpa using h), fun h => h75 (by simpa using h), fun h => h76 (by simpa using h), fun h => h77 (by simpa using h), fun h => h78 (by simpa using h), fun h => h79 (by simpa using h), fun h => h80 (by simpa using h), fun h => h81 (by simpa using h), fun h => h82 (by simpa using h), fun h => h83 (by simpa using h), fun h => h84 (by simpa using h), fun h => h85 (by simpa using h), fun h => h86 (by simpa using h), fun h => h87 (by simpa using h), fun _ => rfl, fun _ => rfl, fun h => h90 (by simpa using h), fun h => h2 (by simpa using h), trivial⟩
            · exact hX.call hb
          case x1hs17 =>
            intro s a' w' hsk hdep hI K hK
            try dsimp only at hI hK
            obtain ⟨v73, v74, v75, v76, v77, v78, v79, v80, v81, v82, v83, v84, v85, v86, v87, v88, v89, v90, v2, hact, hR, hX, _⟩ := hI
            subst hact
            have HK := Lib.hid hK
            clear hK
            have e88 : v88 = .bool true := by obtain ⟨h73, h74, h75, h76, h77, h78, h79, h80, h81, h82, h83, h84, h85, h86, h87, h88, h89, h90, h2, _⟩ := hR.out; exact h88 (hdep ⟨15, .data⟩ (by simp) rfl)
            subst e88
            have e89 : v89 = .bool true := by obtain ⟨h73, h74, h75, h76, h77, h78, h79, h80, h81, h82, h83, h84, h85, h86, h87, h88, h89, h90, h2, _⟩ := hR.out; exact h89 (hdep ⟨16, .data⟩ (by simp) rfl)
            subst e89
            have kc0 : w'.cell? ⟨w.heap.size, 0, none⟩ = some (.int .i64 X) := hX.cell (by first | (simp; done) | (simp; omega)) (by first | assumption | (go_simp; done) | (simp; done))
            have kc1 : w'.cell? ⟨w.heap.size, 1, none⟩ = some (.int .i64 Y) := hX.cell (by first | (simp; done) | (simp; omega)) (by first | assumption | (go_simp; done) | (simp; done))
            clear hdep
            refine StepG.mk rfl ?_; rw [ha0]; simp only [putL, Act.put, List.setIfInBounds_toArray, List.set_cons_zero, List.set_cons_succ]
            go_wp2_with fail
            refine HK.out _ _ ?_
            refine ⟨v73, v74, v75, v76, v77, v78, v79, v80, v81, v82, v83, v84, v85, v86, v87, (.bool true), (.bool true), (.bool true), v2, (by rw [ha0]; simp only [putL, Act.put, List.setIfInBounds_toArray, List.set_cons_zero, List.set_cons_succ]), ?_, ?_, trivial⟩
            · obtain ⟨h73, h74, h75, h76, h77, h78, h79, h80, h81, h82, h83, h84, h85, h86, h87, h88, h89, h90, h2, _⟩ := hR.out
              exact Lib.hid ⟨fun h => h73 (by simpa using h), fun h => h74 (by simpa using h), fun h => h75 (by simpa using h), fun h => h76 (by simpa using h), fun h => h77 (by simpa using h), fun h => h78 (by simpa using h), fun h => h79 (by simpa using h), fun h => h80 (by simpa using h), fun h => h81 (by simpa using h), fun h => h82 (by simpa using h), fun h => h83 (by simpa using h), fun h => h84 (by simpa using h), fun h => h85 (by simpa using h), fun h => h86 (by simpa using h), fun h => h87 (by simpa using h), fun _ => rfl, fun _ => rfl, fun _ => rfl, fun h => h2 (by simpa using h), trivial⟩
            · exact hX
          case x1hs18 =>
            intro s a' w' hsk hdep hI K hK
            try dsimp only at hI hK
            obtain ⟨v73, v74, v75, v76, v77, v78, v79, v80, v81, v82, v83, v84, v85, v86, v87, v88, v89, v90, v2, hact, hR, hX, _⟩ := hI
            subst hact
            have HK := Lib.hid hK
            clear hK
            have e90 : v90 = .bool true := by obtain ⟨h73, h74, h75, h76, h77, h78, h79, h80, h81, h82, h83, h84, h85, h86, h87, h88, h89, h90, h2, _⟩ := hR.out; exact h90 (hdep ⟨17, .data⟩ (by simp) rfl)
            subst e90
            have kc0 : w'.cell? ⟨w.heap.size, 0, none⟩ = some (.int .i64 X) := hX.cell (by first | (simp; done) | (simp; omega)) (by first | assumption | (go_simp; done) | (simp; done))
            have kc1 : w'.cell? ⟨w.heap.size, 1, none⟩ = some (.int .i64 Y) := hX.cell (by first | (simp; done) | (simp; omega)) (by first | assumption | (go_simp; done) | (simp; done))
            clear hdep
            refine StepG.mk rfl ?_; rw [ha0]; simp only [putL, Act.put, List.setIfInBounds_toArray, List.set_cons_zero, List.set_cons_succ]
            go_wp2_with fail
            refine HK.out _ _ ?_
            refine ⟨v73, v74, v75, v76, v77, v78, v79, v80, v81, v82, v83, v84, v85, v86, v87, v88, v89, (.bool true), (.bool true), (by rw [ha0]; simp only [putL, Act.put, List.setIfInBounds_toArray, List.set_cons_zero, List.set_cons_succ]), ?_, ?_, trivial⟩
            · obtain ⟨h73, h74, h75, h76, h77, h78, h79, h80, h81, h82, h83, h84, h85, h86, h87, h88, h89, h90, h2, _⟩ := hR.out
              exact Lib.hid ⟨fun h => h73 (by simpa using h), fun h => h74 (by simpa using h), fun h => h75 (by simpa using h), fun h => h76 (by simpa using h), fun h => h77 (by simpa using h), fun h => h78 (by simpa using h), fun h => h79 (by simpa using h), fun h => h80 (by simpa using h), fun h => h81 (by simpa using h), fun h => h82 (by simpa using h), fun h => h83 (by simpa using h), fun h => h84 (by simpa using h), fun h => h85 (by simpa using h), fun h => h86 (by simpa using h), fun h => h87 (by simpa using h), fun h => h88 (by simpa using h), fun h => h89 (by simpa using h), fun _ => rfl, fun _ => rfl, trivial⟩
            · exact hX
          intro s a' w7 hall hI
          try dsimp only at hI
          obtain ⟨v73, v74, v75, v76, v77, v78, v79, v80, v81, v82, v83, v84, v85, v86, v87, v88, v89, v90, v2, hact, hR, hXR, _⟩ := hI
          subst hact
          obtain ⟨h73, h74, h75, h76, h77, h78, h79, h80, h81, h82, h83, h84, h85, h86, h87, h88, h89, h90, h2, _⟩ := hR.out
          clear hR
          have e73 := h73 (hall 0 (by decide))
          subst e73
          clear h73
          have e74 := h74 (hall 1 (by decide))
          subst e74
          clear h74
          have e75 := h75 (hall 2 (by decide))
          subst e75
          clear h75
          have e76 := h76 (hall 3 (by decide))
          subst e76
          clear h76
          have e77 := h77 (hall 4 (by decide))
          subst e77
          clear h77
          have e78 := h78 (hall 5 (by decide))
          subst e78
          clear h78
          have e79 := h79 (hall 6 (by decide))
          subst e79
          clear h79
          have e80 := h80 (hall 7 (by decide))
          subst e80
          clear h80
          have e81 := h81 (hall 8 (by decide))
          subst e81
          clear h81
          have e82 := h82 (hall 9 (by decide))
          subst e82
          clear h82
          have e83 := h83 (hall 10 (by decide))
          subst e83
          clear h83
          have e84 := h84 (hall 11 (by decide))
          subst e84
          clear h84
          have e85 := h85 (hall 12 (by decide))
          subst e85
          clear h85
          have e86 := h86 (hall 13 (by decide))
          subst e86
          clear h86
          have e87 := h87 (hall 14 (by decide))
          subst e87
          clear h87
          have e88 := h88 (hall 15 (by decide))
          subst e88
          clear h88
          have e89 := h89 (hall 16 (by decide))
          subst e89
          clear h89
          have e90 := h90 (hall 17 (by decide))
          subst e90
          clear h90
          have e2 := h2 (hall 18 (by decide))
          subst e2
          clear h2
          clear hall
          rw [ha0]; simp only [putL, Act.put, List.setIfInBounds_toArray, List.set_cons_zero, List.set_cons_succ]
          clear ha0
          have B7 : Below w.heap.size w w7 := hXR.below (by first | assumption | exact (by repeat (first | exact Below.refl _ _ | exact Nat.le_refl _ | refine Below.alloc ?_ ?_ _ | refine Below.setCell ?_ ?_ _ | refine Below.drew ?_ | refine bl_drewN ?_ _ | (assumption) | refine bl_call ?_ (by assumption) ?_ | omega | (simp <;> omega)))) (by first | omega | (simp <;> omega)) (by simp <;> omega)
          have cew_heap_size7_0 : w7.cell? ⟨w.heap.size, 0, none⟩ = some (.int .i64 X) := hXR.cell (by first | (simp; done) | (simp; omega)) (by first | assumption | (go_simp; done) | (simp; done))
          have cew_heap_size7_1 : w7.cell? ⟨w.heap.size, 1, none⟩ = some (.int .i64 Y) := hXR.cell (by first | (simp; done) | (simp; omega)) (by first | assumption | (go_simp; done) | (simp; done))
          have zew_heap_size7 : w.heap.size < w7.heap.size := block_lt_of_cell cew_heap_size7_0
          have hsz_7 := B7.size
          clear hXR
          go_wp2_with fail
          go_ret
          exact ⟨rfl, (by repeat (first | exact Below.refl _ _ | exact Nat.le_refl _ | refine Below.alloc ?_ ?_ _ | refine Below.setCell ?_ ?_ _ | refine Below.drew ?_ | refine bl_drewN ?_ _ | (assumption) | refine bl_call ?_ (by assumption) ?_ | omega | (simp <;> omega)))⟩
        · skip
          go_upto_region 14 with fail
          have hbc : ((c.toNat : Int) == 48) = false := by simp; omega
          rw [hbc]
          clear hbc hit htc hc1 h48 hts
          refine with_act fun a0 ha0 => ?_
          refine wp_region_inv (by kernel_rfl) (by kernel_rfl) (fun s a' w' => ∃ v73 v74 v75 v76 v77 v78 v79 v80 v81 v82 v83 v84 v85 v86 v87 v88 v89 v90 v2 : Value, a' = putL a0 [(73, v73), (74, v74), (75, v75), (76, v76), (77, v77), (78, v78), (79, v79), (80, v80), (81, v81), (82, v82), (83, v83), (84, v84), (85, v85), (86, v86), (87, v87), (88, v88), (89, v89), (90, v90), (2, v2)] ∧ Hid ((s 0 = true → v73 = .agg #[.int .i64 X, .int .i64 Y]) ∧ (s 1 = true → v74 = .int .i64 k) ∧ (s 2 = true → v75 = .int .i64 (k - 1)) ∧ (s 3 = true → v76 = .agg #[.int .i64 P1, .int .i64 P2]) ∧ (s 4 = true → v77 = .agg #[.int .i64 (X - P1), .int .i64 (Y - P2)]) ∧ (s 5 = true → v78 = .int .i64 S1) ∧ (s 6 = true → v79 = .bool true) ∧ (s 7 = true → v80 = .bool true) ∧ (s 8 = true → v81 = .int .i64 k) ∧ (s 9 = true → v82 = .agg #[.int .i64 Q1, .int .i64 Q2]) ∧ (s 10 = true → v83 = .agg #[.int .i64 X, .int .i64 Y]) ∧ (s 11 = true → v84 = .agg #[.int .i64 (Q1 - X), .int .i64 (Q2 - Y)]) ∧ (s 12 = true → v85 = .int .i64 S2) ∧ (s 13 = true → v86 = .bool true) ∧ (s 14 = true → v87 = .bool true) ∧ (s 15 = true → v88 = .bool true) ∧ (s 16 = true → v89 = .bool true) ∧ (s 17 = true → v90 = .bool true) ∧ (s 18 = true → v2 = .bool true) ∧ True) ∧ BelX [] w6 w' ∧ True) ?x2hzero ⟨?x2hs0, ?x2hs1, ?x2hs2, ?x2hs3, ?x2hs4, ?x2hs5, ?x2hs6, ?x2hs7, ?x2hs8, ?x2hs9, ?x2hs10, ?x2hs11, ?x2hs12, ?x2hs13, ?x2hs14, ?x2hs15, ?x2hs16, ?x2hs17, ?x2hs18, trivial⟩ ?x2hdone
          case x2hzero =>
            refine ⟨a0.tmps.getD 73 undef, a0.tmps.getD 74 undef, a0.tmps.getD 75 undef, a0.tmps.getD 76 undef, a0.tmps.getD 77 undef, a0.tmps.getD 78 undef, a0.tmps.getD 79 undef, a0.tmps.getD 80 undef, a0.tmps.getD 81 undef, a0.tmps.getD 82 undef, a0.tmps.getD 83 undef, a0.tmps.getD 84 undef, a0.tmps.getD 85 undef, a0.tmps.getD 86 undef, a0.tmps.getD 87 undef, a0.tmps.getD 88 undef, a0.tmps.getD 89 undef, a0.tmps.getD 90 undef, a0.tmps.getD 2 undef, ?_, ?_, ?_, trivial⟩
            · simp only [putL, put_self]
            · exact Lib.hid ⟨fun h => (by simp at h), fun h => (by simp at h), fun h => (by simp at h), fun h => (by simp at h), fun h => (by simp at h), fun h => (by simp at h), fun h => (by simp at h), fun h => (by simp at h), fun h => (by simp at h), fun h => (by simp at h), fun h => (by simp at h), fun h => (by simp at h), fun h => (by simp at h), fun h => (by simp at h), fun h => (by simp at h), fun h => (by simp at h), fun h => (by simp at h), fun h => (by simp at h), fun h => (by simp at h), trivial⟩
            · exact BelX.start _ _
          case x2hs0 =>
            intro s a' w' hsk hdep hI K hK
            try dsimp only at hI hK
            obtain ⟨v73, v74, v75, v76, v77, v78, v79, v80, v81, v82, v83, v84, v85, v86, v87, v88, v89, v90, v2, hact, hR, hX, _⟩ := hI
            subst hact
            have HK := Lib.hid hK
            clear hK
            have kc0 : w'.cell? ⟨w.heap.size, 0, none⟩ = some (.int .i64 X) := hX.cell (by first | (simp; done) | (simp; omega)) (by first | assumption | (go_simp; done) | (simp; done))
            have kc1 : w'.cell? ⟨w.heap.size, 1, none⟩ = some (.int .i64 Y) := hX.cell (by first | (simp; done) | (simp; omega)) (by first | assumption | (go_simp; done) | (simp; done))
            clear hdep
            refine StepG.mk rfl ?_; rw [ha0]; simp only [putL, Act.put, List.setIfInBounds_toArray, List.set_cons_zero, List.set_cons_succ]
            go_wp2_with fail
            refine HK.out _ _ ?_
            refine ⟨(.agg #[.int .i64 X, .int .i64 Y]), v74, v75, v76, v77, v78, v79, v80, v81, v82, v83, v84, v85, v86, v87, v88, v89, v90, v2, (by rw [ha0]; simp only [putL, Act.put, List.setIfInBounds_toArray, List.set_cons_zero, List.set_cons_succ]), ?_, ?_, trivial⟩
            · obtain ⟨h73, h74, h75, h76, h77, h78, h79, h80, h81, h82, h83, h84, h85, h86, h87, h88, h89, h90, h2, _⟩ := hR.out
              exact Lib.hid ⟨fun _ => rfl, fun h => h74 (by simpa using h), fun h => h75 (by simpa using h), fun h => h76 (by simpa using h), fun h => h77 (by simpa using h), fun h => h78 (by simpa using h), fun h => h79 (by simpa using h), fun h => h80 (by simpa using h), fun h => h81 (by simpa using h), fun h => h82 (by simpa using h), fun h => h83 (by simpa using h), fun h => h84 (by simpa using h), fun h => h85 (by simpa using h), fun h => h86 (by simpa using h), fun h => h87 (by simpa using h), fun h => h88 (by simpa using h), fun h => h89 (by simpa using h), fun h => h90 (by simpa using h), fun h => h2 (by simpa using h), trivial⟩
            · exact hX
          case x2hs1 =>
            intro s a' w' hsk hdep hI K hK
            try dsimp only at hI hK
            obtain ⟨v73, v74, v75, v76, v77, v78, v79, v80, v81, v82, v83, v84, v85, v86, v87, v88, v89, v90, v2, hact, hR, hX, _⟩ := hI
            subst hact
            have HK := Lib.hid hK
            clear hK
            have kc0 : w'.cell? ⟨w.heap.size, 0, none⟩ = some (.int .i64 X) := hX.cell (by first | (simp; done) | (simp; omega)) (by first | assumption | (go_simp; done) | (simp; done))
            have kc1 : w'.cell? ⟨w.heap.size, 1, none⟩ = some (.int .i64 Y) := hX.cell (by first | (simp; done) | (simp; omega)) (by first | assumption | (go_simp; done) | (simp; done))
            clear hdep
            refine StepG.mk rfl ?_; rw [ha0]; simp only [putL, Act.put, List.setIfInBounds_toArray, List.set_cons_zero, List.set_cons_succ]
            go_wp2_with fail
            refine HK.out _ _ ?_
            refine ⟨v73, (.int .i64 k), v75, v76, v77, v78, v79, v80, v81, v82, v83, v84, v85, v86, v87, v88, v89, v90, v2, (by rw [ha0]; simp only [putL, Act.put, List.setIfInBounds_toArray, List.set_cons_zero, List.set_cons_succ]), ?_, ?_, trivial⟩
            · obtain ⟨h73, h74, h75, h76, h77, h78, h79, h80, h81, h82, h83, h84, h85, h86, h87, h88, h89, h90, h2, _⟩ := hR.out
              exact Lib.hid ⟨fun h => h73 (by simpa using h), fun _ => rfl, fun h => h75 (by simpa using h), fun h => h76 (by simpa using h), fun h => h77 (by simpa using h), fun h => h78 (by simpa using h), fun h => h79 (by simpa using h), fun h => h80 (by simpa using h), fun h => h81 (by simpa using h), fun h => h82 (by simpa using h), fun h => h83 (by simpa using h), fun h => h84 (by simpa using h), fun h => h85 (by simpa using h), fun h => h86 (by simpa using h), fun h => h87 (by simpa using h), fun h => h88 (by simpa using h), fun h => h89 (by simpa using h), fun h => h90 (by simpa using h), fun h => h2 (by simpa using h), trivial⟩
            · exact hX
          case x2hs2 =>
            intro s a' w' hsk hdep hI K hK
            try dsimp only at hI hK
            obtain ⟨v73, v74, v75, v76, v77, v78, v79, v80, v81, v82, v83, v84, v85, v86, v87, v88, v89, v90, v2, hact, hR, hX, _⟩ := hI
            subst hact
            have HK := Lib.hid hK
            clear hK
            have e74 : v74 = .int .i64 k := by obtain ⟨h73, h74, h75, h76, h77, h78, h79, h80, h81, h82, h83, h84, h85, h86, h87, h88, h89, h90, h2, _⟩ := hR.out; exact h74 (hdep ⟨1, .data⟩ (by simp) rfl)
            subst e74
            have kc0 : w'.cell? ⟨w.heap.size, 0, none⟩ = some (.int .i64 X) := hX.cell (by first | (simp; done) | (simp; omega)) (by first | assumption | (go_simp; done) | (simp; done))
            have kc1 : w'.cell? ⟨w.heap.size, 1, none⟩ = some (.int .i64 Y) := hX.cell (by first | (simp; done) | (simp; omega)) (by first | assumption | (go_simp; done) | (simp; done))
            clear hdep
            refine StepG.mk rfl ?_; rw [ha0]; simp only [putL, Act.put, List.setIfInBounds_toArray, List.set_cons_zero, List.set_cons_succ]
            go_wp2_with fail
            refine HK.out _ _ ?_
            refine ⟨v73, (.int .i64 k), (.int .i64 (k - 1)), v76, v77, v78, v79, v80, v81, v82, v83, v84, v85, v86, v87, v88, v89, v90, v2, (by rw [ha0]; simp only [putL, Act.put, List.setIfInBounds_toArray, List.set_cons_zero, List.set_cons_succ]), ?_, ?_, trivial⟩
            · obtain ⟨h73, h74, h75, h76, h77, h78, h79, h80, h81, h82, h83, h84, h85, h86, h87, h88, h89, h90, h2, _⟩ := hR.out
              exact Lib.hid ⟨fun h => h73 (by simpa using h), fun _ => rfl, fun _ => rfl, fun h => h76 (by simpa using h), fun h => h77 (by simpa using h), fun h => h78 (by simpa using h), fun h => h79 (by simpa using h), fun h => h80 (by simpa using h), fun h => h81 (by simpa using h), fun h => h82 (by simpa using h), fun h => h83 (by simpa using h), fun h => h84 (by simpa using h), fun h => h85 (by simpa using h), fun h => h86 (by simpa using h), fun h => h87 (by simpa using h), fun h => h88 (by simpa using h), fun h => h89 (by simpa using h), fun h => h90 (by simpa using h), fun h => h2 (by simpa using h), trivial⟩
            · exact hX
          case x2hs3 =>
            intro s a' w' hsk hdep hI K hK
            try dsimp only at hI hK
            obtain ⟨v73, v74, v75, v76, v77, v78, v79, v80, v81, v82, v83, v84, v85, v86, v87, v88, v89, v90, v2, hact, hR, hX, _⟩ := hI
            subst hact
            have HK := Lib.hid hK
            clear hK
            have e75 : v75 = .int .i64 (k - 1) := by obtain ⟨h73, h74, h75, h76, h77, h78, h79, h80, h81, h82, h83, h84, h85, h86, h87, h88, h89, h90, h2, _⟩ := hR.out; exact h75 (hdep ⟨2, .data⟩ (by simp) rfl)
            subst e75
            have kc0 : w'.cell? ⟨w.heap.size, 0, none⟩ = some (.int .i64 X) := hX.cell (by first | (simp; done) | (simp; omega)) (by first | assumption | (go_simp; done) | (simp; done))
            have kc1 : w'.cell? ⟨w.heap.size, 1, none⟩ = some (.int .i64 Y) := hX.cell (by first | (simp; done) | (simp; omega)) (by first | assumption | (go_simp; done) | (simp; done))
            clear hdep
            refine StepG.mk rfl ?_; rw [ha0]; simp only [putL, Act.put, List.setIfInBounds_toArray, List.set_cons_zero, List.set_cons_succ]
            go_wp2_with fail
            refine ((HW1.out _)).mono ?_
            rintro e wn ⟨rfl, hb⟩
            go_wp2_with fail
            refine HK.out _ _ ?_
            refine ⟨v73, v74, (.int .i64 (k - 1)), (.agg #[.int .i64 P1, .int .i64 P2]), v77, v78, v79, v80, v81, v82, v83, v84, v85, v86, v87, v88, v89, v90, v2, (by rw [ha0]; simp only [putL, Act.put, List.setIfInBounds_toArray, List.set_cons_zero, List.set_cons_succ]), ?_, ?_, trivial⟩
            · obtain ⟨h73, h74, h75, h76, h77, h78, h79, h80, h81, h82, h83, h84, h85, h86, h87, h88, h89, h90, h2, _⟩ := hR.out
              exact Lib.hid ⟨fun h => h73 (by simpa using h), fun h => h74 (by simpa using h), fun _ => rfl, fun _ => rfl, fun h => h77 (by simpa using h), fun h => h78 (by simpa using h), fun h => h79 (by simpa using h), fun h => h80 (by simpa using h), fun h => h81 (by simpa using h), fun h => h82 (by simpa using h), fun h => h83 (by simpa using h), fun h => h84 (by simpa using h), fun h => h85 (by simpa using h), fun h => h86 (by simpa using h), fun h => h87 (by simpa using h), fun h => h88 (by simpa using h), fun h => h89 (by simpa using h), fun h => h90 (by simpa using h), fun h => h2 (by simpa using h), trivial⟩
            · exact hX.call hb
          case x2hs4 =>
            intro s a' w' hsk hdep hI K hK
            try dsimp only at hI hK
            obtain ⟨v73, v74, v75, v76, v77, v78, v79, v80, v81, v82, v83, v84, v85, v86, v87, v88, v89, v90, v2, hact, hR, hX, _⟩ := hI
            subst hact
            have HK := Lib.hid hK
            clear hK
            have e73 : v73 = .agg #[.int .i64 X, .int .i64 Y] := by obtain ⟨h73, h74, h75, h76, h77, h78, h79, h80, h81, h82, h83, h84, h85, h86, h87, h88, h89, h90, h2, _⟩ := hR.out; exact h73 (hdep ⟨0, .data⟩ (by simp) rfl)
            subst e73
            have e76 : v76 = .agg #[.int .i64 P1, .int .i64 P2] := by obtain ⟨h73, h74, h75, h76, h77, h78, h79, h80, h81, h82, h83, h84, h85, h86, h87, h88, h89, h90, h2, _⟩ := hR.out; exact h76 (hdep ⟨3, .data⟩ (by simp) rfl)
            subst e76
            have kc0 : w'.cell? ⟨w.heap.size, 0, none⟩ = some (.int .i64 X) := hX.cell (by first | (simp; done) | (simp; omega)) (by first | assumption | (go_simp; done) | (simp; done))
            have kc1 : w'.cell? ⟨w.heap.size, 1, none⟩ = some (.int .i64 Y) := hX.cell (by first | (simp; done) | (simp; omega)) (by first | assumption | (go_simp; done) | (simp; done))
            clear hdep
            refine StepG.mk rfl ?_; rw [ha0]; simp only [putL, Act.put, List.setIfInBounds_toArray, List.set_cons_zero, List.set_cons_succ]
            go_wp2_with fail
            refine ((HM1.out _)).mono ?_
            rintro e wn ⟨rfl, hb⟩
            go_wp2_with fail
            refine HK.out _ _ ?_
            refine ⟨(.agg #[.int .i64 X, .int .i64 Y]), v74, v75, (.agg #[.int .i64 P1, .int .i64 P2]), (.agg #[.int .i64 (X - P1), .int .i64 (Y - P2)]), v78, v79, v80, v81, v82, v83, v84, v85, v86, v87, v88, v89, v90, v2, (by rw [ha0]; simp only [putL, Act.put, List.setIfInBounds_toArray, List.set_cons_zero, List.set_cons_succ]), ?_, ?_, trivial⟩
            · obtain ⟨h73, h74, h75, h76, h77, h78, h79, h80, h81, h82, h83, h84, h85, h86, h87, h88, h89, h90, h2, _⟩ := hR.out
              exact Lib.hid ⟨fun _ => rfl, fun h => h74 (by simpa using h), fun h => h75 (by simpa using h), fun _ => rfl, fun _ => rfl, fun h => h78 (by simpa using h), fun h => h79 (by simpa using h), fun h => h80 (by simpa using h), fun h => h81 (by simpa using h), fun h => h82 (by simpa using h), fun h => h83 (by simpa using h), fun h => h84 (by simpa using h), fun h => h85 (by simpa using h), fun h => h86 (by simpa using h), fun h => h87 (by simpa using h), fun h => h88 (by simpa using h), fun h => h89 (by simpa using h), fun h => h90 (by simpa using h), fun h => h2 (by simpa using h), trivial⟩
            · exact hX.call hb
          case x2hs5 =>
            intro s a' w' hsk hdep hI K hK
            try dsimp only at hI hK
            obtain ⟨v73, v74, v75, v76, v77, v78, v79, v80, v81, v82, v83, v84, v85, v86, v87, v88, v89, v90, v2, hact, hR, hX, _⟩ := hI
            subst hact
            have HK := Lib.hid hK
            clear hK
            have e77 : v77 = .agg #[.int .i64 (X - P1), .int .i64 (Y - P2)] := by obtain ⟨h73, h74, h75, h76, h77, h78, h79, h80, h81, h82, h83, h84, h85, h86, h87, h88, h89, h90, h2, _⟩ := hR.out; exact h77 (hdep ⟨4, .data⟩ (by simp) rfl)
            subst e77
            have kc0 : w'.cell? ⟨w.heap.size, 0, none⟩ = some (.int .i64 X) := hX.cell (by first | (simp; done) | (simp; omega)) (by first | assumption | (go_simp; done) | (simp; done))
            have kc1 : w'.cell? ⟨w.heap.size, 1, none⟩ = some (.int .i64 Y) := hX.cell (by first | (simp; done) | (simp; omega)) (by first | assumption | (go_simp; done) | (simp; done))
            clear hdep
            refine StepG.mk rfl ?_; rw [ha0]; simp only [putL, Act.put, List.setIfInBounds_toArray, List.set_cons_zero, List.set_cons_succ]
            go_wp2_with fail
            refine ((HS1.out _)).mono ?_
            rintro e wn ⟨rfl, hb⟩
            go_wp2_with fail
            refine HK.out _ _ ?_
            refine ⟨v73, v74, v75, v76, (.agg #[.int .i64 (X - P1), .int .i64 (Y - P2)]), (.int .i64 S1), v79, v80, v81, v82, v83, v84, v85, v86, v87, v88, v89, v90, v2, (by rw [ha0]; simp only [putL, Act.put, List.setIfInBounds_toArray, List.set_cons_zero, List.set_cons_succ]), ?_, ?_, trivial⟩
            · obtain ⟨h73, h74, h75, h76, h77, h78, h79, h80, h81, h82, h83, h84, h85, h86, h87, h88, h89, h90, h2, _⟩ := hR.out
              exact Lib.hid ⟨fun h => h73 (by simpa using h), fun h => h74 (by simpa using h), fun h => h75 (by simpa using h), fun h => h76 (by simpa using h), fun _ => rfl, fun _ => rfl, fun h => h79 (by simpa using h), fun h => h80 (by simpa using h), fun h => h81 (by simpa using h), fun h => h82 (by simpa using h), fun h => h83 (by simpa using h), fun h => h84 (by simpa using h), fun h => h85 (by simpa using h), fun h => h86 (by simpa using h), fun h => h87 (by simpa using h), fun h => h88 (by simpa using h), fun h => h89 (by simpa using h), fun h => h90 (by simpa using h), fun h => h2 (by simpa using h), trivial⟩
            · exact hX.call hb
          case x2hs6 =>
            intro s a' w' hsk hdep hI K hK
            try dsimp only at hI hK
            obtain ⟨v73, v74, v75, v76, v77, v78, v79, v80, v81, v82, v83, v84, v85, v86, v87, v88, v89, v90, v2, hact, hR, hX, _⟩ := hI
            subst hact
            have HK := Lib.hid hK
            clear hK
            have e78 : v78 = .int .i64 S1 := by obtain ⟨h73, h74, h75, h76, h77, h78, h79, h80, h81, h82, h83, h84, h85, h86, h87, h88, h89, h90, h2, _⟩ := hR.out; exact h78 (hdep ⟨5, .data⟩ (by simp) rfl)
            subst e78
            have kc0 : w'.cell? ⟨w.heap.size, 0, none⟩ = some (.int .i64 X) := hX.cell (by first | (simp; done) | (simp; omega)) (by first | assumption | (go_simp; done) | (simp; done))
            have kc1 : w'.cell? ⟨w.heap.size, 1, none⟩ = some (.int .i64 Y) := hX.cell (by first | (simp; done) | (simp; omega)) (by first | assumption | (go_simp; done) | (simp; done))
            clear hdep
            refine StepG.mk rfl ?_; rw [ha0]; simp only [putL, Act.put, List.setIfInBounds_toArray, List.set_cons_zero, List.set_cons_succ]
            go_wp2_with fail
            refine HK.out _ _ ?_
            refine ⟨v73, v74, v75, v76, v77, (.int .i64 S1), (.bool true), v80, v81, v82, v83, v84, v85, v86, v87, v88, v89, v90, v2, (by rw [ha0]; simp only [putL, Act.put, List.setIfInBounds_toArray, List.set_cons_zero, List.set_cons_succ]), ?_, ?_, trivial⟩
            · obtain ⟨h73, h74, h75, h76, h77, h78, h79, h80, h81, h82, h83, h84, h85, h86, h87, h88, h89, h90, h2, _⟩ := hR.out
              exact Lib.hid ⟨fun h => h73 (by simpa using h), fun h => h74 (by simpa using h), fun h => h75 (by simpa using h), fun h => h76 (by simpa using h), fun h => h77 (by simpa using h), fun _ => rfl, fun _ => rfl, fun h => h80 (by simpa using h), fun h => h81 (by simpa using h), fun h => h82 (by simpa using h), fun h => h83 (by simpa using h), fun h => h84 (by simpa using h), fun h => h85 (by simpa using h), fun h => h86 (by simpa using h), fun h => h87 (by simpa using h), fun h => h88 (by simpa using h), fun h => h89 (by simpa using h), fun h => h90 (by simpa using h), fun h => h2 (by simpa using h), trivial⟩
            · exact hX
          case x2hs7 =>
            intro s a' w' hsk hdep hI K hK
            try dsimp only at hI hK
            obtain ⟨v73, v74, v75, v76, v77, v78, v79, v80, v81, v82, v83, v84, v85, v86, v87, v88, v89, v90, v2, hact, hR, hX, _⟩ := hI
            subst hact
            have HK := Lib.hid hK
            clear hK
            have e79 : v79 = .bool true := by obtain ⟨h73, h74, h75, h76, h77, h78, h79, h80, h81, h82, h83, h84, h85, h86, h87, h88, h89, h90, h2, _⟩ := hR.out; exact h79 (hdep ⟨6, .data⟩ (by simp) rfl)
            subst e79
            have kc0 : w'.cell? ⟨w.heap.size, 0, none⟩ = some (.int .i64 X) := hX.cell (by first | (simp; done) | (simp; omega)) (by first | assumption | (go_simp; done) | (simp; done))
            have kc1 : w'.cell? ⟨w.heap.size, 1, none⟩ = some (.int .i64 Y) := hX.cell (by first | (simp; done) | (simp; omega)) (by first | assumption | (go_simp; done) | (simp; done))
            clear hdep
            refine StepG.mk rfl ?_; rw [ha0]; simp only [putL, Act.put, List.setIfInBounds_toArray, List.set_cons_zero, List.set_cons_succ]
            go_wp2_with fail
            refine HK.out _ _ ?_
            refine ⟨v73, v74, v75, v76, v77, v78, (.bool true), (.bool true), v81, v82, v83, v84, v85, v86, v87, v88, v89, v90, v2, (by rw [ha0]; simp only [putL, Act.put, List.setIfInBounds_toArray, List.set_cons_zero, List.set_cons_succ]), ?_, ?_, trivial⟩
            · obtain ⟨h73, h74, h75, h76, h77, h78, h79, h80, h81, h82, h83, h84, h85, h86, h87, h88, h89, h90, h2, _⟩ := hR.out
              exact Lib.hid ⟨fun h => h73 (by simpa using h), fun h => h74 (by simpa using h), fun h => h75 (by simpa using h), fun h => h76 (by simpa using h), fun h => h77 (by simpa using h), fun h => h78 (by simpa using h), fun _ => rfl, fun _ => rfl, fun h => h81 (by simpa using h), fun h => h82 (by simpa using h), fun h => h83 (by simpa using h), fun h => h84 (by simpa using h), fun h => h85 (by simpa using h), fun h => h86 (by simpa using h), fun h => h87 (by simpa using h), fun h => h88 (by simpa using h), fun h => h89 (by simpa using h), fun h => h90 (by simpa using h), fun h => h2 (by simpa using h), trivial⟩
            · exact hX
          case x2hs8 =>
            intro s a' w' hsk hdep hI K hK
            try dsimp only at hI hK
            obtain ⟨v73, v74, v75, v76, v77, v78, v79, v80, v81, v82, v83, v84, v85, v86, v87, v88, v89, v90, v2, hact, hR, hX, _⟩ := hI
            subst hact
            have HK := Lib.hid hK
            clear hK
            have e80 : v80 = .bool true := by obtain ⟨h73, h74, h75, h76, h77, h78, h79, h80, h81, h82, h83, h84, h85, h86, h87, h88, h89, h90, h2, _⟩ := hR.out; exact h80 (hdep ⟨7, .guard⟩ (by simp) rfl)
            subst e80
            have kc0 : w'.cell? ⟨w.heap.size, 0, none⟩ = some (.int .i64 X) := hX.cell (by first | (simp; done) | (simp; omega)) (by first | assumption | (go_simp; done) | (simp; done))
            have kc1 : w'.cell? ⟨w.heap.size, 1, none⟩ = some (.int .i64 Y) := hX.cell (by first | (simp; done) | (simp; omega)) (by first | assumption | (go_simp; done) | (simp; done))
            clear hdep
            refine StepG.lay ?_; rw [ha0]; simp only [putL, Act.put, List.setIfInBounds_toArray, List.set_cons_zero, List.set_cons_succ]
            go_wp2_with fail
            refine HK.out _ _ ?_
            refine ⟨v73, v74, v75, v76, v77, v78, v79, (.bool true), (.int .i64 k), v82, v83, v84, v85, v86, v87, v88, v89, v90, v2, (by rw [ha0]; simp only [putL, Act.put, List.setIfInBounds_toArray, List.set_cons_zero, List.set_cons_succ]), ?_, ?_, trivial⟩
            · obtain ⟨h73, h74, h75, h76, h77, h78, h79, h80, h81, h82, h83, h84, h85, h86, h87, h88, h89, h90, h2, _⟩ := hR.out
              exact Lib.hid ⟨fun h => h73 (by simpa using h), fun h => h74 (by simpa using h), fun h => h75 (by simpa using h), fun h => h76 (by simpa using h), fun h => h77 (by simpa using h), fun h => h78 (by simpa using h), fun h => h79 (by simpa using h), fun _ => rfl, fun _ => rfl, fun h => h82 (by simpa using h), fun h => h83 (by simpa using h), fun h => h84 (by simpa using h), fun h => h85 (by simpa using h), fun h => h86 (by simpa using h), fun h => h87 (by simpa using h), fun h => h88 (by simpa using h), fun h => h89 (by simpa using h), fun h => h90 (by simpa using h), fun h => h2 (by simpa using h), trivial⟩
            · exact hX
          case x2hs9 =>
            intro s a' w' hsk hdep hI K hK
            try dsimp only at hI hK
            obtain ⟨v73, v74, v75, v76, v77, v78, v79, v80, v81, v82, v83, v84, v85, v86, v87, v88, v89, v90, v2, hact, hR, hX, _⟩ := hI
            subst hact
            have HK := Lib.hid hK
            clear hK
            have e81 : v81 = .int .i64 k := by obtain ⟨h73, h74, h75, h76, h77, h78, h79, h80, h81, h82, h83, h84, h85, h86, h87, h88, h89, h90, h2, _⟩ := hR.out; exact h81 (hdep ⟨8, .data⟩ (by simp) rfl)
            subst e81
            have e80 : v80 = .bool true := by obtain ⟨h73, h74, h75, h76, h77, h78, h79, h80, h81, h82, h83, h84, h85, h86, h87, h88, h89, h90, h2, _⟩ := hR.out; exact h80 (hdep ⟨7, .guard⟩ (by simp) rfl)
            subst e80
            have kc0 : w'.cell? ⟨w.heap.size, 0, none⟩ = some (.int .i64 X) := hX.cell (by first | (simp; done) | (simp; omega)) (by first | assumption | (go_simp; done) | (simp; done))
            have kc1 : w'.cell? ⟨w.heap.size, 1, none⟩ = some (.int .i64 Y) := hX.cell (by first | (simp; done) | (simp; omega)) (by first | assumption | (go_simp; done) | (simp; done))
            clear hdep
            refine StepG.lay ?_; rw [ha0]; simp only [putL, Act.put, List.setIfInBounds_toArray, List.set_cons_zero, List.set_cons_succ]
            go_wp2_with fail
            refine ((HW2.out _)).mono ?_
            rintro e wn ⟨rfl, hb⟩
            go_wp2_with fail
            refine HK.out _ _ ?_
            refine ⟨v73, v74, v75, v76, v77, v78, v79, (.bool true), (.int .i64 k), (.agg #[.int .i64 Q1, .int .i64 Q2]), v83, v84, v85, v86, v87, v88, v89, v90, v2, (by rw [ha0]; simp only [putL, Act.put, List.setIfInBounds_toArray, List.set_cons_zero, List.set_cons_succ]), ?_, ?_, trivial⟩
            · obtain ⟨h73, h74, h75, h76, h77, h78, h79, h80, h81, h82, h83, h84, h85, h86, h87, h88, h89, h90, h2, _⟩ := hR.out
              exact Lib.hid ⟨fun h => h73 (by simpa using h), fun h => h74 (by simpa using h), fun h => h75 (by simpa using h), fun h => h76 (by simpa using h), fun h => h77 (by simpa using h), fun h => h78 (by simpa using h), fun h => h79 (by simpa using h), fun _ => rfl, fun _ => rfl, fun _ => rfl, fun h => h83 (by simpa using h), fun h => h84 (by simpa using h), fun h => h85 (by simpa using h), fun h => h86 (by simpa using h), fun h => h87 (by simpa using h), fun h => h88 (by simpa using h), fun h => h89 (by simpa using h), fun h => h90 (by simpa using h), fun h => h2 (by simpa using h), trivial⟩
            · exact hX.call hb
          case x2hs10 =>
            intro s a' w' hsk hdep hI K hK
            try dsimp only at hI hK
            obtain ⟨v73, v74, v75, v76, v77, v78, v79, v80, v81, v82, v83, v84, v85, v86, v87, v88, v89, v90, v2, hact, hR, hX, _⟩ := hI
            subst hact
            have HK := Lib.hid hK
            clear hK
            have e80 : v80 = .bool true := by obtain ⟨h73, h74, h75, h76, h77, h78, h79, h80, h81, h82, h83, h84, h85, h86, h87, h88, h89, h90, h2, _⟩ := hR.out; exact h80 (hdep ⟨7, .guard⟩ (by simp) rfl)
            subst e80
            have kc0 : w'.cell? ⟨w.heap.size, 0, none⟩ = some (.int .i64 X) := hX.cell (by first | (simp; done) | (simp; omega)) (by first | assumption | (go_simp; done) | (simp; done))
            have kc1 : w'.cell? ⟨w.heap.size, 1, none⟩ = some (.int .i64 Y) := hX.cell (by first | (simp; done) | (simp; omega)) (by first | assumption | (go_simp; done) | (simp; done))
            clear hdep
            refine StepG.lay ?_; rw [ha0]; simp only [putL, Act.put, List.setIfInBounds_toArray, List.set_cons_zero, List.set_cons_succ]
            go_wp2_with fail
            refine HK.out _ _ ?_
            refine ⟨v73, v74, v75, v76, v77, v78, v79, (.bool true), v81, v82, (.agg #[.int .i64 X, .int .i64 Y]), v84, v85, v86, v87, v88, v89, v90, v2, (by rw [ha0]; simp only [putL, Act.put, List.setIfInBounds_toArray, List.set_cons_zero, List.set_cons_succ]), ?_, ?_, trivial⟩
            · obtain ⟨h73, h74, h75, h76, h77, h78, h79, h80, h81, h82, h83, h84, h85, h86, h87, h88, h89, h90, h2, _⟩ := hR.out
              exact Lib.hid ⟨fun h => h73 (by simpa using h), fun h => h74 (by simpa using h), fun h => h75 (by simpa using h), fun h => h76 (by simpa using h), fun h => h77 (by simpa using h), fun h => h78 (by simpa using h), fun h => h79 (by simpa using h), fun _ => rfl, fun h => h81 (by simpa using h), fun h => h82 (by simpa using h), fun _ => rfl, fun h => h84 (by simpa using h), fun h => h85 (by simpa using h), fun h => h86 (by simpa using h), fun h => h87 (by simpa using h), fun h => h88 (by simpa using h), fun h => h89 (by simpa using h), fun h => h90 (by simpa using h), fun h => h2 (by simpa using h), trivial⟩
            · exact hX
          case x2hs11 =>
            intro s a' w' hsk hdep hI K hK
            try dsimp only at hI hK
            obtain ⟨v73, v74, v75, v76, v77, v78, v79, v80, v81, v82, v83, v84, v85, v86, v87, v88, v89, v90, v2, hact, hR, hX, _⟩ := hI
            subst hact
            have HK := Lib.hid hK
            clear hK
            have e82 : v82 = .agg #[.int .i64 Q1, .int .i64 Q2] := by obtain ⟨h73, h74, h75, h76, h77, h78, h79, h80, h81, h82, h83, h84, h85, h86, h87, h88, h89, h90, h2, _⟩ := hR.out; exact h82 (hdep ⟨9, .data⟩ (by simp) rfl)
            subst e82
            have e83 : v83 = .agg #[.int .i64 X, .int .i64 Y] := by obtain ⟨h73, h74, h75, h76, h77, h78, h79, h80, h81, h82, h83, h84, h85, h86, h87, h88, h89, h90, h2, _⟩ := hR.out; exact h83 (hdep ⟨10, .data⟩ (by simp) rfl)
            subst e83
            have e80 : v80 = .bool true := by obtain ⟨h73, h74, h75, h76, h77, h78, h79, h80, h81, h82, h83, h84, h85, h86, h87, h88, h89, h90, h2, _⟩ := hR.out; exact h80 (hdep ⟨7, .guard⟩ (by simp) rfl)
            subst e80
            have kc0 : w'.cell? ⟨w.heap.size, 0, none⟩ = some (.int .i64 X) := hX.cell (by first | (simp; done) | (simp; omega)) (by first | assumption | (go_simp; done) | (simp; done))
            have kc1 : w'.cell? ⟨w.heap.size, 1, none⟩ = some (.int .i64 Y) := hX.cell (by first | (simp; done) | (simp; omega)) (by first | assumption | (go_simp; done) | (simp; done))
            clear hdep
            refine StepG.lay ?_; rw [ha0]; simp only [putL, Act.put, List.setIfInBounds_toArray, List.set_cons_zero, List.set_cons_succ]
            go_wp2_with fail
            refine ((HM2.out _)).mono ?_
            rintro e wn ⟨rfl, hb⟩
            go_wp2_with fail
            refine HK.out _ _ ?_
            refine ⟨v73, v74, v75, v76, v77, v78, v79, (.bool true), v81, (.agg #[.int .i64 Q1, .int .i64 Q2]), (.agg #[.int .i64 X, .int .i64 Y]), (.agg #[.int .i64 (Q1 - X), .int .i64 (Q2 - Y)]), v85, v86, v87, v88, v89, v90, v2, (by rw [ha0]; simp only [putL, Act.put, List.setIfInBounds_toArray, List.set_cons_zero, List.set_cons_succ]), ?_, ?_, trivial⟩
            · obtain ⟨h73, h74, h75, h76, h77, h78, h79, h80, h81, h82, h83, h84, h85, h86, h87, h88, h89, h90, h2, _⟩ := hR.out
              exact Lib.hid ⟨fun h => h73 (by simpa using h), fun h => h74 (by simpa using h), fun h => h75 (by simpa using h), fun h => h76 (by simpa using h), fun h => h77 (by simpa using h), fun h => h78 (by simpa using h), fun h => h79 (by simpa using h), fun _ => rfl, fun h => h81 (by simpa using h), fun _ => rfl, fun _ => rfl, fun _ => rfl, fun h => h85 (by simpa using h), fun h => h86 (by simpa using h), fun h => h87 (by simpa using h), fun h => h88 (by simpa using h), fun h => h89 (by simpa using h), fun h => h90 (by simpa using h), fun h => h2 (by simpa using h), trivial⟩
            · exact hX.call hb
          case x2hs12 =>
            intro s a' w' hsk hdep hI K hK
            try dsimp only at hI hK
            obtain ⟨v73, v74, v75, v76, v77, v78, v79, v80, v81, v82, v83, v84, v85, v86, v87, v88, v89, v90, v2, hact, hR, hX, _⟩ := hI
            subst hact
            have HK := Lib.hid hK
            clear hK
            have e84 : v84 = .agg #[.int .i64 (Q1 - X), .int .i64 (Q2 - Y)] := by obtain ⟨h73, h74, h75, h76, h77, h78, h79, h80, h81, h82, h83, h84, h85, h86, h87, h88, h89, h90, h2, _⟩ := hR.out; exact h84 (hdep ⟨11, .data⟩ (by simp) rfl)
            subst e84
            have e80 : v80 = .bool true := by obtain ⟨h73, h74, h75, h76, h77, h78, h79, h80, h81, h82, h83, h84, h85, h86, h87, h88, h89, h90, h2, _⟩ := hR.out; exact h80 (hdep ⟨7, .guard⟩ (by simp) rfl)
            subst e80
            have kc0 : w'.cell? ⟨w.heap.size, 0, none⟩ = some (.int .i64 X) := hX.cell (by first | (simp; done) | (simp; omega)) (by first | assumption | (go_simp; done) | (simp; done))
            have kc1 : w'.cell? ⟨w.heap.size, 1, none⟩ = some (.int .i64 Y) := hX.cell (by first | (simp; done) | (simp; omega)) (by first | assumption | (go_simp; done) | (simp; done))
            clear hdep
            refine StepG.lay ?_; rw [ha0]; simp only [putL, Act.put, List.setIfInBounds_toArray, List.set_cons_zero, List.set_cons_succ]
            go_wp2_with fail
            refine ((HS2.out _)).mono ?_
            rintro e wn ⟨rfl, hb⟩
            go_wp2_with fail
            refine HK.out _ _ ?_
            refine ⟨v73, v74, v75, v76, v77, v78, v79, (.bool true), v81, v82, v83, (.agg #[.int .i64 (Q1 - X), .int .i64 (Q2 - Y)]), (.int .i64 S2), v86, v87, v88, v89, v90, v2, (by rw [ha0]; simp only [putL, Act.put, List.setIfInBounds_toArray, List.set_cons_zero, List.set_cons_succ]), ?_, ?_, trivial⟩
            · obtain ⟨h73, h74, h75, h76, h77, h78, h79, h80, h81, h82, h83, h84, h85, h86, h87, h88, h89, h90, h2, _⟩ := hR.out
              exact Lib.hid ⟨fun h => h73 (by simpa using h), fun h => h74 (by simpa using h), fun h => h75 (by simpa using h), fun h => h76 (by simpa using h), fun h => h77 (by simpa using h), fun h => h78 (by simpa using h), fun h => h79 (by simpa using h), fun _ => rfl, fun h => h81 (by simpa using h), fun h => h82 (by simpa using h), fun h => h83 (by simpa using h), fun _ => rfl, fun _ => rfl, fun h => h86 (by simpa using h), fun h => h87 (by simpa using h), fun h => h88 (by simpa using h), fun h => h89 (by simpa using h), fun h => h90 (by simpa using h), fun h => h2 (by simpa using h), trivial⟩
            · exact hX.call hb
          case x2hs13 =>
            intro s a' w' hsk hdep hI K hK
            try dsimp only at hI hK
            obtain ⟨v73, v74, v75, v76, v77, v78, v79, v80, v81, v82, v83, v84, v85, v86, v87, v88, v89, v90, v2, hact, hR, hX, _⟩ := hI
            subst hact
            have HK := Lib.hid hK
            clear hK
            have e85 : v85 = .int .i64 S2 := by obtain ⟨h73, h74, h75, h76, h77, h78, h79, h80, h81, h82, h83, h84, h85, h86, h87, h88, h89, h90, h2, _⟩ := hR.out; exact h85 (hdep ⟨12, .data⟩ (by simp) rfl)
            subst e85
            have e80 : v80 = .bool true := by obtain ⟨h73, h74, h75, h76, h77, h78, h79, h80, h81, h82, h83, h84, h85, h86, h87, h88, h89, h90, h2, _⟩ := hR.out; exact h80 (hdep ⟨7, .guard⟩ (by simp) rfl)
            subst e80
            have kc0 : w'.cell? ⟨w.heap.size, 0, none⟩ = some (.int .i64 X) := hX.cell (by first | (simp; done) | (simp; omega)) (by first | assumption | (go_simp; done) | (simp; done))
            have kc1 : w'.cell? ⟨w.heap.size, 1, none⟩ = some (.int .i64 Y) := hX.cell (by first | (simp; done) | (simp; omega)) (by first | assumption | (go_simp; done) | (simp; done))
            clear hdep
            refine StepG.lay ?_; rw [ha0]; simp only [putL, Act.put, List.setIfInBounds_toArray, List.set_cons_zero, List.set_cons_succ]
            go_wp2_with fail
            refine HK.out _ _ ?_
            refine ⟨v73, v74, v75, v76, v77, v78, v79, (.bool true), v81, v82, v83, v84, (.int .i64 S2), (.bool true), v87, v88, v89, v90, v2, (by rw [ha0]; simp only [putL, Act.put, List.setIfInBounds_toArray, List.set_cons_zero, List.set_cons_succ]), ?_, ?_, trivial⟩
            · obtain ⟨h73, h74, h75, h76, h77, h78, h79, h80, h81, h82, h83, h84, h85, h86, h87, h88, h89, h90, h2, _⟩ := hR.out
              exact Lib.hid ⟨fun h => h73 (by simpa using h), fun h => h74 (by simpa using h), fun h => h75 (by simpa using h), fun h => h76 (by simpa using h), fun h => h77 (by simpa using h), fun h => h78 (by simpa using h), fun h => h79 (by simpa using h), fun _ => rfl, fun h => h81 (by simpa using h), fun h => h82 (by simpa using h), fun h => h83 (by simpa using h), fun h => h84 (by simpa using h), fun _ => rfl, fun _ => rfl, fun h => h87 (by simpa using h), fun h => h88 (by simpa using h), fun h => h89 (by simpa using h), fun h => h90 (by simpa using h), fun h => h2 (by simpa using h), trivial⟩
            · exact hX
          case x2hs14 =>
            intro s a' w' hsk hdep hI K hK
            try dsimp only at hI hK
            obtain ⟨v73, v74, v75, v76, v77, v78, v79, v80, v81, v82, v83, v84, v85, v86, v87, v88, v89, v90, v2, hact, hR, hX, _⟩ := hI
            subst hact
            have HK := Lib.hid hK
            clear hK
            have e80 : v80 = .bool true := by obtain ⟨h73, h74, h75, h76, h77, h78, h79, h80, h81, h82, h83, h84, h85, h86, h87, h88, h89, h90, h2, _⟩ := hR.out; exact h80 (hdep ⟨7, .data⟩ (by simp) rfl)
            subst e80
            have e86 : v86 = .bool true := by obtain ⟨h73, h74, h75, h76, h77, h78, h79, h80, h81, h82, h83, h84, h85, h86, h87, h88, h89, h90, h2, _⟩ := hR.out; exact h86 (hdep ⟨13, .data⟩ (by simp) rfl)
            subst e86
            have kc0 : w'.cell? ⟨w.heap.size, 0, none⟩ = some (.int .i64 X) := hX.cell (by first | (simp; done) | (simp; omega)) (by first | assumption | (go_simp; done) | (simp; done))
            have kc1 : w'.cell? ⟨w.heap.size, 1, none⟩ = some (.int .i64 Y) := hX.cell (by first | (simp; done) | (simp; omega)) (by first | assumption | (go_simp; done) | (simp; done))
            clear hdep
            refine StepG.mk rfl ?_; rw [ha0]; simp only [putL, Act.put, List.setIfInBounds_toArray, List.set_cons_zero, List.set_cons_succ]
            go_wp2_with fail
            refine HK.out _ _ ?_
            refine ⟨v73, v74, v75, v76, v77, v78, v79, (.bool true), v81, v82, v83, v84, v85, (.bool true), (.bool true), v88, v89, v90, v2, (by rw [ha0]; simp only [putL, Act.put, List.setIfInBounds_toArray, List.set_cons_zero, List.set_cons_succ]), ?_, ?_, trivial⟩
            · obtain ⟨h73, h74, h75, h76, h77, h78, h79, h80, h81, h82, h83, h84, h85, h86, h87, h88, h89, h90, h2, _⟩ := hR.out
              exact Lib.hid ⟨fun h => h73 (by simpa using h), fun h => h74 (by simpa using h), fun h => h75 (by simpa using h), fun h => h76 (by simpa using h), fun h => h77 (by simpa using h), fun h => h78 (by simpa using h), fun h => h79 (by simpa using h), fun _ => rfl, fun h => h81 (by simpa using h), fun h => h82 (by simpa using h), fun h => h83 (by simpa using h), fun h => h84 (by simpa using h), fun h => h85 (by simpa using h), fun _ => rfl, fun _ => rfl, fun h => h88 (by simpa using h), fun h => h89 (by simpa using h), fun h => h90 (by simpa using h), fun h => h2 (by simpa using h), trivial⟩
            · exact hX
          case x2hs15 =>
            intro s a' w' hsk hdep hI K hK
            try dsimp only at hI hK
            obtain ⟨v73, v74, v75, v76, v77, v78, v79, v80, v81, v82, v83, v84, v85, v86, v87, v88, v89, v90, v2, hact, hR, hX, _⟩ := hI
            subst hact
            have HK := Lib.hid hK
            clear hK
            have e87 : v87 = .bool true := by obtain ⟨h73, h74, h75, h76, h77, h78, h79, h80, h81, h82, h83, h84, h85, h86, h87, h88, h89, h90, h2, _⟩ := hR.out; exact h87 (hdep ⟨14, .data⟩ (by simp) rfl)
            subst e87
            have kc0 : w'.cell? ⟨w.heap.size, 0, none⟩ = some (.int .i64 X) := hX.cell (by first | (simp; done) | (simp; omega)) (by first | assumption | (go_simp; done) | (simp; done))
            have kc1 : w'.cell? ⟨w.heap.size, 1, none⟩ = some (.int .i64 Y) := hX.cell (by first | (simp; done) | (simp; omega)) (by first | assumption | (go_simp; done) | (simp; done))
            clear hdep
            refine StepG.mk rfl ?_; rw [ha0]; simp only [putL, Act.put, List.setIfInBounds_toArray, List.set_cons_zero, List.set_cons_succ]
            go_wp2_with fail
            refine HK.out _ _ ?_
            refine ⟨v73, v74, v75, v76, v77, v78, v79, v80, v81, v82, v83, v84, v85, v86, (.bool true), (.bool true), v89, v90, v2, (by rw [ha0]; simp only [putL, Act.put, List.setIfInBounds_toArray, List.set_cons_zero, List.set_cons_succ]), ?_, ?_, trivial⟩
            · obtain ⟨h73, h74, h75, h76, h77, h78, h79, h80, h81, h82, h83, h84, h85, h86, h87, h88, h89, h90, h2, _⟩ := hR.out
              exact Lib.hid ⟨fun h => h73 (by simpa using h), fun h => h74 (by simpa using h), fun h => h75 (by simpa using h), fun h => h76 (by simpa using h), fun h => h77 (by simpa using h), fun h => h78 (by simpa using h), fun h => h79 (by simpa using h), fun h => h80 (by simpa using h), fun h => h81 (by simpa using h), fun h => h82 (by simpa using h), fun h => h83 (by simpa using h), fun h => h84 (by simpa using h), fun h => h85 (by simpa using h), fun h => h86 (by simpa using h), fun _ => rfl, fun _ => rfl, fun h => h89 (by simpa using h), fun h => h90 (by simpa using h), fun h => h2 (by simpa using h), trivial⟩
            · exact hX
          case x2hs16 =>
            intro s a' w' hsk hdep hI K hK
            try dsimp only at hI hK
            obtain ⟨v73, v74, v75, v76, v77, v78, v79, v80, v81, v82, v83, v84, v85, v86, v87, v88, v89, v90, v2, hact, hR, hX, _⟩ := hI
            subst hact
            have HK := Lib.hid hK
            clear hK
            have e88 : v88 = .bool true := by obtain ⟨h73, h74, h75, h76, h77, h78, h79, h80, h81, h82, h83, h84, h85, h86, h87, h88, h89, h90, h2, _⟩ := hR.out; exact h88 (hdep ⟨15, .guard⟩ (by simp) rfl)
            subst e88
            have kc0 : w'.cell? ⟨w.heap.size, 0, none⟩ = some (.int .i64 X) := hX.cell (by first | (simp; done) | (simp; omega)) (by first | assumption | (go_simp; done) | (simp; done))
            have kc1 : w'.cell? ⟨w.heap.size, 1, none⟩ = some (.int .i64 Y) := hX.cell (by first | (simp; done) | (simp; omega)) (by first | assumption | (go_simp; done) | (simp; done))
            clear hdep
            refine StepG.lay ?_; rw [ha0]; simp only [putL, Act.put, List.setIfInBounds_toArray, List.set_cons_zero, List.set_cons_succ]
            go_wp2_with fail
            refine ((awake_any _)).mono ?_
            rintro e wn ⟨rfl, hb⟩
            go_wp2_with fail
            refine HK.out _ _ ?_
            refine ⟨v73, v74, v75, v76, v77, v78, v79, v80, v81, v82, v83, v84, v85, v86, v87, (.bool true), (.bool true), v90, v2, (by rw [ha0]; simp only [putL, Act.put, List.setIfInBounds_toArray, List.set_cons_zero, List.set_cons_succ]), ?_, ?_, trivial⟩
            · obtain ⟨h73, h74, h75, h76, h77, h78, h79, h80, h81, h82, h83, h84, h85, h86, h87, h88, h89, h90, h2, _⟩ := hR.out
              exact Lib.hid ⟨fun h => h73 (by simpa using h), fun h => h74 (by simpa using h), fun h => h75 (by simpa using h), fun h => h76 (by simpa using h), fun h => h77 (by simpa using h), fun h => h78 (by simpa using h), fun h => h79 (by simpa using h), fun h => h80 (by simpa using h), fun h => h81 (by simpa using h), fun h => h82 (by simpa using h), fun h => h83 (by simpa using h), fun h => h84 (by simpa using h), fun h => h85 (by simpa using h), fun h => h86 (by simpa using h), fun h => h87 (by simpa using h), fun _ => rfl, fun _ => rfl, fun h => h90 (by simpa using h), fun h => h2 (by simpa using h), trivial⟩
            · exact hX.call hb
          case x2hs17 =>
            intro s a' w' hsk hdep hI K hK
            try dsimp only at hI hK
            obtain ⟨v73, v74, v75, v76, v77, v78, v79, v80, v81, v82, v83, v84, v85, v86, v87, v88, v89, v90, v2, hact, hR, hX, _⟩ := hI
            subst hact
            have HK := Lib.hid hK
            clear hK
            have e88 : v88 = .bool true := by obtain ⟨h73, h74, h75, h76, h77, h78, h79, h80, h81, h82, h83, h84, h85, h86, h87, h88, h89, h90, h2, _⟩ := hR.out; exact h88 (hdep ⟨15, .data⟩ (by simp) rfl)
            subst e88
            have e89 : v89 = .bool true := by obtain ⟨h73, h74, h75, h76, h77, h78, h79, h80, h81, h82, h83, h84, h85, h86, h87, h88, h89, h90, h2, _⟩ := hR.out; exact h89 (hdep ⟨16, .data⟩ (by simp) rfl)
            subst e89
            have kc0 : w'.cell? ⟨w.heap.size, 0, none⟩ = some (.int .i64 X) := hX.cell (by first | (simp; done) | (simp; omega)) (by first | assumption | (go_simp; done) | (simp; done))
            have kc1 : w'.cell? ⟨w.heap.size, 1, none⟩ = some (.int .i64 Y) := hX.cell (by first | (simp; done) | (simp; omega)) (by first | assumption | (go_simp; done) | (simp; done))
            clear hdep
            refine StepG.mk rfl ?_; rw [ha0]; simp only [putL, Act.put, List.setIfInBounds_toArray, List.set_cons_zero, List.set_cons_succ]
            go_wp2_with fail
            refine HK.out _ _ ?_
            refine ⟨v73, v74, v75, v76, v77, v78, v79, v80, v81, v82, v83, v84, v85, v86, v87, (.bool true), (.bool true), (.bool true), v2, (by rw [ha0]; simp only [putL, Act.put, List.setIfInBounds_toArray, List.set_cons_zero, List.set_cons_succ]), ?_, ?_, trivial⟩
            · obtain ⟨h73, h74, h75, h76, h77, h78, h79, h80, h81, h82, h83, h84, h85, h86, h87, h88, h89, h90, h2, _⟩ := hR.out
              exact Lib.hid ⟨fun h => h73 (by simpa using h), fun h => h74 (by simpa using h), fun h => h75 (by simpa using h), fun h => h76 (by simpa using h), fun h => h77 (by simpa using h), fun h => h78 (by simpa using h), fun h => h79 (by simpa using h), fun h => h80 (by simpa using h), fun h => h81 (by simpa using h), fun h => h82 (by simpa using h), fun h => h83 (by simpa using h), fun h => h84 (by simpa using h), fun h => h85 (by simpa using h), fun h => h86 (by simpa using h), fun h => h87 (by simpa using h), fun _ => rfl, fun _ => rfl, fun _ => rfl, fun h => h2 (by simpa using h), trivial⟩
            · exact hX
          case x2hs18 =>
            intro s a' w' hsk hdep hI K hK
            try dsimp only at hI hK
            obtain ⟨v73, v74, v75, v76, v77, v78, v79, v80, v81, v82, v83, v84, v85, v86, v87, v88, v89, v90, v2, hact, hR, hX, _⟩ := hI
            subst hact
            have HK := Lib.hid hK
            clear hK
            have e90 : v90 = .bool true := by obtain ⟨h73, h74, h75, h76, h77, h78, h79, h80, h81, h82, h83, h84, h85, h86, h87, h88, h89, h90, h2, _⟩ := hR.out; exact h90 (hdep ⟨17, .data⟩ (by simp) rfl)
            subst e90
            have kc0 : w'.cell? ⟨w.heap.size, 0, none⟩ = some (.int .i64 X) := hX.cell (by first | (simp; done) | (simp; omega)) (by first | assumption | (go_simp; done) | (simp; done))
            have kc1 : w'.cell? ⟨w.heap.size, 1, none⟩ = some (.int .i64 Y) := hX.cell (by first | (simp; done) | (simp; omega)) (by first | assumption | (go_simp; done) | (simp; done))
            clear hdep
            refine StepG.mk rfl ?_; rw [ha0]; simp only [putL, Act.put, List.setIfInBounds_toArray, List.set_cons_zero, List.set_cons_succ]
            go_wp2_with fail
            refine HK.out _ _ ?_
            refine ⟨v73, v74, v75, v76, v77, v78, v79, v80, v81, v82, v83, v84, v85, v86, v87, v88, v89, (.bool true), (.bool true), (by rw [ha0]; simp only [putL, Act.put, List.setIfInBounds_toArray, List.set_cons_zero, List.set_cons_succ]), ?_, ?_, trivial⟩
            · obtain ⟨h73, h74, h75, h76, h77, h78, h79, h80, h81, h82, h83, h84, h85, h86, h87, h88, h89, h90, h2, _⟩ := hR.out
              exact Lib.hid ⟨fun h => h73 (by simpa using h), fun h => h74 (by simpa using h), fun h => h75 (by simpa using h), fun h => h76 (by simpa using h), fun h => h77 (by simpa using h), fun h => h78 (by simpa using h), fun h => h79 (by simpa using h), fun h => h80 (by simpa using h), fun h => h81 (by simpa using h), fun h => h82 (by simpa using h), fun h => h83 (by simpa using h), fun h => h84 (by simpa using h), fun h => h85 (by simpa using h), fun h => h86 (by simpa using h), fun h => h87 (by simpa using h), fun h => h88 (by simpa using h), fun h => h89 (by simpa using h), fun _ => rfl, fun _ => rfl, trivial⟩
            · exact hX
          intro s a' w7 hall hI
          try dsimp only at hI
          obtain ⟨v73, v74, v75, v76, v77, v78, v79, v80, v81, v82, v83, v84, v85, v86, v87, v88, v89, v90, v2, hact, hR, hXR, _⟩ := hI
          subst hact
          obtain ⟨h73, h74, h75, h76, h77, h78, h79, h80, h81, h82, h83, h84, h85, h86, h87, h88, h89, h90, h2, _⟩ := hR.out
          clear hR
          have e73 := h73 (hall 0 (by decide))
          subst e73
          clear h73
          have e74 := h74 (hall 1 (by decide))
          subst e74
          clear h74
          have e75 := h75 (hall 2 (by decide))
          subst e75
          clear h75
          have e76 := h76 (hall 3 (by decide))
          subst e76
          clear h76
          have e77 := h77 (hall 4 (by decide))
          subst e77
          clear h77
          have e78 := h78 (hall 5 (by decide))
          subst e78
          clear h78
          have e79 := h79 (hall 6 (by decide))
          subst e79
          clear h79
          have e80 := h80 (hall 7 (by decide))
          subst e80
          clear h80
          have e81 := h81 (hall 8 (by decide))
          subst e81
          clear h81
          have e82 := h82 (hall 9 (by decide))
          subst e82
          clear h82
          have e83 := h83 (hall 10 (by decide))
          subst e83
          clear h83
          have e84 := h84 (hall 11 (by decide))
          subst e84
          clear h84
          have e85 := h85 (hall 12 (by decide))
          subst e85
          clear h85
          have e86 := h86 (hall 13 (by decide))
          subst e86
          clear h86
          have e87 := h87 (hall 14 (by decide))
          subst e87
          clear h87
          have e88 := h88 (hall 15 (by decide))
          subst e88
          clear h88
          have e89 := h89 (hall 16 (by decide))
          subst e89
          clear h89
          have e90 := h90 (hall 17 (by decide))
          subst e90
          clear h90
          have e2 := h2 (hall 18 (by decide))
          subst e2
          clear h2
          clear hall
          rw [ha0]; simp only [putL, Act.put, List.setIfInBounds_toArray, List.set_cons_zero, List.set_cons_succ]
          clear ha0
          have B7 : Below w.heap.size w w7 := hXR.below (by first | assumption | exact (by repeat (first | exact Below.refl _ _ | exact Nat.le_refl _ | refine Below.alloc ?_ ?_ _ | refine Below.setCell ?_ ?_ _ | refine Below.drew ?_ | refine bl_drewN ?_ _ | (assumption) | refine bl_call ?_ (by assumption) ?_ | omega | (simp <;> omega)))) (by first | omega | (simp <;> omega)) (by simp <;> omega)
          have cew_heap_size7_0 : w7.cell? ⟨w.heap.size, 0, none⟩ = some (.int .i64 X) := hXR.cell (by first | (simp; done) | (simp; omega)) (by first | assumption | (go_simp; done) | (simp; done))
          have cew_heap_size7_1 : w7.cell? ⟨w.heap.size, 1, none⟩ = some (.int .i64 Y) := hXR.cell (by first | (simp; done) | (simp; omega)) (by first | assumption | (go_simp; done) | (simp; done))
          have zew_heap_size7 : w.heap.size < w7.heap.size := block_lt_of_cell cew_heap_size7_0
          have hsz_7 := B7.size
          clear hXR
          go_wp2_with fail
          go_ret
          exact ⟨rfl, (by repeat (first | exact Below.refl _ _ | exact Nat.le_refl _ | refine Below.alloc ?_ ?_ _ | refine Below.setCell ?_ ?_ _ | refine Below.drew ?_ | refine bl_drewN ?_ _ | (assumption) | refine bl_call ?_ (by assumption) ?_ | omega | (simp <;> omega)))⟩
namespace gaugeBack
open Go.ChangeShapes Go.WideShapes Go.ChangeAt Go.RowKit
open Go.Lib Go.Joins
set_option maxRecDepth 100000 in
theorem contract (H : Type) (enc : TypeId × Value → H) (W : World) (base : Nat) (args : Array Value) (ds gs : List (DataW H)) (before : List MemPlace)
    (hval : ∀ (j : Nat) t v, Tryd.f8.params[j]? = some t → args[j]? = some v → Value.okWide Tryd.prog W .any base t v)
    (hW : DataW.Whole enc Tryd.prog Tryd.f8.params.toList Rows.gaugeBackSpec.vars false W args.toList ds gs before) :
    Calls Tryd.prog 8 args W fun e W' => ∃ v, e = .returned v ∧ Rows.gaugeBackSpec.post enc Tryd.prog Tryd.f8 false true false false W args v W' := by
  have hW' := hW
  obtain ⟨p, q, hA0, hV, rfl, hfz, hnd⟩ := hW
  have hA : DataW.TrodAll enc Tryd.prog W 0 (fun _ => true) true Tryd.f8.params.toList args.toList ds p := hA0
  rw [Tryd.params8] at hA hval
  obtain ⟨v0, vs0, d0, ds0, p0, q0, hargs, rfl, rfl, h0, r0⟩ := trodAll_cons hA
  obtain ⟨rfl, rfl, rfl⟩ := trodAll_nil r0
  obtain rfl : args = #[v0] := by cases args; simp_all
  obtain ⟨rfl, rfl⟩ := trodVars_none hV
  obtain ⟨u0, t0, y0, z0, n0, rfl, rfl, rfl, tu0, tt0⟩ := open_agg2 Tryd.underlying23 (by kernel_rfl) (by kernel_rfl) (hval 0 23 v0 rfl rfl) h0
  obtain ⟨a0, ea0, rfl, wa0⟩ := DataW.trod_int Tryd.underlying3 tu0
  obtain ⟨b0, eb0, rfl, wb0⟩ := DataW.trod_int Tryd.underlying3 tt0
  obtain rfl : u0 = .int .i64 a0 := by simpa using ea0
  obtain rfl : t0 = .int .i64 b0 := by simpa using eb0
  clear hA0
  simp only [List.append_nil] at hW'
  refine (show Calls Tryd.prog 8 _ W _ from (GaugeBack_walk a0 b0 W (inI wa0) (inI wb0))).mono fun e W' ⟨he, hb⟩ => ?_
  subst he
  exact ⟨_, rfl, _, _, _, [], [], [], hW', trodAll_mk1 (shut_bool Tryd.underlying4 _), trodAll_cons_mk (shut_agg2 (y0 := (.lit (.int .i64 a0), [])) (y1 := (.lit (.int .i64 b0), [])) Tryd.underlying23 (by kernel_rfl) (by kernel_rfl) ⟨1, by simp [DataW.trod, Tryd.underlying3, wa0]⟩ ⟨1, by simp [DataW.trod, Tryd.underlying3, wb0]⟩) (trodAll_mk0), rfl, hb.frame _, fun h => by cases h⟩
theorem reads (os : Os) {H : Type} (enc : TypeId × Value → H) : ∃ places, DataW.whole enc Tryd.prog ((laidWorld os).forCall (fun _ _ => 0) ⟨#[], #[.agg #[.int .i64 0, .int .i64 0]], []⟩).memory Tryd.f8.params.toList Rows.gaugeBackSpec.vars false (#[.agg #[.int .i64 0, .int .i64 0]] : Array Value).toList 8 = some ([.agg [.lit (.int .i64 0), .lit (.int .i64 0)]], [], places) :=
  ⟨[], by kernel_rfl⟩
set_option maxRecDepth 100000 in
theorem lifted (os : Os) (started : os.Started) (H : Type) (enc : TypeId × Value → H) (F : Stop.Interp) :
    ReturnsInHanded {} Tryd.checked os 8 .any ((OpenSpec.ofChange Rows.gaugeBackSpec).preRow enc Tryd.prog Tryd.f8 Rows.gaugeBackRow.domain false Rows.gaugeBackRow.laid) (((OpenSpec.ofChange Rows.gaugeBackSpec).at F).post enc Tryd.prog Tryd.f8 false true false false) := by
  obtain ⟨places, hx⟩ := reads os enc
  refine returnsInHanded_of_row (C := Tryd.checked) (s := OpenSpec.ofChange Rows.gaugeBackSpec) own started (by kernel_rfl) Tryd.func8
    (witness_row_at (enc := enc) (C := Tryd.checked) false (laidWorld os) #[.agg #[.int .i64 0, .int .i64 0]] rfl (by kernel_rfl) (by kernel_rfl) (by kernel_rfl)
      (OpenSpec.preRow_of_cond 8 hx (by kernel_rfl) (fun k hk => by cases hk) (by kernel_rfl) (laid_met os _))) ?_
  intro W base args ds gs before hval hW _ _ _ _ _ _
  exact contract H enc W base args ds gs before hval hW
theorem said : Rows.GaugeBackSaid :=
  OpenClaim.holds_of_cond 8 Tryd.f8 rfl rfl rfl rfl rfl rfl rfl ⟨rfl, rfl, rfl, rfl, rfl⟩ rfl rfl rfl rfl rfl (by kernel_rfl) Tryd.func8 (by kernel_rfl)
    (of_decide_eq_true (by kernel_rfl)) (by unfold Func.isWrapper; first | (rw [if_pos (by decide +kernel)]; kernel_rfl) | (rw [if_neg (by decide +kernel)]; exact ⟨rfl, rfl⟩))
    (fun os started H enc _ F => by rw [OpenClaim.pre_eq_preRow]; exact lifted os started H enc F)
theorem plain (f : FuncId) (fn : Func) (hf : Tryd.pinned.checked.prog.funcNamed "remould/remouldlaw04.GaugeBack" = some f) (hfn : Tryd.pinned.checked.prog.funcs[f]? = some fn) :
    true = Tryd.pinned.checked.prog.looks [] ∧ ∀ (j : Nat) t, fn.params[j]? = some t → Tryd.pinned.checked.prog.wantsStandIn t = false := by
  obtain rfl : f = 8 := Option.some.inj ((show Tryd.prog.funcNamed "remould/remouldlaw04.GaugeBack" = some 8 by kernel_rfl).symm.trans hf) |>.symm
  obtain rfl : fn = Tryd.f8 := (Option.some.inj (Tryd.func8.symm.trans hfn)).symm
  refine ⟨by kernel_rfl, fun j t ht => ?_⟩
  rw [Tryd.params8] at ht
  have hm : t ∈ [23] := by simpa using Array.mem_of_getElem? ht
  have hall : ([23].all fun u => !Tryd.prog.wantsStandIn u) = true := by kernel_rfl
  exact (show Tryd.prog.wantsStandIn t = false by simpa using List.all_eq_true.1 hall t (by simpa using hm))
theorem card : Rows.GaugeBackCardSaid :=
  Claim7.holds_tied_plain_at .later [] _ _ _ _ said (fun _ h => by cases h) (by kernel_rfl) (fun _ h => by cases h) gaugeBack_row_tie rfl ⟨rfl, rfl⟩ (by kernel_rfl) rfl plain (by kernel_rfl)
end gaugeBack
theorem GaugeBack_holds : Rows.GaugeBackCardSaid := gaugeBack.card
end Go.Proofs.YtgocloilagcfoaaDoor
