/- The reference's Gaps returns the letters of the first differences. -/
import Derived.Test.YtgocloilagcfoaaDoorR5
import Derived.Test.YtgocloilagcfoaaDoorG14
namespace Go.Proofs.YtgocloilagcfoaaDoor
open Go.RowKit
attribute [local go_sem ↓] Go.wp_at_zero Go.wp_at_succ

set_option maxRecDepth 100000 in
set_option maxHeartbeats 2000000 in
theorem refGaps (n : Nat) (w : World) (hn : n ≤ 1000) :
    Calls Tryd.prog 40 #[.int .i64 n] w fun e w' => e = .returned (.string ⟨(GM.gaps n).toArray⟩) ∧ Below w.heap.size w w' := by
  go_enter Tryd.func40, Tryd.ntmps40
  go_wp2_with fail
  go_loopw [3, 4] (fun s x wr => ∃ i : Nat, x = .int .i64 i ∧ s = .string ⟨(GM.gaps i).toArray⟩ ∧ i ≤ n ∧ Below w.heap.size w wr) (fun _ x _ => n - (intOf x).toNat)
  case atStart => exact ⟨0, rfl, rfl, by omega, Below.refl _ _⟩
  case round =>
    obtain ⟨i, rfl, rfl, hi, B⟩ := hrel
    by_cases hlt : i < n
    · have hlt' : (i : Int) < n := by omega
      have hsz := B.size
      have h1 := fun wx => refRung ((i : Int) + 1) wx (by omega) (by omega)
      have h0 := fun wx => refRung (i : Int) wx (by omega) (by omega)
      have b1 := (GM.gr_isRung ((i : Int) + 1) (by omega) (by omega)).bounds (by omega)
      have b0 := (GM.gr_isRung (i : Int) (by omega) (by omega)).bounds (by omega)
      have hlen : (GM.gaps i).length = i := by simp [GM.gaps]
      have hgap : GM.gap i = if (GM.gr 34 ((i : Int) + 1)).1 = (GM.gr 34 (i : Int)).1 + 1 ∧ (GM.gr 34 ((i : Int) + 1)).2 = (GM.gr 34 (i : Int)).2 then 76 else 83 := by
        unfold GM.gap
        rw [show ((i + 1 : Nat) : Int) = (i : Int) + 1 by omega]
      obtain ⟨⟨x1, y1⟩, e1⟩ : ∃ p, GM.gr 34 ((i : Int) + 1) = p := ⟨_, rfl⟩
      obtain ⟨⟨x0, y0⟩, e0⟩ : ∃ p, GM.gr 34 (i : Int) = p := ⟨_, rfl⟩
      rw [e1] at h1 b1 hgap
      rw [e0] at h0 b0 hgap
      dsimp only at h1 h0 b1 b0 hgap
      have hm := fun wx => refMinus x1 y1 x0 y0 wx (by omega) (by omega) (by omega) (by omega)
      have hol : ¬ 9223372036854775807 < (GM.gaps i).length + 1 := by omega
      have H1 := Lib.hid h1
      have H0 := Lib.hid h0
      clear h1 h0 e1 e0 b1 b0 hlen
      obtain ⟨D1, d1⟩ : ∃ x, x1 - x0 = x := ⟨_, rfl⟩
      obtain ⟨D2, d2⟩ : ∃ x, y1 - y0 = x := ⟨_, rfl⟩
      rw [d1, d2] at hm
      have HM := Lib.hid hm
      clear hm
      generalize hS : GM.gaps i = S at *
      have hc : (D1 = 1 ∧ D2 = 0) ∨ ¬ D1 = 1 ∨ (D1 = 1 ∧ ¬ D2 = 0) := by omega
      rcases hc with ⟨rfl, rfl⟩ | hc | ⟨rfl, hc⟩
      · have HG := Lib.hid (show GM.gap i = 76 by rw [hgap, if_pos (by omega)])
        have HS := Lib.hid hS
        clear hgap d1 d2 hS
        go_wp2_with fail
        refine (H1.out _).mono ?_
        rintro e w1 ⟨rfl, hb1⟩
        have B1 : Below w.heap.size w w1 := bl_call (by repeat (first | exact Below.refl _ _ | exact Nat.le_refl _ | refine Below.alloc ?_ ?_ _ | refine Below.setCell ?_ ?_ _ | refine Below.drew ?_ | refine bl_drewN ?_ _ | (assumption) | refine bl_call ?_ (by assumption) ?_ | omega | (simp <;> omega))) hb1 (by first | assumption | (simp; done) | (simp; omega) | omega)
        clear hb1
        have hsz_1 := B1.size
        go_wp2_with fail
        refine (H0.out _).mono ?_
        rintro e w2 ⟨rfl, hb2⟩
        have B2 : Below w.heap.size w w2 := bl_call (by repeat (first | exact Below.refl _ _ | exact Nat.le_refl _ | refine Below.alloc ?_ ?_ _ | refine Below.setCell ?_ ?_ _ | refine Below.drew ?_ | refine bl_drewN ?_ _ | (assumption) | refine bl_call ?_ (by assumption) ?_ | omega | (simp <;> omega))) hb2 (by first | assumption | (simp; done) | (simp; omega) | omega)
        clear hb2
        have hsz_2 := B2.size
        go_wp2_with fail
        refine (HM.out _).mono ?_
        rintro e w3 ⟨rfl, hb3⟩
        have B3 : Below w.heap.size w w3 := bl_call (by repeat (first | exact Below.refl _ _ | exact Nat.le_refl _ | refine Below.alloc ?_ ?_ _ | refine Below.setCell ?_ ?_ _ | refine Below.drew ?_ | refine bl_drewN ?_ _ | (assumption) | refine bl_call ?_ (by assumption) ?_ | omega | (simp <;> omega))) hb3 (by first | assumption | (simp; done) | (simp; omega) | omega)
        clear hb3
        have hsz_3 := B3.size
        go_wp2_with fail
        go_roundw
        case rel =>
          refine ⟨i + 1, by simp, ?_, by omega, (by repeat (first | exact Below.refl _ _ | exact Nat.le_refl _ | refine Below.alloc ?_ ?_ _ | refine Below.setCell ?_ ?_ _ | refine Below.drew ?_ | refine bl_drewN ?_ _ | (assumption) | refine bl_call ?_ (by assumption) ?_ | omega | (simp <;> omega)))⟩
          rw [GM.gaps_succ, HG.out, HS.out, ← str_snoc]
        case measure => simp [intOf]; omega
      · have HG := Lib.hid (show GM.gap i = 83 by rw [hgap, if_neg (by omega)])
        have HS := Lib.hid hS
        clear hgap d1 d2 hS
        go_wp2_with fail
        refine (H1.out _).mono ?_
        rintro e w1 ⟨rfl, hb1⟩
        have B1 : Below w.heap.size w w1 := bl_call (by repeat (first | exact Below.refl _ _ | exact Nat.le_refl _ | refine Below.alloc ?_ ?_ _ | refine Below.setCell ?_ ?_ _ | refine Below.drew ?_ | refine bl_drewN ?_ _ | (assumption) | refine bl_call ?_ (by assumption) ?_ | omega | (simp <;> omega))) hb1 (by first | assumption | (simp; done) | (simp; omega) | omega)
        clear hb1
        have hsz_1 := B1.size
        go_wp2_with fail
        refine (H0.out _).mono ?_
        rintro e w2 ⟨rfl, hb2⟩
        have B2 : Below w.heap.size w w2 := bl_call (by repeat (first | exact Below.refl _ _ | exact Nat.le_refl _ | refine Below.alloc ?_ ?_ _ | refine Below.setCell ?_ ?_ _ | refine Below.drew ?_ | refine bl_drewN ?_ _ | (assumption) | refine bl_call ?_ (by assumption) ?_ | omega | (simp <;> omega))) hb2 (by first | assumption | (simp; done) | (simp; omega) | omega)
        clear hb2
        have hsz_2 := B2.size
        go_wp2_with fail
        refine (HM.out _).mono ?_
        rintro e w3 ⟨rfl, hb3⟩
        have B3 : Below w.heap.size w w3 := bl_call (by repeat (first | exact Below.refl _ _ | exact Nat.le_refl _ | refine Below.alloc ?_ ?_ _ | refine Below.setCell ?_ ?_ _ | refine Below.drew ?_ | refine bl_drewN ?_ _ | (assumption) | refine bl_call ?_ (by assumption) ?_ | omega | (simp <;> omega))) hb3 (by first | assumption | (simp; done) | (simp; omega) | omega)
        clear hb3
        have hsz_3 := B3.size
        go_wp2_with fail
        go_roundw
        case rel =>
          refine ⟨i + 1, by simp, ?_, by omega, (by repeat (first | exact Below.refl _ _ | exact Nat.le_refl _ | refine Below.alloc ?_ ?_ _ | refine Below.setCell ?_ ?_ _ | refine Below.drew ?_ | refine bl_drewN ?_ _ | (assumption) | refine bl_call ?_ (by assumption) ?_ | omega | (simp <;> omega)))⟩
          rw [GM.gaps_succ, HG.out, HS.out, ← str_snoc]
        case measure => simp [intOf]; omega
      · have HG := Lib.hid (show GM.gap i = 83 by rw [hgap, if_neg (by omega)])
        have HS := Lib.hid hS
        clear hgap d1 d2 hS
        go_wp2_with fail
        refine (H1.out _).mono ?_
        rintro e w1 ⟨rfl, hb1⟩
        have B1 : Below w.heap.size w w1 := bl_call (by repeat (first | exact Below.refl _ _ | exact Nat.le_refl _ | refine Below.alloc ?_ ?_ _ | refine Below.setCell ?_ ?_ _ | refine Below.drew ?_ | refine bl_drewN ?_ _ | (assumption) | refine bl_call ?_ (by assumption) ?_ | omega | (simp <;> omega))) hb1 (by first | assumption | (simp; done) | (simp; omega) | omega)
        clear hb1
        have hsz_1 := B1.size
        go_wp2_with fail
        refine (H0.out _).mono ?_
        rintro e w2 ⟨rfl, hb2⟩
        have B2 : Below w.heap.size w w2 := bl_call (by repeat (first | exact Below.refl _ _ | exact Nat.le_refl _ | refine Below.alloc ?_ ?_ _ | refine Below.setCell ?_ ?_ _ | refine Below.drew ?_ | refine bl_drewN ?_ _ | (assumption) | refine bl_call ?_ (by assumption) ?_ | omega | (simp <;> omega))) hb2 (by first | assumption | (simp; done) | (simp; omega) | omega)
        clear hb2
        have hsz_2 := B2.size
        go_wp2_with fail
        refine (HM.out _).mono ?_
        rintro e w3 ⟨rfl, hb3⟩
        have B3 : Below w.heap.size w w3 := bl_call (by repeat (first | exact Below.refl _ _ | exact Nat.le_refl _ | refine Below.alloc ?_ ?_ _ | refine Below.setCell ?_ ?_ _ | refine Below.drew ?_ | refine bl_drewN ?_ _ | (assumption) | refine bl_call ?_ (by assumption) ?_ | omega | (simp <;> omega))) hb3 (by first | assumption | (simp; done) | (simp; omega) | omega)
        clear hb3
        have hsz_3 := B3.size
        go_wp2_with fail
        go_roundw
        case rel =>
          refine ⟨i + 1, by simp, ?_, by omega, (by repeat (first | exact Below.refl _ _ | exact Nat.le_refl _ | refine Below.alloc ?_ ?_ _ | refine Below.setCell ?_ ?_ _ | refine Below.drew ?_ | refine bl_drewN ?_ _ | (assumption) | refine bl_call ?_ (by assumption) ?_ | omega | (simp <;> omega)))⟩
          rw [GM.gaps_succ, HG.out, HS.out, ← str_snoc]
        case measure => simp [intOf]; omega
    · obtain rfl : i = n := by omega
      have hlt' : ¬ (i : Int) < i := by omega
      go_wp2_with fail
      go_ret
      exact ⟨rfl, B⟩
end Go.Proofs.YtgocloilagcfoaaDoor
