/- The reference's Text writes the plain text. -/
import Derived.Test.YtgocloilagcfoaaDoorR3
import Derived.Test.YtgocloilagcfoaaDoorR1
import Derived.Test.YtgocloilagcfoaaDoorG14
import Derived.Test.YtgocloilagcfoaaDoorM5
namespace Go.Proofs.YtgocloilagcfoaaDoor
open Go.RowKit
attribute [local go_sem ↓] Go.wp_at_zero Go.wp_at_succ

theorem le_iff (i : Nat) (a b : Int) : GM.Le (GM.pt i) (a, b) ↔ 0 ≤ GM.sgn (a - (GM.pt i).1) (b - (GM.pt i).2) := Iff.rfl
theorem dgx_of (i : Nat) (a b : Int) : (GM.dgx i (a, b) = true) ↔ 0 ≤ GM.sgn (a - (GM.pt i).1) (b - (GM.pt i).2) := by unfold GM.dgx; simp
theorem fut_round_at (m : Nat) (X Y : Int) (h : 40 ≤ m ∨ (X, Y) ≠ ((0, 0) : Int × Int)) : GM.fut (m + 1) (X, Y) = (if m + 1 = 40 then [46] else []) ++ (if GM.dgx m (X, Y) = true then (49 : UInt8) else 48) :: GM.fut m (if GM.dgx m (X, Y) = true then (X - (GM.pt m).1, Y - (GM.pt m).2) else (X, Y)) := GM.fut_round m (X, Y) h
set_option maxRecDepth 100000 in
set_option maxHeartbeats 8000000 in
theorem refText (a b : Int) (w : World) (hn : GM.Num (a, b)) (h0 : 0 ≤ GM.sgn a b) :
    Calls Tryd.prog 19 #[.agg #[.int .i64 a, .int .i64 b]] w fun e w' => e = .returned (.string ⟨(GM.textOf (a, b)).toArray⟩) ∧ Below w.heap.size w w' := by
  obtain ⟨x1, x2, x3, x4⟩ := hn
  simp only [] at x1 x2 x3 x4
  have hn : GM.Num (a, b) := ⟨x1, x2, x3, x4⟩
  have hlt := GM.num_lt (a, b) hn
  have hle := GM.lefts80 a b x1 x2 x3 x4 h0
  have HLT := Lib.hid hlt
  have HLE := Lib.hid hle
  clear hlt hle hn h0
  go_enter Tryd.func19, Tryd.ntmps19
  go_wp2_with fail
  go_loopw [3] (fun y wr => ∃ kk : Nat, y = .int .i64 kk ∧ kk ≤ 39 ∧ Hid (kk = 0 ∨ GM.Le (GM.pt (kk + 40)) (a, b)) ∧ wr.heap[w.heap.size]? = some (.cells #[.int .i64 a, .int .i64 b] 23 (0, 0)) ∧ Below w.heap.size w wr) (fun y _ => (4000 - intOf y).toNat)
  case atStart => exact ⟨0, rfl, by omega, Lib.hid (.inl rfl), (by repeat (first | assumption | (with_reducible apply blk_set2) | (with_reducible apply blk_set1) | (with_reducible refine blk_far2 ?_ ?_; (first | omega | (simp; done) | (simp; omega))) | (with_reducible refine blk_far1 ?_ ?_; (first | omega | (simp; done) | (simp; omega))) | (with_reducible refine blk_new' _ _ ?_; (first | omega | (simp; done) | (simp; omega))) | (with_reducible refine blk_old ?_) | (with_reducible refine blk_drew ?_))), (by repeat (first | exact Below.refl _ _ | exact Nat.le_refl _ | refine Below.alloc ?_ ?_ _ | refine Below.setCell ?_ ?_ _ | refine Below.drew ?_ | refine bl_drewN ?_ _ | (assumption) | refine bl_call ?_ (by assumption) ?_ | omega | (simp <;> omega)))⟩
  case round =>
    obtain ⟨kk, rfl, hkk, HKK, R, B⟩ := hrel
    have hws := blk_lt R
    have hof := fun wx => refPower ((kk : Int) + 1) wx (by omega) (by omega)
    rw [show (kk : Int) + 1 = ((kk + 41 : Nat) : Int) - 40 by omega, pw_pt, show ((kk + 41 : Nat) : Int) - 40 = (kk : Int) + 1 by omega] at hof
    have hli := le_iff (kk + 41) a b
    have hpb := pt_bd ⟨kk + 41, by omega⟩
    dsimp only at hpb
    obtain ⟨⟨px, py⟩, hpt⟩ : ∃ p, GM.pt (kk + 41) = p := ⟨_, rfl⟩
    rw [hpt] at hof hpb hli
    dsimp only at hof hpb hli
    obtain ⟨p1, p2, p3, p4⟩ := hpb
    have hM := fun wx => refMinus a b px py wx (by omega) (by omega) (by omega) (by omega)
    have hS := fun wx => refSign (a - px) (b - py) wx (by omega) (by omega) (by omega) (by omega)
    obtain ⟨T, hT⟩ : ∃ T, GM.sgn (a - px) (b - py) = T := ⟨_, rfl⟩
    rw [hT] at hS hli
    have HOF := Lib.hid hof
    have HM := Lib.hid hM
    have HS := Lib.hid hS
    have HLI := Lib.hid hli
    have HPT := Lib.hid hpt
    clear hof hM hS hli hpt hT
    have d0 := row2_0 R
    have d1 := row2_1 R
    have HR := Lib.hid R
    clear R
    go_upto_region 2 with fail
    refine with_act fun a0 ha0 => ?_
    refine wp_region_inv (by kernel_rfl) (by kernel_rfl) (fun s a' w' => ∃ v5 v6 v7 v8 v9 v10 v11 : Value, a' = putL a0 [(5, v5), (6, v6), (7, v7), (8, v8), (9, v9), (10, v10), (11, v11)] ∧ Hid ((s 0 = true → v5 = .agg #[.int .i64 a, .int .i64 b]) ∧ (s 1 = true → v6 = .int .i64 kk) ∧ (s 2 = true → v7 = .int .i64 ((kk : Int) + 1)) ∧ (s 3 = true → v8 = .agg #[.int .i64 px, .int .i64 py]) ∧ (s 4 = true → v9 = .agg #[.int .i64 (a - px), .int .i64 (b - py)]) ∧ (s 5 = true → v10 = .int .i64 T) ∧ (s 6 = true → v11 = .bool (decide (0 ≤ T))) ∧ True) ∧ BelX [] wr w' ∧ True) ?x1hzero ⟨?x1hs0, ?x1hs1, ?x1hs2, ?x1hs3, ?x1hs4, ?x1hs5, ?x1hs6, trivial⟩ ?x1hdone
    case x1hzero =>
      refine ⟨a0.tmps.getD 5 undef, a0.tmps.getD 6 undef, a0.tmps.getD 7 undef, a0.tmps.getD 8 undef, a0.tmps.getD 9 undef, a0.tmps.getD 10 undef, a0.tmps.getD 11 undef, ?_, ?_, ?_, trivial⟩
      · simp only [putL, put_self]
      · exact Lib.hid ⟨fun h => (by simp at h), fun h => (by simp at h), fun h => (by simp at h), fun h => (by simp at h), fun h => (by simp at h), fun h => (by simp at h), fun h => (by simp at h), trivial⟩
      · exact BelX.start _ _
    case x1hs0 =>
      intro s a' w' hsk hdep hI K hK
      try dsimp only at hI hK
      obtain ⟨v5, v6, v7, v8, v9, v10, v11, hact, hR, hX, _⟩ := hI
      subst hact
      have HK := Lib.hid hK
      clear hK
      have kc0 : w'.cell? ⟨w.heap.size, 0, none⟩ = some (.int .i64 a) := hX.cell (by first | (simp; done) | (simp; omega)) (by first | assumption | (go_simp; done) | (simp; done))
      have kc1 : w'.cell? ⟨w.heap.size, 1, none⟩ = some (.int .i64 b) := hX.cell (by first | (simp; done) | (simp; omega)) (by first | assumption | (go_simp; done) | (simp; done))
      clear hdep
      refine StepG.mk rfl ?_; rw [ha0]; simp only [putL, Act.put, List.setIfInBounds_toArray, List.set_cons_zero, List.set_cons_succ]
      go_wp2_with fail
      refine HK.out _ _ ?_
      refine ⟨(.agg #[.int .i64 a, .int .i64 b]), v6, v7, v8, v9, v10, v11, (by rw [ha0]; simp only [putL, Act.put, List.setIfInBounds_toArray, List.set_cons_zero, List.set_cons_succ]), ?_, ?_, trivial⟩
      · obtain ⟨h5, h6, h7, h8, h9, h10, h11, _⟩ := hR.out
        exact Lib.hid ⟨fun _ => rfl, fun h => h6 (by simpa using h), fun h => h7 (by simpa using h), fun h => h8 (by simpa using h), fun h => h9 (by simpa using h), fun h => h10 (by simpa using h), fun h => h11 (by simpa using h), trivial⟩
      · exact hX
    case x1hs1 =>
      intro s a' w' hsk hdep hI K hK
      try dsimp only at hI hK
      obtain ⟨v5, v6, v7, v8, v9, v10, v11, hact, hR, hX, _⟩ := hI
      subst hact
      have HK := Lib.hid hK
      clear hK
      have kc0 : w'.cell? ⟨w.heap.size, 0, none⟩ = some (.int .i64 a) := hX.cell (by first | (simp; done) | (simp; omega)) (by first | assumption | (go_simp; done) | (simp; done))
      have kc1 : w'.cell? ⟨w.heap.size, 1, none⟩ = some (.int .i64 b) := hX.cell (by first | (simp; done) | (simp; omega)) (by first | assumption | (go_simp; done) | (simp; done))
      clear hdep
      refine StepG.mk rfl ?_; rw [ha0]; simp only [putL, Act.put, List.setIfInBounds_toArray, List.set_cons_zero, List.set_cons_succ]
      go_wp2_with fail
      refine HK.out _ _ ?_
      refine ⟨v5, (.int .i64 kk), v7, v8, v9, v10, v11, (by rw [ha0]; simp only [putL, Act.put, List.setIfInBounds_toArray, List.set_cons_zero, List.set_cons_succ]), ?_, ?_, trivial⟩
      · obtain ⟨h5, h6, h7, h8, h9, h10, h11, _⟩ := hR.out
        exact Lib.hid ⟨fun h => h5 (by simpa using h), fun _ => rfl, fun h => h7 (by simpa using h), fun h => h8 (by simpa using h), fun h => h9 (by simpa using h), fun h => h10 (by simpa using h), fun h => h11 (by simpa using h), trivial⟩
      · exact hX
    case x1hs2 =>
      intro s a' w' hsk hdep hI K hK
      try dsimp only at hI hK
      obtain ⟨v5, v6, v7, v8, v9, v10, v11, hact, hR, hX, _⟩ := hI
      subst hact
      have HK := Lib.hid hK
      clear hK
      have e6 : v6 = .int .i64 kk := by obtain ⟨h5, h6, h7, h8, h9, h10, h11, _⟩ := hR.out; exact h6 (hdep ⟨1, .data⟩ (by simp) rfl)
      subst e6
      have kc0 : w'.cell? ⟨w.heap.size, 0, none⟩ = some (.int .i64 a) := hX.cell (by first | (simp; done) | (simp; omega)) (by first | assumption | (go_simp; done) | (simp; done))
      have kc1 : w'.cell? ⟨w.heap.size, 1, none⟩ = some (.int .i64 b) := hX.cell (by first | (simp; done) | (simp; omega)) (by first | assumption | (go_simp; done) | (simp; done))
      clear hdep
      refine StepG.mk rfl ?_; rw [ha0]; simp only [putL, Act.put, List.setIfInBounds_toArray, List.set_cons_zero, List.set_cons_succ]
      go_wp2_with fail
      refine HK.out _ _ ?_
      refine ⟨v5, (.int .i64 kk), (.int .i64 ((kk : Int) + 1)), v8, v9, v10, v11, (by rw [ha0]; simp only [putL, Act.put, List.setIfInBounds_toArray, List.set_cons_zero, List.set_cons_succ]), ?_, ?_, trivial⟩
      · obtain ⟨h5, h6, h7, h8, h9, h10, h11, _⟩ := hR.out
        exact Lib.hid ⟨fun h => h5 (by simpa using h), fun _ => rfl, fun _ => rfl, fun h => h8 (by simpa using h), fun h => h9 (by simpa using h), fun h => h10 (by simpa using h), fun h => h11 (by simpa using h), trivial⟩
      · exact hX
    case x1hs3 =>
      intro s a' w' hsk hdep hI K hK
      try dsimp only at hI hK
      obtain ⟨v5, v6, v7, v8, v9, v10, v11, hact, hR, hX, _⟩ := hI
      subst hact
      have HK := Lib.hid hK
      clear hK
      have e7 : v7 = .int .i64 ((kk : Int) + 1) := by obtain ⟨h5, h6, h7, h8, h9, h10, h11, _⟩ := hR.out; exact h7 (hdep ⟨2, .data⟩ (by simp) rfl)
      subst e7
      have kc0 : w'.cell? ⟨w.heap.size, 0, none⟩ = some (.int .i64 a) := hX.cell (by first | (simp; done) | (simp; omega)) (by first | assumption | (go_simp; done) | (simp; done))
      have kc1 : w'.cell? ⟨w.heap.size, 1, none⟩ = some (.int .i64 b) := hX.cell (by first | (simp; done) | (simp; omega)) (by first | assumption | (go_simp; done) | (simp; done))
      clear hdep
      refine StepG.mk rfl ?_; rw [ha0]; simp only [putL, Act.put, List.setIfInBounds_toArray, List.set_cons_zero, List.set_cons_succ]
      go_wp2_with fail
      refine ((HOF.out _)).mono ?_
      rintro e wn ⟨rfl, hb⟩
      go_wp2_with fail
      refine HK.out _ _ ?_
      refine ⟨v5, v6, (.int .i64 ((kk : Int) + 1)), (.agg #[.int .i64 px, .int .i64 py]), v9, v10, v11, (by rw [ha0]; simp only [putL, Act.put, List.setIfInBounds_toArray, List.set_cons_zero, List.set_cons_succ]), ?_, ?_, trivial⟩
      · obtain ⟨h5, h6, h7, h8, h9, h10, h11, _⟩ := hR.out
        exact Lib.hid ⟨fun h => h5 (by simpa using h), fun h => h6 (by simpa using h), fun _ => rfl, fun _ => rfl, fun h => h9 (by simpa using h), fun h => h10 (by simpa using h), fun h => h11 (by simpa using h), trivial⟩
      · exact hX.call hb
    case x1hs4 =>
      intro s a' w' hsk hdep hI K hK
      try dsimp only at hI hK
      obtain ⟨v5, v6, v7, v8, v9, v10, v11, hact, hR, hX, _⟩ := hI
      subst hact
      have HK := Lib.hid hK
      clear hK
      have e5 : v5 = .agg #[.int .i64 a, .int .i64 b] := by obtain ⟨h5, h6, h7, h8, h9, h10, h11, _⟩ := hR.out; exact h5 (hdep ⟨0, .data⟩ (by simp) rfl)
      subst e5
      have e8 : v8 = .agg #[.int .i64 px, .int .i64 py] := by obtain ⟨h5, h6, h7, h8, h9, h10, h11, _⟩ := hR.out; exact h8 (hdep ⟨3, .data⟩ (by simp) rfl)
      subst e8
      have kc0 : w'.cell? ⟨w.heap.size, 0, none⟩ = some (.int .i64 a) := hX.cell (by first | (simp; done) | (simp; omega)) (by first | assumption | (go_simp; done) | (simp; done))
      have kc1 : w'.cell? ⟨w.heap.size, 1, none⟩ = some (.int .i64 b) := hX.cell (by first | (simp; done) | (simp; omega)) (by first | assumption | (go_simp; done) | (simp; done))
      clear hdep
      refine StepG.mk rfl ?_; rw [ha0]; simp only [putL, Act.put, List.setIfInBounds_toArray, List.set_cons_zero, List.set_cons_succ]
      go_wp2_with fail
      refine ((HM.out _)).mono ?_
      rintro e wn ⟨rfl, hb⟩
      go_wp2_with fail
      refine HK.out _ _ ?_
      refine ⟨(.agg #[.int .i64 a, .int .i64 b]), v6, v7, (.agg #[.int .i64 px, .int .i64 py]), (.agg #[.int .i64 (a - px), .int .i64 (b - py)]), v10, v11, (by rw [ha0]; simp only [putL, Act.put, List.setIfInBounds_toArray, List.set_cons_zero, List.set_cons_succ]), ?_, ?_, trivial⟩
      · obtain ⟨h5, h6, h7, h8, h9, h10, h11, _⟩ := hR.out
        exact Lib.hid ⟨fun _ => rfl, fun h => h6 (by simpa using h), fun h => h7 (by simpa using h), fun _ => rfl, fun _ => rfl, fun h => h10 (by simpa using h), fun h => h11 (by simpa using h), trivial⟩
      · exact hX.call hb
    case x1hs5 =>
      intro s a' w' hsk hdep hI K hK
      try dsimp only at hI hK
      obtain ⟨v5, v6, v7, v8, v9, v10, v11, hact, hR, hX, _⟩ := hI
      subst hact
      have HK := Lib.hid hK
      clear hK
      have e9 : v9 = .agg #[.int .i64 (a - px), .int .i64 (b - py)] := by obtain ⟨h5, h6, h7, h8, h9, h10, h11, _⟩ := hR.out; exact h9 (hdep ⟨4, .data⟩ (by simp) rfl)
      subst e9
      have kc0 : w'.cell? ⟨w.heap.size, 0, none⟩ = some (.int .i64 a) := hX.cell (by first | (simp; done) | (simp; omega)) (by first | assumption | (go_simp; done) | (simp; done))
      have kc1 : w'.cell? ⟨w.heap.size, 1, none⟩ = some (.int .i64 b) := hX.cell (by first | (simp; done) | (simp; omega)) (by first | assumption | (go_simp; done) | (simp; done))
      clear hdep
      refine StepG.mk rfl ?_; rw [ha0]; simp only [putL, Act.put, List.setIfInBounds_toArray, List.set_cons_zero, List.set_cons_succ]
      go_wp2_with fail
      refine ((HS.out _)).mono ?_
      rintro e wn ⟨rfl, hb⟩
      go_wp2_with fail
      refine HK.out _ _ ?_
      refine ⟨v5, v6, v7, v8, (.agg #[.int .i64 (a - px), .int .i64 (b - py)]), (.int .i64 T), v11, (by rw [ha0]; simp only [putL, Act.put, List.setIfInBounds_toArray, List.set_cons_zero, List.set_cons_succ]), ?_, ?_, trivial⟩
      · obtain ⟨h5, h6, h7, h8, h9, h10, h11, _⟩ := hR.out
        exact Lib.hid ⟨fun h => h5 (by simpa using h), fun h => h6 (by simpa using h), fun h => h7 (by simpa using h), fun h => h8 (by simpa using h), fun _ => rfl, fun _ => rfl, fun h => h11 (by simpa using h), trivial⟩
      · exact hX.call hb
    case x1hs6 =>
      intro s a' w' hsk hdep hI K hK
      try dsimp only at hI hK
      obtain ⟨v5, v6, v7, v8, v9, v10, v11, hact, hR, hX, _⟩ := hI
      subst hact
      have HK := Lib.hid hK
      clear hK
      have e10 : v10 = .int .i64 T := by obtain ⟨h5, h6, h7, h8, h9, h10, h11, _⟩ := hR.out; exact h10 (hdep ⟨5, .data⟩ (by simp) rfl)
      subst e10
      have kc0 : w'.cell? ⟨w.heap.size, 0, none⟩ = some (.int .i64 a) := hX.cell (by first | (simp; done) | (simp; omega)) (by first | assumption | (go_simp; done) | (simp; done))
      have kc1 : w'.cell? ⟨w.heap.size, 1, none⟩ = some (.int .i64 b) := hX.cell (by first | (simp; done) | (simp; omega)) (by first | assumption | (go_simp; done) | (simp; done))
      clear hdep
      refine StepG.mk rfl ?_; rw [ha0]; simp only [putL, Act.put, List.setIfInBounds_toArray, List.set_cons_zero, List.set_cons_succ]
      go_wp2_with fail
      refine HK.out _ _ ?_
      refine ⟨v5, v6, v7, v8, v9, (.int .i64 T), (.bool (decide (0 ≤ T))), (by rw [ha0]; simp only [putL, Act.put, List.setIfInBounds_toArray, List.set_cons_zero, List.set_cons_succ]), ?_, ?_, trivial⟩
      · obtain ⟨h5, h6, h7, h8, h9, h10, h11, _⟩ := hR.out
        exact Lib.hid ⟨fun h => h5 (by simpa using h), fun h => h6 (by simpa using h), fun h => h7 (by simpa using h), fun h => h8 (by simpa using h), fun h => h9 (by simpa using h), fun _ => rfl, fun _ => rfl, trivial⟩
      · exact hX
    intro s a' w8 hall hI
    try dsimp only at hI
    obtain ⟨v5, v6, v7, v8, v9, v10, v11, hact, hR, hXR, _⟩ := hI
    subst hact
    obtain ⟨h5, h6, h7, h8, h9, h10, h11, _⟩ := hR.out
    clear hR
    have e5 := h5 (hall 0 (by decide))
    subst e5
    clear h5
    have e6 := h6 (hall 1 (by decide))
    subst e6
    clear h6
    have e7 := h7 (hall 2 (by decide))
    subst e7
    clear h7
    have e8 := h8 (hall 3 (by decide))
    subst e8
    clear h8
    have e9 := h9 (hall 4 (by decide))
    subst e9
    clear h9
    have e10 := h10 (hall 5 (by decide))
    subst e10
    clear h10
    have e11 := h11 (hall 6 (by decide))
    subst e11
    clear h11
    clear hall
    rw [ha0]; simp only [putL, Act.put, List.setIfInBounds_toArray, List.set_cons_zero, List.set_cons_succ]
    clear ha0
    have B8 : Below w.heap.size w w8 := hXR.below (by first | assumption | exact (by repeat (first | exact Below.refl _ _ | exact Nat.le_refl _ | refine Below.alloc ?_ ?_ _ | refine Below.setCell ?_ ?_ _ | refine Below.drew ?_ | refine bl_drewN ?_ _ | (assumption) | refine bl_call ?_ (by assumption) ?_ | omega | (simp <;> omega)))) (by first | omega | (simp <;> omega)) (by simp <;> omega)
    have R8 := (hXR.block w.heap.size hws (by simp)).trans HR.out
    clear hXR
    by_cases hc : 0 ≤ T
    · have hcd : decide (0 ≤ T) = true := by simpa using hc
      have hle' : GM.Le (GM.pt (kk + 41)) (a, b) := by rw [HPT.out]; exact HLI.out.2 hc
      have hK39 : kk ≠ 39 := fun e => by
        subst e
        exact GM.lt_irrefl _ (HLT.out.trans_le hle')
      go_wp2_with fail
      go_roundw
      case rel => exact ⟨kk + 1, by simp, by omega, Lib.hid (.inr (by rw [show kk + 1 + 40 = kk + 41 by omega]; exact hle')), R8, B8⟩
      case measure => simp [intOf]; omega
    · have hcd : decide (0 ≤ T) = false := by simpa using hc
      have hlt' : GM.Lt (a, b) (GM.pt (kk + 41)) := by
        rw [← GM.not_le, HPT.out]
        exact fun h => hc (HLI.out.1 h)
      have hst := GM.fut_start kk (a, b) (by omega) hlt' HKK.out
      have hls := GM.lefts_start kk (a, b) (by omega) hlt' HLE.out
      have HST := Lib.hid hst
      have HLS := Lib.hid hls
      clear hst hls hlt' HOF HM HS HLI HPT HR d0 d1 HKK
      rw [hcd]
      clear hcd hc
      go_upto_region 5 with fail
      go_loopw [3, 4] (fun y s wr => ∃ (n : Nat) (X Y : Int) (l : List UInt8), y = .int .i64 ((n : Int) - 41) ∧ n ≤ 80 ∧ s = .string ⟨l.toArray⟩ ∧ l.length ≤ 2 * (80 - n) ∧ Hid (l ++ GM.fut n (X, Y) = GM.textOf (a, b)) ∧ Hid (GM.lefts n n (X, Y) = (0, 0)) ∧ wr.heap[w.heap.size]? = some (.cells #[.int .i64 X, .int .i64 Y] 23 (0, 0)) ∧ Below w.heap.size w wr) (fun y _ _ => (intOf y + 100).toNat)
      case atStart => exact ⟨kk + 41, a, b, [], by first | (simp; done) | (simp; omega), by omega, rfl, by simp, HST, HLS, R8, B8⟩
      case round =>
        obtain ⟨n, X, Y, l, rfl, hn, rfl, hl, HT, HL, R, B⟩ := hrel
        have hws1 := blk_lt R
        have hol : ¬ 9223372036854775807 < l.length + 1 := by omega
        have hol2 : ¬ 9223372036854775807 < l.length + 1 + 1 := by omega
        by_cases hn41 : 41 ≤ n
        · obtain ⟨m, rfl⟩ : ∃ m, n = m + 1 := ⟨n - 1, by omega⟩
          have hk : ((m + 1 : Nat) : Int) - 41 = (m : Int) - 40 := by omega
          rw [hk]
          have g1 : (0 : Int) ≤ (m : Int) - 40 := by omega
          have g2 : ¬ (m : Int) - 40 = -1 := by omega
          have gd1 : decide (40 ≤ (m : Int)) = true := by simp; omega
          have gd2 : ((m : Int) - 40 == -1) = false := by simp; omega
          have hsn := True.intro
          have R1 := R
          have hof := fun wx => refPower ((m : Int) - 40) wx (by omega) (by omega)
          rw [pw_pt] at hof
          have hkq : (m : Int) - 40 = (m : Int) - 40 := by omega
          rw [hkq] at hof
          clear hkq
          have hrd := fut_round_at m X Y (.inl (by omega))
          obtain ⟨s1, s2, s3, s4, s5, s6, s7, s8⟩ := GM.step_bd m (by omega) (X, Y) HL.out
          dsimp only at s1 s2 s3 s4 s5 s6 s7 s8
          have hnl := GM.lefts_next m (X, Y) HL.out
          have hdx := dgx_of m X Y
          obtain ⟨⟨px, py⟩, hpt⟩ : ∃ p, GM.pt m = p := ⟨_, rfl⟩
          rw [hpt] at hof s1 s2 s3 s4 hdx hrd
          dsimp only at hof s1 s2 s3 s4 hdx hrd
          have hpb := pt_bd ⟨m, by omega⟩
          dsimp only at hpb
          rw [hpt] at hpb
          dsimp only at hpb
          obtain ⟨p1, p2, p3, p4⟩ := hpb
          have hM := fun wx => refMinus X Y px py wx (by omega) (by omega) (by omega) (by omega)
          have hS := fun wx => refSign (X - px) (Y - py) wx (by omega) (by omega) (by omega) (by omega)
          obtain ⟨T, hT⟩ : ∃ T, GM.sgn (X - px) (Y - py) = T := ⟨_, rfl⟩
          rw [hT] at hS hdx
          have HOF := Lib.hid hof
          have HM := Lib.hid hM
          have HS := Lib.hid hS
          have HRD := Lib.hid hrd
          have HNL := Lib.hid hnl
          have HDX := Lib.hid hdx
          have HPT := Lib.hid hpt
          clear hof hM hS hrd hnl hdx hpt hT
          go_upto_region 9 with fail
          try simp only [gd1, gd2, hsn]
          clear gd1 gd2 g1 g2 hsn
          have d0 := row2_0 R1
          have d1 := row2_1 R1
          refine with_act fun a0 ha0 => ?_
          refine wp_region_inv (by kernel_rfl) (by kernel_rfl) (fun s a' w' => ∃ v27 v28 v29 v30 v31 v32 : Value, a' = putL a0 [(27, v27), (28, v28), (29, v29), (30, v30), (31, v31), (32, v32)] ∧ Hid ((s 0 = true → v27 = .agg #[.int .i64 X, .int .i64 Y]) ∧ (s 1 = true → v28 = .int .i64 ((m : Int) - 40)) ∧ (s 2 = true → v29 = .agg #[.int .i64 px, .int .i64 py]) ∧ (s 3 = true → v30 = .agg #[.int .i64 (X - px), .int .i64 (Y - py)]) ∧ (s 4 = true → v31 = .int .i64 T) ∧ (s 5 = true → v32 = .bool (decide (0 ≤ T))) ∧ True) ∧ BelX [] wr w' ∧ True) ?x2hzero ⟨?x2hs0, ?x2hs1, ?x2hs2, ?x2hs3, ?x2hs4, ?x2hs5, trivial⟩ ?x2hdone
          case x2hzero =>
            refine ⟨a0.tmps.getD 27 undef, a0.tmps.getD 28 undef, a0.tmps.getD 29 undef, a0.tmps.getD 30 undef, a0.tmps.getD 31 undef, a0.tmps.getD 32 undef, ?_, ?_, ?_, trivial⟩
            · simp only [putL, put_self]
            · exact Lib.hid ⟨fun h => (by simp at h), fun h => (by simp at h), fun h => (by simp at h), fun h => (by simp at h), fun h => (by simp at h), fun h => (by simp at h), trivial⟩
            · exact BelX.start _ _
          case x2hs0 =>
            intro s a' w' hsk hdep hI K hK
            try dsimp only at hI hK
            obtain ⟨v27, v28, v29, v30, v31, v32, hact, hR, hX, _⟩ := hI
            subst hact
            have HK := Lib.hid hK
            clear hK
            have kc0 : w'.cell? ⟨w.heap.size, 0, none⟩ = some (.int .i64 X) := hX.cell (by first | (simp; done) | (simp; omega)) (by first | assumption | (go_simp; done) | (simp; done))
            have kc1 : w'.cell? ⟨w.heap.size, 1, none⟩ = some (.int .i64 Y) := hX.cell (by first | (simp; done) | (simp; omega)) (by first | assumption | (go_simp; done) | (simp; done))
            clear hdep
            refine StepG.mk rfl ?_; rw [ha0]; simp only [putL, Act.put, List.setIfInBounds_toArray, List.set_cons_zero, List.set_cons_succ]
            go_wp2_with fail
            refine HK.out _ _ ?_
            refine ⟨(.agg #[.int .i64 X, .int .i64 Y]), v28, v29, v30, v31, v32, (by rw [ha0]; simp only [putL, Act.put, List.setIfInBounds_toArray, List.set_cons_zero, List.set_cons_succ]), ?_, ?_, trivial⟩
            · obtain ⟨h27, h28, h29, h30, h31, h32, _⟩ := hR.out
              exact Lib.hid ⟨fun _ => rfl, fun h => h28 (by simpa using h), fun h => h29 (by simpa using h), fun h => h30 (by simpa using h), fun h => h31 (by simpa using h), fun h => h32 (by simpa using h), trivial⟩
            · exact hX
          case x2hs1 =>
            intro s a' w' hsk hdep hI K hK
            try dsimp only at hI hK
            obtain ⟨v27, v28, v29, v30, v31, v32, hact, hR, hX, _⟩ := hI
            subst hact
            have HK := Lib.hid hK
            clear hK
            have kc0 : w'.cell? ⟨w.heap.size, 0, none⟩ = some (.int .i64 X) := hX.cell (by first | (simp; done) | (simp; omega)) (by first | assumption | (go_simp; done) | (simp; done))
            have kc1 : w'.cell? ⟨w.heap.size, 1, none⟩ = some (.int .i64 Y) := hX.cell (by first | (simp; done) | (simp; omega)) (by first | assumption | (go_simp; done) | (simp; done))
            clear hdep
            refine StepG.mk rfl ?_; rw [ha0]; simp only [putL, Act.put, List.setIfInBounds_toArray, List.set_cons_zero, List.set_cons_succ]
            go_wp2_with fail
            refine HK.out _ _ ?_
            refine ⟨v27, (.int .i64 ((m : Int) - 40)), v29, v30, v31, v32, (by rw [ha0]; simp only [putL, Act.put, List.setIfInBounds_toArray, List.set_cons_zero, List.set_cons_succ]), ?_, ?_, trivial⟩
            · obtain ⟨h27, h28, h29, h30, h31, h32, _⟩ := hR.out
              exact Lib.hid ⟨fun h => h27 (by simpa using h), fun _ => rfl, fun h => h29 (by simpa using h), fun h => h30 (by simpa using h), fun h => h31 (by simpa using h), fun h => h32 (by simpa using h), trivial⟩
            · exact hX
          case x2hs2 =>
            intro s a' w' hsk hdep hI K hK
            try dsimp only at hI hK
            obtain ⟨v27, v28, v29, v30, v31, v32, hact, hR, hX, _⟩ := hI
            subst hact
            have HK := Lib.hid hK
            clear hK
            have e28 : v28 = .int .i64 ((m : Int) - 40) := by obtain ⟨h27, h28, h29, h30, h31, h32, _⟩ := hR.out; exact h28 (hdep ⟨1, .data⟩ (by simp) rfl)
            subst e28
            have kc0 : w'.cell? ⟨w.heap.size, 0, none⟩ = some (.int .i64 X) := hX.cell (by first | (simp; done) | (simp; omega)) (by first | assumption | (go_simp; done) | (simp; done))
            have kc1 : w'.cell? ⟨w.heap.size, 1, none⟩ = some (.int .i64 Y) := hX.cell (by first | (simp; done) | (simp; omega)) (by first | assumption | (go_simp; done) | (simp; done))
            clear hdep
            refine StepG.mk rfl ?_; rw [ha0]; simp only [putL, Act.put, List.setIfInBounds_toArray, List.set_cons_zero, List.set_cons_succ]
            go_wp2_with fail
            refine ((HOF.out _)).mono ?_
            rintro e wn ⟨rfl, hb⟩
            go_wp2_with fail
            refine HK.out _ _ ?_
            refine ⟨v27, (.int .i64 ((m : Int) - 40)), (.agg #[.int .i64 px, .int .i64 py]), v30, v31, v32, (by rw [ha0]; simp only [putL, Act.put, List.setIfInBounds_toArray, List.set_cons_zero, List.set_cons_succ]), ?_, ?_, trivial⟩
            · obtain ⟨h27, h28, h29, h30, h31, h32, _⟩ := hR.out
              exact Lib.hid ⟨fun h => h27 (by simpa using h), fun _ => rfl, fun _ => rfl, fun h => h30 (by simpa using h), fun h => h31 (by simpa using h), fun h => h32 (by simpa using h), trivial⟩
            · exact hX.call hb
          case x2hs3 =>
            intro s a' w' hsk hdep hI K hK
            try dsimp only at hI hK
            obtain ⟨v27, v28, v29, v30, v31, v32, hact, hR, hX, _⟩ := hI
            subst hact
            have HK := Lib.hid hK
            clear hK
            have e27 : v27 = .agg #[.int .i64 X, .int .i64 Y] := by obtain ⟨h27, h28, h29, h30, h31, h32, _⟩ := hR.out; exact h27 (hdep ⟨0, .data⟩ (by simp) rfl)
            subst e27
            have e29 : v29 = .agg #[.int .i64 px, .int .i64 py] := by obtain ⟨h27, h28, h29, h30, h31, h32, _⟩ := hR.out; exact h29 (hdep ⟨2, .data⟩ (by simp) rfl)
            subst e29
            have kc0 : w'.cell? ⟨w.heap.size, 0, none⟩ = some (.int .i64 X) := hX.cell (by first | (simp; done) | (simp; omega)) (by first | assumption | (go_simp; done) | (simp; done))
            have kc1 : w'.cell? ⟨w.heap.size, 1, none⟩ = some (.int .i64 Y) := hX.cell (by first | (simp; done) | (simp; omega)) (by first | assumption | (go_simp; done) | (simp; done))
            clear hdep
            refine StepG.mk rfl ?_; rw [ha0]; simp only [putL, Act.put, List.setIfInBounds_toArray, List.set_cons_zero, List.set_cons_succ]
            go_wp2_with fail
            refine ((HM.out _)).mono ?_
            rintro e wn ⟨rfl, hb⟩
            go_wp2_with fail
            refine HK.out _ _ ?_
            refine ⟨(.agg #[.int .i64 X, .int .i64 Y]), v28, (.agg #[.int .i64 px, .int .i64 py]), (.agg #[.int .i64 (X - px), .int .i64 (Y - py)]), v31, v32, (by rw [ha0]; simp only [putL, Act.put, List.setIfInBounds_toArray, List.set_cons_zero, List.set_cons_succ]), ?_, ?_, trivial⟩
            · obtain ⟨h27, h28, h29, h30, h31, h32, _⟩ := hR.out
              exact Lib.hid ⟨fun _ => rfl, fun h => h28 (by simpa using h), fun _ => rfl, fun _ => rfl, fun h => h31 (by simpa using h), fun h => h32 (by simpa using h), trivial⟩
            · exact hX.call hb
          case x2hs4 =>
            intro s a' w' hsk hdep hI K hK
            try dsimp only at hI hK
            obtain ⟨v27, v28, v29, v30, v31, v32, hact, hR, hX, _⟩ := hI
            subst hact
            have HK := Lib.hid hK
            clear hK
            have e30 : v30 = .agg #[.int .i64 (X - px), .int .i64 (Y - py)] := by obtain ⟨h27, h28, h29, h30, h31, h32, _⟩ := hR.out; exact h30 (hdep ⟨3, .data⟩ (by simp) rfl)
            subst e30
            have kc0 : w'.cell? ⟨w.heap.size, 0, none⟩ = some (.int .i64 X) := hX.cell (by first | (simp; done) | (simp; omega)) (by first | assumption | (go_simp; done) | (simp; done))
            have kc1 : w'.cell? ⟨w.heap.size, 1, none⟩ = some (.int .i64 Y) := hX.cell (by first | (simp; done) | (simp; omega)) (by first | assumption | (go_simp; done) | (simp; done))
            clear hdep
            refine StepG.mk rfl ?_; rw [ha0]; simp only [putL, Act.put, List.setIfInBounds_toArray, List.set_cons_zero, List.set_cons_succ]
            go_wp2_with fail
            refine ((HS.out _)).mono ?_
            rintro e wn ⟨rfl, hb⟩
            go_wp2_with fail
            refine HK.out _ _ ?_
            refine ⟨v27, v28, v29, (.agg #[.int .i64 (X - px), .int .i64 (Y - py)]), (.int .i64 T), v32, (by rw [ha0]; simp only [putL, Act.put, List.setIfInBounds_toArray, List.set_cons_zero, List.set_cons_succ]), ?_, ?_, trivial⟩
            · obtain ⟨h27, h28, h29, h30, h31, h32, _⟩ := hR.out
              exact Lib.hid ⟨fun h => h27 (by simpa using h), fun h => h28 (by simpa using h), fun h => h29 (by simpa using h), fun _ => rfl, fun _ => rfl, fun h => h32 (by simpa using h), trivial⟩
            · exact hX.call hb
          case x2hs5 =>
            intro s a' w' hsk hdep hI K hK
            try dsimp only at hI hK
            obtain ⟨v27, v28, v29, v30, v31, v32, hact, hR, hX, _⟩ := hI
            subst hact
            have HK := Lib.hid hK
            clear hK
            have e31 : v31 = .int .i64 T := by obtain ⟨h27, h28, h29, h30, h31, h32, _⟩ := hR.out; exact h31 (hdep ⟨4, .data⟩ (by simp) rfl)
            subst e31
            have kc0 : w'.cell? ⟨w.heap.size, 0, none⟩ = some (.int .i64 X) := hX.cell (by first | (simp; done) | (simp; omega)) (by first | assumption | (go_simp; done) | (simp; done))
            have kc1 : w'.cell? ⟨w.heap.size, 1, none⟩ = some (.int .i64 Y) := hX.cell (by first | (simp; done) | (simp; omega)) (by first | assumption | (go_simp; done) | (simp; done))
            clear hdep
            refine StepG.mk rfl ?_; rw [ha0]; simp only [putL, Act.put, List.setIfInBounds_toArray, List.set_cons_zero, List.set_cons_succ]
            go_wp2_with fail
            refine HK.out _ _ ?_
            refine ⟨v27, v28, v29, v30, (.int .i64 T), (.bool (decide (0 ≤ T))), (by rw [ha0]; simp only [putL, Act.put, List.setIfInBounds_toArray, List.set_cons_zero, List.set_cons_succ]), ?_, ?_, trivial⟩
            · obtain ⟨h27, h28, h29, h30, h31, h32, _⟩ := hR.out
              exact Lib.hid ⟨fun h => h27 (by simpa using h), fun h => h28 (by simpa using h), fun h => h29 (by simpa using h), fun h => h30 (by simpa using h), fun _ => rfl, fun _ => rfl, trivial⟩
            · exact hX
          intro s a' w8 hall hI
          try dsimp only at hI
          obtain ⟨v27, v28, v29, v30, v31, v32, hact, hR, hXR, _⟩ := hI
          subst hact
          obtain ⟨h27, h28, h29, h30, h31, h32, _⟩ := hR.out
          clear hR
          have e27 := h27 (hall 0 (by decide))
          subst e27
          clear h27
          have e28 := h28 (hall 1 (by decide))
          subst e28
          clear h28
          have e29 := h29 (hall 2 (by decide))
          subst e29
          clear h29
          have e30 := h30 (hall 3 (by decide))
          subst e30
          clear h30
          have e31 := h31 (hall 4 (by decide))
          subst e31
          clear h31
          have e32 := h32 (hall 5 (by decide))
          subst e32
          clear h32
          clear hall
          rw [ha0]; simp only [putL, Act.put, List.setIfInBounds_toArray, List.set_cons_zero, List.set_cons_succ]
          clear ha0
          have B8 : Below w.heap.size w w8 := hXR.below (by first | assumption | exact (by repeat (first | exact Below.refl _ _ | exact Nat.le_refl _ | refine Below.alloc ?_ ?_ _ | refine Below.setCell ?_ ?_ _ | refine Below.drew ?_ | refine bl_drewN ?_ _ | (assumption) | refine bl_call ?_ (by assumption) ?_ | omega | (simp <;> omega)))) (by first | omega | (simp <;> omega)) (by simp <;> omega)
          have R8 := (hXR.block w.heap.size hws1 (by simp)).trans R1
          have hws8 := blk_lt R8
          clear hXR d0 d1
          by_cases hc : 0 ≤ T
          · have hcd : decide (0 ≤ T) = true := by simpa using hc
            rw [hcd]
            clear hcd
            have pblk1 := R8
            have hds := HDX.out.2 hc
            have HDS := Lib.hid hds
            clear hds
            go_upto_region 10 with fail
            have pblk1 : w8.heap[w.heap.size]? = some (.cells #[.int .i64 X, .int .i64 Y] 23 (0, 0)) := by first | assumption | exact hblk1
            refine with_act fun a0 ha0 => ?_
            refine wp_region_inv (by kernel_rfl) (by kernel_rfl) (fun s a' w' => ∃ v33 v34 v35 v36 : Value, a' = putL a0 [(33, v33), (34, v34), (35, v35), (36, v36)] ∧ Hid ((s 0 = true → v33 = .agg #[.int .i64 X, .int .i64 Y]) ∧ (s 1 = true → v34 = .int .i64 ((m : Int) - 40)) ∧ (s 2 = true → v35 = .agg #[.int .i64 px, .int .i64 py]) ∧ (s 3 = true → v36 = .agg #[.int .i64 (X - px), .int .i64 (Y - py)]) ∧ True) ∧ BelX [w.heap.size] w8 w' ∧ (∃ (c0 c1 : Value), w'.heap[w.heap.size]? = some (.cells #[c0, c1] 23 (0, 0)) ∧ (s 4 = true → c0 = .int .i64 (X - px) ∧ c1 = .int .i64 (Y - py)) ∧ (s 4 = false → c0 = .int .i64 X ∧ c1 = .int .i64 Y)) ∧ (s 4 = true → s 0 = true ∧ s 1 = true ∧ s 2 = true ∧ s 3 = true ∧ True) ∧ True) ?x3hzero ⟨?x3hs0, ?x3hs1, ?x3hs2, ?x3hs3, ?x3hs4, trivial⟩ ?x3hdone
            case x3hzero =>
              refine ⟨a0.tmps.getD 33 undef, a0.tmps.getD 34 undef, a0.tmps.getD 35 undef, a0.tmps.getD 36 undef, ?_, ?_, ?_, ?_, ?_, trivial⟩
              · simp only [putL, put_self]
              · exact Lib.hid ⟨fun h => (by simp at h), fun h => (by simp at h), fun h => (by simp at h), fun h => (by simp at h), trivial⟩
              · exact BelX.start _ _
              · exact ⟨.int .i64 X, .int .i64 Y, pblk1, fun h => (by simp at h), fun _ => ⟨rfl, rfl⟩⟩
              · exact fun h => (by simp at h)
            case x3hs0 =>
              intro s a' w' hsk hdep hI K hK
              try dsimp only at hI hK
              obtain ⟨v33, v34, v35, v36, hact, hR, hX, hP1, hQ1, _⟩ := hI
              subst hact
              have HK := Lib.hid hK
              clear hK
              obtain ⟨b1_0, b1_1, pb1, pt1, pf1⟩ := hP1
              have hs0 : s 4 = false := Bool.eq_false_iff.2 fun h => (by have := hQ1 h; simp [hsk] at this)
              obtain ⟨q1_0, q1_1⟩ := pf1 hs0
              subst q1_0
              subst q1_1
              clear hs0
              have kp1_0 := cell_of_row w' (w.heap.size) 0 _ _ _ pb1
              have kp1_1 := cell_of_row w' (w.heap.size) 1 _ _ _ pb1
              simp only [List.getElem?_toArray, List.getElem?_cons_zero, List.getElem?_cons_succ] at kp1_0 kp1_1
              have kq1 : ∀ o, w'.frozen? ⟨w.heap.size, o, none⟩ = false := fun o => frozen_of_row w' _ o _ _ pb1
              have hPB1 := Lib.hid pb1
              clear pb1
              have hPT1 := Lib.hid pt1
              clear pt1
              have hPF1 := Lib.hid pf1
              clear pf1
              clear hdep
              refine StepG.mk rfl ?_; rw [ha0]; simp only [putL, Act.put, List.setIfInBounds_toArray, List.set_cons_zero, List.set_cons_succ]
              go_wp2_with fail
              refine HK.out _ _ ?_
              refine ⟨(.agg #[.int .i64 X, .int .i64 Y]), v34, v35, v36, (by rw [ha0]; simp only [putL, Act.put, List.setIfInBounds_toArray, List.set_cons_zero, List.set_cons_succ]), ?_, ?_, ?_, ?_, trivial⟩
              · obtain ⟨h33, h34, h35, h36, _⟩ := hR.out
                exact Lib.hid ⟨fun _ => rfl, fun h => h34 (by simpa using h), fun h => h35 (by simpa using h), fun h => h36 (by simpa using h), trivial⟩
              · exact hX
              · exact ⟨_, _, hPB1.out, fun h => hPT1.out (by simpa using h), fun h => ⟨rfl, rfl⟩⟩
              · exact fun h => (by have h1 := hQ1 (by simpa using h); simp [h1])
            case x3hs1 =>
              intro s a' w' hsk hdep hI K hK
              try dsimp only at hI hK
              obtain ⟨v33, v34, v35, v36, hact, hR, hX, hP1, hQ1, _⟩ := hI
              subst hact
              have HK := Lib.hid hK
              clear hK
              obtain ⟨b1_0, b1_1, pb1, pt1, pf1⟩ := hP1
              have hs0 : s 4 = false := Bool.eq_false_iff.2 fun h => (by have := hQ1 h; simp [hsk] at this)
              obtain ⟨q1_0, q1_1⟩ := pf1 hs0
              subst q1_0
              subst q1_1
              clear hs0
              have kp1_0 := cell_of_row w' (w.heap.size) 0 _ _ _ pb1
              have kp1_1 := cell_of_row w' (w.heap.size) 1 _ _ _ pb1
              simp only [List.getElem?_toArray, List.getElem?_cons_zero, List.getElem?_cons_succ] at kp1_0 kp1_1
              have kq1 : ∀ o, w'.frozen? ⟨w.heap.size, o, none⟩ = false := fun o => frozen_of_row w' _ o _ _ pb1
              have hPB1 := Lib.hid pb1
              clear pb1
              have hPT1 := Lib.hid pt1
              clear pt1
              have hPF1 := Lib.hid pf1
              clear pf1
              clear hdep
              refine StepG.mk rfl ?_; rw [ha0]; simp only [putL, Act.put, List.setIfInBounds_toArray, List.set_cons_zero, List.set_cons_succ]
              go_wp2_with fail
              refine HK.out _ _ ?_
              refine ⟨v33, (.int .i64 ((m : Int) - 40)), v35, v36, (by rw [ha0]; simp only [putL, Act.put, List.setIfInBounds_toArray, List.set_cons_zero, List.set_cons_succ]), ?_, ?_, ?_, ?_, trivial⟩
              · obtain ⟨h33, h34, h35, h36, _⟩ := hR.out
                exact Lib.hid ⟨fun h => h33 (by simpa using h), fun _ => rfl, fun h => h35 (by simpa using h), fun h => h36 (by simpa using h), trivial⟩
              · exact hX
              · exact ⟨_, _, hPB1.out, fun h => hPT1.out (by simpa using h), fun h => ⟨rfl, rfl⟩⟩
              · exact fun h => (by have h1 := hQ1 (by simpa using h); simp [h1])
            case x3hs2 =>
              intro s a' w' hsk hdep hI K hK
              try dsimp only at hI hK
              obtain ⟨v33, v34, v35, v36, hact, hR, hX, hP1, hQ1, _⟩ := hI
              subst hact
              have HK := Lib.hid hK
              clear hK
              have e34 : v34 = .int .i64 ((m : Int) - 40) := by obtain ⟨h33, h34, h35, h36, _⟩ := hR.out; exact h34 (hdep ⟨1, .data⟩ (by simp) rfl)
              subst e34
              obtain ⟨b1_0, b1_1, pb1, pt1, pf1⟩ := hP1
              have hs0 : s 4 = false := Bool.eq_false_iff.2 fun h => (by have := hQ1 h; simp [hsk] at this)
              obtain ⟨q1_0, q1_1⟩ := pf1 hs0
              subst q1_0
              subst q1_1
              clear hs0
              have kp1_0 := cell_of_row w' (w.heap.size) 0 _ _ _ pb1
              have kp1_1 := cell_of_row w' (w.heap.size) 1 _ _ _ pb1
              simp only [List.getElem?_toArray, List.getElem?_cons_zero, List.getElem?_cons_succ] at kp1_0 kp1_1
              have kq1 : ∀ o, w'.frozen? ⟨w.heap.size, o, none⟩ = false := fun o => frozen_of_row w' _ o _ _ pb1
              have hPB1 := Lib.hid pb1
              clear pb1
              have hPT1 := Lib.hid pt1
              clear pt1
              have hPF1 := Lib.hid pf1
              clear pf1
              clear hdep
              refine StepG.mk rfl ?_; rw [ha0]; simp only [putL, Act.put, List.setIfInBounds_toArray, List.set_cons_zero, List.set_cons_succ]
              go_wp2_with fail
              refine ((HOF.out _)).mono ?_
              rintro e wn ⟨rfl, hb⟩
              go_wp2_with fail
              refine HK.out _ _ ?_
              refine ⟨v33, (.int .i64 ((m : Int) - 40)), (.agg #[.int .i64 px, .int .i64 py]), v36, (by rw [ha0]; simp only [putL, Act.put, List.setIfInBounds_toArray, List.set_cons_zero, List.set_cons_succ]), ?_, ?_, ?_, ?_, trivial⟩
              · obtain ⟨h33, h34, h35, h36, _⟩ := hR.out
                exact Lib.hid ⟨fun h => h33 (by simpa using h), fun _ => rfl, fun _ => rfl, fun h => h36 (by simpa using h), trivial⟩
              · exact hX.call hb
              · exact ⟨_, _, (hb.block _ (blk_lt hPB1.out)).trans hPB1.out, fun h => hPT1.out (by simpa using h), fun h => ⟨rfl, rfl⟩⟩
              · exact fun h => (by have h1 := hQ1 (by simpa using h); simp [h1])
            case x3hs3 =>
              intro s a' w' hsk hdep hI K hK
              try dsimp only at hI hK
              obtain ⟨v33, v34, v35, v36, hact, hR, hX, hP1, hQ1, _⟩ := hI
              subst hact
              have HK := Lib.hid hK
              clear hK
              have e33 : v33 = .agg #[.int .i64 X, .int .i64 Y] := by obtain ⟨h33, h34, h35, h36, _⟩ := hR.out; exact h33 (hdep ⟨0, .data⟩ (by simp) rfl)
              subst e33
              have e35 : v35 = .agg #[.int .i64 px, .int .i64 py] := by obtain ⟨h33, h34, h35, h36, _⟩ := hR.out; exact h35 (hdep ⟨2, .data⟩ (by simp) rfl)
              subst e35
              obtain ⟨b1_0, b1_1, pb1, pt1, pf1⟩ := hP1
              have hs0 : s 4 = false := Bool.eq_false_iff.2 fun h => (by have := hQ1 h; simp [hsk] at this)
              obtain ⟨q1_0, q1_1⟩ := pf1 hs0
              subst q1_0
              subst q1_1
              clear hs0
              have kp1_0 := cell_of_row w' (w.heap.size) 0 _ _ _ pb1
              have kp1_1 := cell_of_row w' (w.heap.size) 1 _ _ _ pb1
              simp only [List.getElem?_toArray, List.getElem?_cons_zero, List.getElem?_cons_succ] at kp1_0 kp1_1
              have kq1 : ∀ o, w'.frozen? ⟨w.heap.size, o, none⟩ = false := fun o => frozen_of_row w' _ o _ _ pb1
              have hPB1 := Lib.hid pb1
              clear pb1
              have hPT1 := Lib.hid pt1
              clear pt1
              have hPF1 := Lib.hid pf1
              clear pf1
              clear hdep
              refine StepG.mk rfl ?_; rw [ha0]; simp only [putL, Act.put, List.setIfInBounds_toArray, List.set_cons_zero, List.set_cons_succ]
              go_wp2_with fail
              refine ((HM.out _)).mono ?_
              rintro e wn ⟨rfl, hb⟩
              go_wp2_with fail
              refine HK.out _ _ ?_
              refine ⟨(.agg #[.int .i64 X, .int .i64 Y]), v34, (.agg #[.int .i64 px, .int .i64 py]), (.agg #[.int .i64 (X - px), .int .i64 (Y - py)]), (by rw [ha0]; simp only [putL, Act.put, List.setIfInBounds_toArray, List.set_cons_zero, List.set_cons_succ]), ?_, ?_, ?_, ?_, trivial⟩
              · obtain ⟨h33, h34, h35, h36, _⟩ := hR.out
                exact Lib.hid ⟨fun _ => rfl, fun h => h34 (by simpa using h), fun _ => rfl, fun _ => rfl, trivial⟩
              · exact hX.call hb
              · exact ⟨_, _, (hb.block _ (blk_lt hPB1.out)).trans hPB1.out, fun h => hPT1.out (by simpa using h), fun h => ⟨rfl, rfl⟩⟩
              · exact fun h => (by have h1 := hQ1 (by simpa using h); simp [h1])
            case x3hs4 =>
              intro s a' w' hsk hdep hI K hK
              try dsimp only at hI hK
              obtain ⟨v33, v34, v35, v36, hact, hR, hX, hP1, hQ1, _⟩ := hI
              subst hact
              have HK := Lib.hid hK
              clear hK
              have e36 : v36 = .agg #[.int .i64 (X - px), .int .i64 (Y - py)] := by obtain ⟨h33, h34, h35, h36, _⟩ := hR.out; exact h36 (hdep ⟨3, .data⟩ (by simp) rfl)
              subst e36
              obtain ⟨b1_0, b1_1, pb1, pt1, pf1⟩ := hP1
              have hs0 : s 4 = false := hsk
              obtain ⟨q1_0, q1_1⟩ := pf1 hs0
              subst q1_0
              subst q1_1
              clear hs0
              have kp1_0 := cell_of_row w' (w.heap.size) 0 _ _ _ pb1
              have kp1_1 := cell_of_row w' (w.heap.size) 1 _ _ _ pb1
              simp only [List.getElem?_toArray, List.getElem?_cons_zero, List.getElem?_cons_succ] at kp1_0 kp1_1
              have kq1 : ∀ o, w'.frozen? ⟨w.heap.size, o, none⟩ = false := fun o => frozen_of_row w' _ o _ _ pb1
              have hPB1 := Lib.hid pb1
              clear pb1
              have hPT1 := Lib.hid pt1
              clear pt1
              have hPF1 := Lib.hid pf1
              clear pf1
              have hd0 : s 0 = true := hdep ⟨0, .phase⟩ (by simp) rfl
              have hd1 : s 1 = true := hdep ⟨1, .phase⟩ (by simp) rfl
              have hd2 : s 2 = true := hdep ⟨2, .phase⟩ (by simp) rfl
              have hd3 : s 3 = true := hdep ⟨3, .data⟩ (by simp) rfl
              clear hdep
              refine StepG.mk rfl ?_; rw [ha0]; simp only [putL, Act.put, List.setIfInBounds_toArray, List.set_cons_zero, List.set_cons_succ]
              go_wp2_with fail
              refine HK.out _ _ ?_
              refine ⟨v33, v34, v35, (.agg #[.int .i64 (X - px), .int .i64 (Y - py)]), (by rw [ha0]; simp only [putL, Act.put, List.setIfInBounds_toArray, List.set_cons_zero, List.set_cons_succ]), ?_, ?_, ?_, ?_, trivial⟩
              · obtain ⟨h33, h34, h35, h36, _⟩ := hR.out
                exact Lib.hid ⟨fun h => h33 (by simpa using h), fun h => h34 (by simpa using h), fun h => h35 (by simpa using h), fun _ => rfl, trivial⟩
              · exact ((hX.setOld (p := ⟨w.heap.size, 0, none⟩) (by simp) _).setOld (p := ⟨w.heap.size, 1, none⟩) (by simp) _)
              · exact ⟨_, _, blk_set2 hPB1.out, fun _ => ⟨rfl, rfl⟩, fun h => (by simp at h)⟩
              · exact fun _ => (by simp [hd0, hd1, hd2, hd3])
            intro s a' w9 hall hI
            try dsimp only at hI
            obtain ⟨v33, v34, v35, v36, hact, hR, hXR, hP1, hQ1, _⟩ := hI
            subst hact
            obtain ⟨h33, h34, h35, h36, _⟩ := hR.out
            clear hR
            have e33 := h33 (hall 0 (by decide))
            subst e33
            clear h33
            have e34 := h34 (hall 1 (by decide))
            subst e34
            clear h34
            have e35 := h35 (hall 2 (by decide))
            subst e35
            clear h35
            have e36 := h36 (hall 3 (by decide))
            subst e36
            clear h36
            obtain ⟨c0, c1, pblkR1, hpt, _⟩ := hP1
            clear hQ1
            obtain ⟨es0, es1⟩ := hpt (hall 4 (by decide))
            subst es0
            subst es1
            clear hpt
            try clear pblk1
            have pblk1 := pblkR1
            clear pblkR1
            clear hall
            rw [ha0]; simp only [putL, Act.put, List.setIfInBounds_toArray, List.set_cons_zero, List.set_cons_succ]
            clear ha0
            have B9 : Below w.heap.size w w9 := hXR.below (by first | assumption | exact (by repeat (first | exact Below.refl _ _ | exact Nat.le_refl _ | refine Below.alloc ?_ ?_ _ | refine Below.setCell ?_ ?_ _ | refine Below.drew ?_ | refine bl_drewN ?_ _ | (assumption) | refine bl_call ?_ (by assumption) ?_ | omega | (simp <;> omega)))) (by first | omega | (simp <;> omega)) (by simp <;> omega)
            clear hXR
            go_wp2_with fail
            go_roundw
            case rel =>
              refine ⟨m, X - px, Y - py, l ++ [] ++ [49], by first | rfl | (congr 1; omega), by omega, by simp [str_snoc], by simp; omega, Lib.hid ?_, Lib.hid ?_, pblk1, B9⟩
              · rw [← HT.out, HRD.out, if_pos HDS.out, if_pos HDS.out]; simp [show ¬ m = 39 by omega]
              · have := HNL.out
                rw [GM.nxx_one m _ HDS.out] at this
                unfold GM.sub at this
                rw [HPT.out] at this
                exact this
            case measure => simp [intOf] <;> omega
          · have hcd : decide (0 ≤ T) = false := by simpa using hc
            rw [hcd]
            clear hcd
            have hds : ¬ GM.dgx m (X, Y) = true := fun h => hc (HDX.out.1 h)
            have HDS := Lib.hid hds
            clear hds
            go_wp2_with fail
            go_roundw
            case rel =>
              refine ⟨m, X, Y, l ++ [] ++ [48], by first | rfl | (congr 1; omega), by omega, by simp [str_snoc], by simp; omega, Lib.hid ?_, Lib.hid ?_, R8, B8⟩
              · rw [← HT.out, HRD.out, if_neg HDS.out, if_neg HDS.out]; simp [show ¬ m = 39 by omega]
              · have := HNL.out
                rw [GM.nxx_none m _ (by simpa using HDS.out)] at this
                exact this
            case measure => simp [intOf] <;> omega
        · -- behind the point: the rest is asked first
          by_cases hx : (X, Y) = ((0, 0) : Int × Int)
          · obtain ⟨rfl, rfl⟩ := Prod.mk.inj hx
            have hfin : GM.textOf (a, b) = l := by rw [← HT.out, GM.fut_stop n (by omega), List.append_nil]
            have HFIN := Lib.hid hfin
            have hsg := fun wx => refSign 0 0 wx (by omega) (by omega) (by omega) (by omega)
            rw [(GM.sgn_zero_iff 0 0).2 ⟨rfl, rfl⟩] at hsg
            have HSG := Lib.hid hsg
            have g1 : ¬ (0 : Int) ≤ (n : Int) - 41 := by omega
            have gd1 : decide (41 ≤ (n : Int)) = false := by simp; omega
            have d0 := row2_0 R
            have d1 := row2_1 R
            clear hfin hsg hx R
            go_wp2_with fail
            refine (HSG.out _).mono ?_
            rintro e w1 ⟨rfl, hb1⟩
            have B1 := bl_call B hb1 (by omega)
            go_wp2_with fail
            go_ret
            exact ⟨by rw [HFIN.out]; rfl, B1⟩
          · obtain ⟨m, rfl⟩ : ∃ m, n = m + 1 := ⟨n - 1, by have := GM.lefts_more n _ HL.out hx; omega⟩
            have hbd := GM.step_bd m (by omega) (X, Y) HL.out
            dsimp only at hbd
            have hsg := fun wx => refSign X Y wx (by omega) (by omega) (by omega) (by omega)
            have hne : GM.sgn X Y ≠ 0 := fun h => hx (by obtain ⟨h1, h2⟩ := (GM.sgn_zero_iff X Y).1 h; rw [h1, h2])
            obtain ⟨S, hS⟩ : ∃ S, GM.sgn X Y = S := ⟨_, rfl⟩
            rw [hS] at hsg hne
            have HSG := Lib.hid hsg
            have HX := Lib.hid hx
            have hk : ((m + 1 : Nat) : Int) - 41 = (m : Int) - 40 := by omega
            rw [hk]
            have g1 : ¬ (0 : Int) ≤ (m : Int) - 40 := by omega
            have gd1 : decide (40 ≤ (m : Int)) = false := by simp; omega
            clear hsg hS hbd hx
            have d0 := row2_0 R
            have d1 := row2_1 R
            go_wp2_with fail
            refine (HSG.out _).mono ?_
            rintro e w1 ⟨rfl, hb1⟩
            have R1 := blk_call hb1 R
            have B1 := bl_call B hb1 (by omega)
            have hws1 := blk_lt R1
            have hsn : (S != 0) = true := by simpa using hne
            clear hne
            clear R B d0 d1 hb1 HSG
            by_cases hm : m = 39
            · have gd2 : ((m : Int) - 40 == -1) = true := by simp; omega
              have g2 : (m : Int) - 40 = -1 := by omega
              have hof := fun wx => refPower ((m : Int) - 40) wx (by omega) (by omega)
              rw [pw_pt] at hof
              have hkq : (m : Int) - 40 = -1 := by omega
              rw [hkq] at hof
              clear hkq
              have hrd := fut_round_at m X Y (.inr HX.out)
              obtain ⟨s1, s2, s3, s4, s5, s6, s7, s8⟩ := GM.step_bd m (by omega) (X, Y) HL.out
              dsimp only at s1 s2 s3 s4 s5 s6 s7 s8
              have hnl := GM.lefts_next m (X, Y) HL.out
              have hdx := dgx_of m X Y
              obtain ⟨⟨px, py⟩, hpt⟩ : ∃ p, GM.pt m = p := ⟨_, rfl⟩
              rw [hpt] at hof s1 s2 s3 s4 hdx hrd
              dsimp only at hof s1 s2 s3 s4 hdx hrd
              have hpb := pt_bd ⟨m, by omega⟩
              dsimp only at hpb
              rw [hpt] at hpb
              dsimp only at hpb
              obtain ⟨p1, p2, p3, p4⟩ := hpb
              have hM := fun wx => refMinus X Y px py wx (by omega) (by omega) (by omega) (by omega)
              have hS := fun wx => refSign (X - px) (Y - py) wx (by omega) (by omega) (by omega) (by omega)
              obtain ⟨T, hT⟩ : ∃ T, GM.sgn (X - px) (Y - py) = T := ⟨_, rfl⟩
              rw [hT] at hS hdx
              have HOF := Lib.hid hof
              have HM := Lib.hid hM
              have HS := Lib.hid hS
              have HRD := Lib.hid hrd
              have HNL := Lib.hid hnl
              have HDX := Lib.hid hdx
              have HPT := Lib.hid hpt
              clear hof hM hS hrd hnl hdx hpt hT
              go_upto_region 9 with fail
              try simp only [gd1, gd2, hsn]
              clear gd1 gd2 g1 g2 hsn
              have d0 := row2_0 R1
              have d1 := row2_1 R1
              refine with_act fun a0 ha0 => ?_
              refine wp_region_inv (by kernel_rfl) (by kernel_rfl) (fun s a' w' => ∃ v27 v28 v29 v30 v31 v32 : Value, a' = putL a0 [(27, v27), (28, v28), (29, v29), (30, v30), (31, v31), (32, v32)] ∧ Hid ((s 0 = true → v27 = .agg #[.int .i64 X, .int .i64 Y]) ∧ (s 1 = true → v28 = .int .i64 (-1)) ∧ (s 2 = true → v29 = .agg #[.int .i64 px, .int .i64 py]) ∧ (s 3 = true → v30 = .agg #[.int .i64 (X - px), .int .i64 (Y - py)]) ∧ (s 4 = true → v31 = .int .i64 T) ∧ (s 5 = true → v32 = .bool (decide (0 ≤ T))) ∧ True) ∧ BelX [] w1 w' ∧ True) ?x4hzero ⟨?x4hs0, ?x4hs1, ?x4hs2, ?x4hs3, ?x4hs4, ?x4hs5, trivial⟩ ?x4hdone
              case x4hzero =>
                refine ⟨a0.tmps.getD 27 undef, a0.tmps.getD 28 undef, a0.tmps.getD 29 undef, a0.tmps.getD 30 undef, a0.tmps.getD 31 undef, a0.tmps.getD 32 undef, ?_, ?_, ?_, trivial⟩
                · simp only [putL, put_self]
                · exact Lib.hid ⟨fun h => (by simp at h), fun h => (by simp at h), fun h => (by simp at h), fun h => (by simp at h), fun h => (by simp at h), fun h => (by simp at h), trivial⟩
                · exact BelX.start _ _
              case x4hs0 =>
                intro s a' w' hsk hdep hI K hK
                try dsimp only at hI hK
                obtain ⟨v27, v28, v29, v30, v31, v32, hact, hR, hX, _⟩ := hI
                subst hact
                have HK := Lib.hid hK
                clear hK
                have kc0 : w'.cell? ⟨w.heap.size, 0, none⟩ = some (.int .i64 X) := hX.cell (by first | (simp; done) | (simp; omega)) (by first | assumption | (go_simp; done) | (simp; done))
                have kc1 : w'.cell? ⟨w.heap.size, 1, none⟩ = some (.int .i64 Y) := hX.cell (by first | (simp; done) | (simp; omega)) (by first | assumption | (go_simp; done) | (simp; done))
                clear hdep
                refine StepG.mk rfl ?_; rw [ha0]; simp only [putL, Act.put, List.setIfInBounds_toArray, List.set_cons_zero, List.set_cons_succ]
                go_wp2_with fail
                refine HK.out _ _ ?_
                refine ⟨(.agg #[.int .i64 X, .int .i64 Y]), v28, v29, v30, v31, v32, (by rw [ha0]; simp only [putL, Act.put, List.setIfInBounds_toArray, List.set_cons_zero, List.set_cons_succ]), ?_, ?_, trivial⟩
                · obtain ⟨h27, h28, h29, h30, h31, h32, _⟩ := hR.out
                  exact Lib.hid ⟨fun _ => rfl, fun h => h28 (by simpa using h), fun h => h29 (by simpa using h), fun h => h30 (by simpa using h), fun h => h31 (by simpa using h), fun h => h32 (by simpa using h), trivial⟩
                · exact hX
              case x4hs1 =>
                intro s a' w' hsk hdep hI K hK
                try dsimp only at hI hK
                obtain ⟨v27, v28, v29, v30, v31, v32, hact, hR, hX, _⟩ := hI
                subst hact
                have HK := Lib.hid hK
                clear hK
                have kc0 : w'.cell? ⟨w.heap.size, 0, none⟩ = some (.int .i64 X) := hX.cell (by first | (simp; done) | (simp; omega)) (by first | assumption | (go_simp; done) | (simp; done))
                have kc1 : w'.cell? ⟨w.heap.size, 1, none⟩ = some (.int .i64 Y) := hX.cell (by first | (simp; done) | (simp; omega)) (by first | assumption | (go_simp; done) | (simp; done))
                clear hdep
                refine StepG.mk rfl ?_; rw [ha0]; simp only [putL, Act.put, List.setIfInBounds_toArray, List.set_cons_zero, List.set_cons_succ]
                go_wp2_with fail
                refine HK.out _ _ ?_
                refine ⟨v27, (.int .i64 (-1)), v29, v30, v31, v32, (by rw [ha0]; simp only [putL, Act.put, List.setIfInBounds_toArray, List.set_cons_zero, List.set_cons_succ]), ?_, ?_, trivial⟩
                · obtain ⟨h27, h28, h29, h30, h31, h32, _⟩ := hR.out
                  exact Lib.hid ⟨fun h => h27 (by simpa using h), fun _ => rfl, fun h => h29 (by simpa using h), fun h => h30 (by simpa using h), fun h => h31 (by simpa using h), fun h => h32 (by simpa using h), trivial⟩
                · exact hX
              case x4hs2 =>
                intro s a' w' hsk hdep hI K hK
                try dsimp only at hI hK
                obtain ⟨v27, v28, v29, v30, v31, v32, hact, hR, hX, _⟩ := hI
                subst hact
                have HK := Lib.hid hK
                clear hK
                have e28 : v28 = .int .i64 (-1) := by obtain ⟨h27, h28, h29, h30, h31, h32, _⟩ := hR.out; exact h28 (hdep ⟨1, .data⟩ (by simp) rfl)
                subst e28
                have kc0 : w'.cell? ⟨w.heap.size, 0, none⟩ = some (.int .i64 X) := hX.cell (by first | (simp; done) | (simp; omega)) (by first | assumption | (go_simp; done) | (simp; done))
                have kc1 : w'.cell? ⟨w.heap.size, 1, none⟩ = some (.int .i64 Y) := hX.cell (by first | (simp; done) | (simp; omega)) (by first | assumption | (go_simp; done) | (simp; done))
                clear hdep
                refine StepG.mk rfl ?_; rw [ha0]; simp only [putL, Act.put, List.setIfInBounds_toArray, List.set_cons_zero, List.set_cons_succ]
                go_wp2_with fail
                refine ((HOF.out _)).mono ?_
                rintro e wn ⟨rfl, hb⟩
                go_wp2_with fail
                refine HK.out _ _ ?_
                refine ⟨v27, (.int .i64 (-1)), (.agg #[.int .i64 px, .int .i64 py]), v30, v31, v32, (by rw [ha0]; simp only [putL, Act.put, List.setIfInBounds_toArray, List.set_cons_zero, List.set_cons_succ]), ?_, ?_, trivial⟩
                · obtain ⟨h27, h28, h29, h30, h31, h32, _⟩ := hR.out
                  exact Lib.hid ⟨fun h => h27 (by simpa using h), fun _ => rfl, fun _ => rfl, fun h => h30 (by simpa using h), fun h => h31 (by simpa using h), fun h => h32 (by simpa using h), trivial⟩
                · exact hX.call hb
              case x4hs3 =>
                intro s a' w' hsk hdep hI K hK
                try dsimp only at hI hK
                obtain ⟨v27, v28, v29, v30, v31, v32, hact, hR, hX, _⟩ := hI
                subst hact
                have HK := Lib.hid hK
                clear hK
                have e27 : v27 = .agg #[.int .i64 X, .int .i64 Y] := by obtain ⟨h27, h28, h29, h30, h31, h32, _⟩ := hR.out; exact h27 (hdep ⟨0, .data⟩ (by simp) rfl)
                subst e27
                have e29 : v29 = .agg #[.int .i64 px, .int .i64 py] := by obtain ⟨h27, h28, h29, h30, h31, h32, _⟩ := hR.out; exact h29 (hdep ⟨2, .data⟩ (by simp) rfl)
                subst e29
                have kc0 : w'.cell? ⟨w.heap.size, 0, none⟩ = some (.int .i64 X) := hX.cell (by first | (simp; done) | (simp; omega)) (by first | assumption | (go_simp; done) | (simp; done))
                have kc1 : w'.cell? ⟨w.heap.size, 1, none⟩ = some (.int .i64 Y) := hX.cell (by first | (simp; done) | (simp; omega)) (by first | assumption | (go_simp; done) | (simp; done))
                clear hdep
                refine StepG.mk rfl ?_; rw [ha0]; simp only [putL, Act.put, List.setIfInBounds_toArray, List.set_cons_zero, List.set_cons_succ]
                go_wp2_with fail
                refine ((HM.out _)).mono ?_
                rintro e wn ⟨rfl, hb⟩
                go_wp2_with fail
                refine HK.out _ _ ?_
                refine ⟨(.agg #[.int .i64 X, .int .i64 Y]), v28, (.agg #[.int .i64 px, .int .i64 py]), (.agg #[.int .i64 (X - px), .int .i64 (Y - py)]), v31, v32, (by rw [ha0]; simp only [putL, Act.put, List.setIfInBounds_toArray, List.set_cons_zero, List.set_cons_succ]), ?_, ?_, trivial⟩
                · obtain ⟨h27, h28, h29, h30, h31, h32, _⟩ := hR.out
                  exact Lib.hid ⟨fun _ => rfl, fun h => h28 (by simpa using h), fun _ => rfl, fun _ => rfl, fun h => h31 (by simpa using h), fun h => h32 (by simpa using h), trivial⟩
                · exact hX.call hb
              case x4hs4 =>
                intro s a' w' hsk hdep hI K hK
                try dsimp only at hI hK
                obtain ⟨v27, v28, v29, v30, v31, v32, hact, hR, hX, _⟩ := hI
                subst hact
                have HK := Lib.hid hK
                clear hK
                have e30 : v30 = .agg #[.int .i64 (X - px), .int .i64 (Y - py)] := by obtain ⟨h27, h28, h29, h30, h31, h32, _⟩ := hR.out; exact h30 (hdep ⟨3, .data⟩ (by simp) rfl)
                subst e30
                have kc0 : w'.cell? ⟨w.heap.size, 0, none⟩ = some (.int .i64 X) := hX.cell (by first | (simp; done) | (simp; omega)) (by first | assumption | (go_simp; done) | (simp; done))
                have kc1 : w'.cell? ⟨w.heap.size, 1, none⟩ = some (.int .i64 Y) := hX.cell (by first | (simp; done) | (simp; omega)) (by first | assumption | (go_simp; done) | (simp; done))
                clear hdep
                refine StepG.mk rfl ?_; rw [ha0]; simp only [putL, Act.put, List.setIfInBounds_toArray, List.set_cons_zero, List.set_cons_succ]
                go_wp2_with fail
                refine ((HS.out _)).mono ?_
                rintro e wn ⟨rfl, hb⟩
                go_wp2_with fail
                refine HK.out _ _ ?_
                refine ⟨v27, v28, v29, (.agg #[.int .i64 (X - px), .int .i64 (Y - py)]), (.int .i64 T), v32, (by rw [ha0]; simp only [putL, Act.put, List.setIfInBounds_toArray, List.set_cons_zero, List.set_cons_succ]), ?_, ?_, trivial⟩
                · obtain ⟨h27, h28, h29, h30, h31, h32, _⟩ := hR.out
                  exact Lib.hid ⟨fun h => h27 (by simpa using h), fun h => h28 (by simpa using h), fun h => h29 (by simpa using h), fun _ => rfl, fun _ => rfl, fun h => h32 (by simpa using h), trivial⟩
                · exact hX.call hb
              case x4hs5 =>
                intro s a' w' hsk hdep hI K hK
                try dsimp only at hI hK
                obtain ⟨v27, v28, v29, v30, v31, v32, hact, hR, hX, _⟩ := hI
                subst hact
                have HK := Lib.hid hK
                clear hK
                have e31 : v31 = .int .i64 T := by obtain ⟨h27, h28, h29, h30, h31, h32, _⟩ := hR.out; exact h31 (hdep ⟨4, .data⟩ (by simp) rfl)
                subst e31
                have kc0 : w'.cell? ⟨w.heap.size, 0, none⟩ = some (.int .i64 X) := hX.cell (by first | (simp; done) | (simp; omega)) (by first | assumption | (go_simp; done) | (simp; done))
                have kc1 : w'.cell? ⟨w.heap.size, 1, none⟩ = some (.int .i64 Y) := hX.cell (by first | (simp; done) | (simp; omega)) (by first | assumption | (go_simp; done) | (simp; done))
                clear hdep
                refine StepG.mk rfl ?_; rw [ha0]; simp only [putL, Act.put, List.setIfInBounds_toArray, List.set_cons_zero, List.set_cons_succ]
                go_wp2_with fail
                refine HK.out _ _ ?_
                refine ⟨v27, v28, v29, v30, (.int .i64 T), (.bool (decide (0 ≤ T))), (by rw [ha0]; simp only [putL, Act.put, List.setIfInBounds_toArray, List.set_cons_zero, List.set_cons_succ]), ?_, ?_, trivial⟩
                · obtain ⟨h27, h28, h29, h30, h31, h32, _⟩ := hR.out
                  exact Lib.hid ⟨fun h => h27 (by simpa using h), fun h => h28 (by simpa using h), fun h => h29 (by simpa using h), fun h => h30 (by simpa using h), fun _ => rfl, fun _ => rfl, trivial⟩
                · exact hX
              intro s a' w8 hall hI
              try dsimp only at hI
              obtain ⟨v27, v28, v29, v30, v31, v32, hact, hR, hXR, _⟩ := hI
              subst hact
              obtain ⟨h27, h28, h29, h30, h31, h32, _⟩ := hR.out
              clear hR
              have e27 := h27 (hall 0 (by decide))
              subst e27
              clear h27
              have e28 := h28 (hall 1 (by decide))
              subst e28
              clear h28
              have e29 := h29 (hall 2 (by decide))
              subst e29
              clear h29
              have e30 := h30 (hall 3 (by decide))
              subst e30
              clear h30
              have e31 := h31 (hall 4 (by decide))
              subst e31
              clear h31
              have e32 := h32 (hall 5 (by decide))
              subst e32
              clear h32
              clear hall
              rw [ha0]; simp only [putL, Act.put, List.setIfInBounds_toArray, List.set_cons_zero, List.set_cons_succ]
              clear ha0
              have B8 : Below w.heap.size w w8 := hXR.below (by first | assumption | exact (by repeat (first | exact Below.refl _ _ | exact Nat.le_refl _ | refine Below.alloc ?_ ?_ _ | refine Below.setCell ?_ ?_ _ | refine Below.drew ?_ | refine bl_drewN ?_ _ | (assumption) | refine bl_call ?_ (by assumption) ?_ | omega | (simp <;> omega)))) (by first | omega | (simp <;> omega)) (by simp <;> omega)
              have R8 := (hXR.block w.heap.size hws1 (by simp)).trans R1
              have hws8 := blk_lt R8
              clear hXR d0 d1
              by_cases hc : 0 ≤ T
              · have hcd : decide (0 ≤ T) = true := by simpa using hc
                rw [hcd]
                clear hcd
                have pblk1 := R8
                have hds := HDX.out.2 hc
                have HDS := Lib.hid hds
                clear hds
                go_upto_region 10 with fail
                have pblk1 : w8.heap[w.heap.size]? = some (.cells #[.int .i64 X, .int .i64 Y] 23 (0, 0)) := by first | assumption | exact hblk1
                refine with_act fun a0 ha0 => ?_
                refine wp_region_inv (by kernel_rfl) (by kernel_rfl) (fun s a' w' => ∃ v33 v34 v35 v36 : Value, a' = putL a0 [(33, v33), (34, v34), (35, v35), (36, v36)] ∧ Hid ((s 0 = true → v33 = .agg #[.int .i64 X, .int .i64 Y]) ∧ (s 1 = true → v34 = .int .i64 (-1)) ∧ (s 2 = true → v35 = .agg #[.int .i64 px, .int .i64 py]) ∧ (s 3 = true → v36 = .agg #[.int .i64 (X - px), .int .i64 (Y - py)]) ∧ True) ∧ BelX [w.heap.size] w8 w' ∧ (∃ (c0 c1 : Value), w'.heap[w.heap.size]? = some (.cells #[c0, c1] 23 (0, 0)) ∧ (s 4 = true → c0 = .int .i64 (X - px) ∧ c1 = .int .i64 (Y - py)) ∧ (s 4 = false → c0 = .int .i64 X ∧ c1 = .int .i64 Y)) ∧ (s 4 = true → s 0 = true ∧ s 1 = true ∧ s 2 = true ∧ s 3 = true ∧ True) ∧ True) ?x5hzero ⟨?x5hs0, ?x5hs1, ?x5hs2, ?x5hs3, ?x5hs4, trivial⟩ ?x5hdone
                case x5hzero =>
                  refine ⟨a0.tmps.getD 33 undef, a0.tmps.getD 34 undef, a0.tmps.getD 35 undef, a0.tmps.getD 36 undef, ?_, ?_, ?_, ?_, ?_, trivial⟩
                  · simp only [putL, put_self]
                  · exact Lib.hid ⟨fun h => (by simp at h), fun h => (by simp at h), fun h => (by simp at h), fun h => (by simp at h), trivial⟩
                  · exact BelX.start _ _
                  · exact ⟨.int .i64 X, .int .i64 Y, pblk1, fun h => (by simp at h), fun _ => ⟨rfl, rfl⟩⟩
                  · exact fun h => (by simp at h)
                case x5hs0 =>
                  intro s a' w' hsk hdep hI K hK
                  try dsimp only at hI hK
                  obtain ⟨v33, v34, v35, v36, hact, hR, hX, hP1, hQ1, _⟩ := hI
                  subst hact
                  have HK := Lib.hid hK
                  clear hK
                  obtain ⟨b1_0, b1_1, pb1, pt1, pf1⟩ := hP1
                  have hs0 : s 4 = false := Bool.eq_false_iff.2 fun h => (by have := hQ1 h; simp [hsk] at this)
                  obtain ⟨q1_0, q1_1⟩ := pf1 hs0
                  subst q1_0
                  subst q1_1
                  clear hs0
                  have kp1_0 := cell_of_row w' (w.heap.size) 0 _ _ _ pb1
                  have kp1_1 := cell_of_row w' (w.heap.size) 1 _ _ _ pb1
                  simp only [List.getElem?_toArray, List.getElem?_cons_zero, List.getElem?_cons_succ] at kp1_0 kp1_1
                  have kq1 : ∀ o, w'.frozen? ⟨w.heap.size, o, none⟩ = false := fun o => frozen_of_row w' _ o _ _ pb1
                  have hPB1 := Lib.hid pb1
                  clear pb1
                  have hPT1 := Lib.hid pt1
                  clear pt1
                  have hPF1 := Lib.hid pf1
                  clear pf1
                  clear hdep
                  refine StepG.mk rfl ?_; rw [ha0]; simp only [putL, Act.put, List.setIfInBounds_toArray, List.set_cons_zero, List.set_cons_succ]
                  go_wp2_with fail
                  refine HK.out _ _ ?_
                  refine ⟨(.agg #[.int .i64 X, .int .i64 Y]), v34, v35, v36, (by rw [ha0]; simp only [putL, Act.put, List.setIfInBounds_toArray, List.set_cons_zero, List.set_cons_succ]), ?_, ?_, ?_, ?_, trivial⟩
                  · obtain ⟨h33, h34, h35, h36, _⟩ := hR.out
                    exact Lib.hid ⟨fun _ => rfl, fun h => h34 (by simpa using h), fun h => h35 (by simpa using h), fun h => h36 (by simpa using h), trivial⟩
                  · exact hX
                  · exact ⟨_, _, hPB1.out, fun h => hPT1.out (by simpa using h), fun h => ⟨rfl, rfl⟩⟩
                  · exact fun h => (by have h1 := hQ1 (by simpa using h); simp [h1])
                case x5hs1 =>
                  intro s a' w' hsk hdep hI K hK
                  try dsimp only at hI hK
                  obtain ⟨v33, v34, v35, v36, hact, hR, hX, hP1, hQ1, _⟩ := hI
                  subst hact
                  have HK := Lib.hid hK
                  clear hK
                  obtain ⟨b1_0, b1_1, pb1, pt1, pf1⟩ := hP1
                  have hs0 : s 4 = false := Bool.eq_false_iff.2 fun h => (by have := hQ1 h; simp [hsk] at this)
                  obtain ⟨q1_0, q1_1⟩ := pf1 hs0
                  subst q1_0
                  subst q1_1
                  clear hs0
                  have kp1_0 := cell_of_row w' (w.heap.size) 0 _ _ _ pb1
                  have kp1_1 := cell_of_row w' (w.heap.size) 1 _ _ _ pb1
                  simp only [List.getElem?_toArray, List.getElem?_cons_zero, List.getElem?_cons_succ] at kp1_0 kp1_1
                  have kq1 : ∀ o, w'.frozen? ⟨w.heap.size, o, none⟩ = false := fun o => frozen_of_row w' _ o _ _ pb1
                  have hPB1 := Lib.hid pb1
                  clear pb1
                  have hPT1 := Lib.hid pt1
                  clear pt1
                  have hPF1 := Lib.hid pf1
                  clear pf1
                  clear hdep
                  refine StepG.mk rfl ?_; rw [ha0]; simp only [putL, Act.put, List.setIfInBounds_toArray, List.set_cons_zero, List.set_cons_succ]
                  go_wp2_with fail
                  refine HK.out _ _ ?_
                  refine ⟨v33, (.int .i64 (-1)), v35, v36, (by rw [ha0]; simp only [putL, Act.put, List.setIfInBounds_toArray, List.set_cons_zero, List.set_cons_succ]), ?_, ?_, ?_, ?_, trivial⟩
                  · obtain ⟨h33, h34, h35, h36, _⟩ := hR.out
                    exact Lib.hid ⟨fun h => h33 (by simpa using h), fun _ => rfl, fun h => h35 (by simpa using h), fun h => h36 (by simpa using h), trivial⟩
                  · exact hX
                  · exact ⟨_, _, hPB1.out, fun h => hPT1.out (by simpa using h), fun h => ⟨rfl, rfl⟩⟩
                  · exact fun h => (by have h1 := hQ1 (by simpa using h); simp [h1])
                case x5hs2 =>
                  intro s a' w' hsk hdep hI K hK
                  try dsimp only at hI hK
                  obtain ⟨v33, v34, v35, v36, hact, hR, hX, hP1, hQ1, _⟩ := hI
                  subst hact
                  have HK := Lib.hid hK
                  clear hK
                  have e34 : v34 = .int .i64 (-1) := by obtain ⟨h33, h34, h35, h36, _⟩ := hR.out; exact h34 (hdep ⟨1, .data⟩ (by simp) rfl)
                  subst e34
                  obtain ⟨b1_0, b1_1, pb1, pt1, pf1⟩ := hP1
                  have hs0 : s 4 = false := Bool.eq_false_iff.2 fun h => (by have := hQ1 h; simp [hsk] at this)
                  obtain ⟨q1_0, q1_1⟩ := pf1 hs0
                  subst q1_0
                  subst q1_1
                  clear hs0
                  have kp1_0 := cell_of_row w' (w.heap.size) 0 _ _ _ pb1
                  have kp1_1 := cell_of_row w' (w.heap.size) 1 _ _ _ pb1
                  simp only [List.getElem?_toArray, List.getElem?_cons_zero, List.getElem?_cons_succ] at kp1_0 kp1_1
                  have kq1 : ∀ o, w'.frozen? ⟨w.heap.size, o, none⟩ = false := fun o => frozen_of_row w' _ o _ _ pb1
                  have hPB1 := Lib.hid pb1
                  clear pb1
                  have hPT1 := Lib.hid pt1
                  clear pt1
                  have hPF1 := Lib.hid pf1
                  clear pf1
                  clear hdep
                  refine StepG.mk rfl ?_; rw [ha0]; simp only [putL, Act.put, List.setIfInBounds_toArray, List.set_cons_zero, List.set_cons_succ]
                  go_wp2_with fail
                  refine ((HOF.out _)).mono ?_
                  rintro e wn ⟨rfl, hb⟩
                  go_wp2_with fail
                  refine HK.out _ _ ?_
                  refine ⟨v33, (.int .i64 (-1)), (.agg #[.int .i64 px, .int .i64 py]), v36, (by rw [ha0]; simp only [putL, Act.put, List.setIfInBounds_toArray, List.set_cons_zero, List.set_cons_succ]), ?_, ?_, ?_, ?_, trivial⟩
                  · obtain ⟨h33, h34, h35, h36, _⟩ := hR.out
                    exact Lib.hid ⟨fun h => h33 (by simpa using h), fun _ => rfl, fun _ => rfl, fun h => h36 (by simpa using h), trivial⟩
                  · exact hX.call hb
                  · exact ⟨_, _, (hb.block _ (blk_lt hPB1.out)).trans hPB1.out, fun h => hPT1.out (by simpa using h), fun h => ⟨rfl, rfl⟩⟩
                  · exact fun h => (by have h1 := hQ1 (by simpa using h); simp [h1])
                case x5hs3 =>
                  intro s a' w' hsk hdep hI K hK
                  try dsimp only at hI hK
                  obtain ⟨v33, v34, v35, v36, hact, hR, hX, hP1, hQ1, _⟩ := hI
                  subst hact
                  have HK := Lib.hid hK
                  clear hK
                  have e33 : v33 = .agg #[.int .i64 X, .int .i64 Y] := by obtain ⟨h33, h34, h35, h36, _⟩ := hR.out; exact h33 (hdep ⟨0, .data⟩ (by simp) rfl)
                  subst e33
                  have e35 : v35 = .agg #[.int .i64 px, .int .i64 py] := by obtain ⟨h33, h34, h35, h36, _⟩ := hR.out; exact h35 (hdep ⟨2, .data⟩ (by simp) rfl)
                  subst e35
                  obtain ⟨b1_0, b1_1, pb1, pt1, pf1⟩ := hP1
                  have hs0 : s 4 = false := Bool.eq_false_iff.2 fun h => (by have := hQ1 h; simp [hsk] at this)
                  obtain ⟨q1_0, q1_1⟩ := pf1 hs0
                  subst q1_0
                  subst q1_1
                  clear hs0
                  have kp1_0 := cell_of_row w' (w.heap.size) 0 _ _ _ pb1
                  have kp1_1 := cell_of_row w' (w.heap.size) 1 _ _ _ pb1
                  simp only [List.getElem?_toArray, List.getElem?_cons_zero, List.getElem?_cons_succ] at kp1_0 kp1_1
                  have kq1 : ∀ o, w'.frozen? ⟨w.heap.size, o, none⟩ = false := fun o => frozen_of_row w' _ o _ _ pb1
                  have hPB1 := Lib.hid pb1
                  clear pb1
                  have hPT1 := Lib.hid pt1
                  clear pt1
                  have hPF1 := Lib.hid pf1
                  clear pf1
                  clear hdep
                  refine StepG.mk rfl ?_; rw [ha0]; simp only [putL, Act.put, List.setIfInBounds_toArray, List.set_cons_zero, List.set_cons_succ]
                  go_wp2_with fail
                  refine ((HM.out _)).mono ?_
                  rintro e wn ⟨rfl, hb⟩
                  go_wp2_with fail
                  refine HK.out _ _ ?_
                  refine ⟨(.agg #[.int .i64 X, .int .i64 Y]), v34, (.agg #[.int .i64 px, .int .i64 py]), (.agg #[.int .i64 (X - px), .int .i64 (Y - py)]), (by rw [ha0]; simp only [putL, Act.put, List.setIfInBounds_toArray, List.set_cons_zero, List.set_cons_succ]), ?_, ?_, ?_, ?_, trivial⟩
                  · obtain ⟨h33, h34, h35, h36, _⟩ := hR.out
                    exact Lib.hid ⟨fun _ => rfl, fun h => h34 (by simpa using h), fun _ => rfl, fun _ => rfl, trivial⟩
                  · exact hX.call hb
                  · exact ⟨_, _, (hb.block _ (blk_lt hPB1.out)).trans hPB1.out, fun h => hPT1.out (by simpa using h), fun h => ⟨rfl, rfl⟩⟩
                  · exact fun h => (by have h1 := hQ1 (by simpa using h); simp [h1])
                case x5hs4 =>
                  intro s a' w' hsk hdep hI K hK
                  try dsimp only at hI hK
                  obtain ⟨v33, v34, v35, v36, hact, hR, hX, hP1, hQ1, _⟩ := hI
                  subst hact
                  have HK := Lib.hid hK
                  clear hK
                  have e36 : v36 = .agg #[.int .i64 (X - px), .int .i64 (Y - py)] := by obtain ⟨h33, h34, h35, h36, _⟩ := hR.out; exact h36 (hdep ⟨3, .data⟩ (by simp) rfl)
                  subst e36
                  obtain ⟨b1_0, b1_1, pb1, pt1, pf1⟩ := hP1
                  have hs0 : s 4 = false := hsk
                  obtain ⟨q1_0, q1_1⟩ := pf1 hs0
                  subst q1_0
                  subst q1_1
                  clear hs0
                  have kp1_0 := cell_of_row w' (w.heap.size) 0 _ _ _ pb1
                  have kp1_1 := cell_of_row w' (w.heap.size) 1 _ _ _ pb1
                  simp only [List.getElem?_toArray, List.getElem?_cons_zero, List.getElem?_cons_succ] at kp1_0 kp1_1
                  have kq1 : ∀ o, w'.frozen? ⟨w.heap.size, o, none⟩ = false := fun o => frozen_of_row w' _ o _ _ pb1
                  have hPB1 := Lib.hid pb1
                  clear pb1
                  have hPT1 := Lib.hid pt1
                  clear pt1
                  have hPF1 := Lib.hid pf1
                  clear pf1
                  have hd0 : s 0 = true := hdep ⟨0, .phase⟩ (by simp) rfl
                  have hd1 : s 1 = true := hdep ⟨1, .phase⟩ (by simp) rfl
                  have hd2 : s 2 = true := hdep ⟨2, .phase⟩ (by simp) rfl
                  have hd3 : s 3 = true := hdep ⟨3, .data⟩ (by simp) rfl
                  clear hdep
                  refine StepG.mk rfl ?_; rw [ha0]; simp only [putL, Act.put, List.setIfInBounds_toArray, List.set_cons_zero, List.set_cons_succ]
                  go_wp2_with fail
                  refine HK.out _ _ ?_
                  refine ⟨v33, v34, v35, (.agg #[.int .i64 (X - px), .int .i64 (Y - py)]), (by rw [ha0]; simp only [putL, Act.put, List.setIfInBounds_toArray, List.set_cons_zero, List.set_cons_succ]), ?_, ?_, ?_, ?_, trivial⟩
                  · obtain ⟨h33, h34, h35, h36, _⟩ := hR.out
                    exact Lib.hid ⟨fun h => h33 (by simpa using h), fun h => h34 (by simpa using h), fun h => h35 (by simpa using h), fun _ => rfl, trivial⟩
                  · exact ((hX.setOld (p := ⟨w.heap.size, 0, none⟩) (by simp) _).setOld (p := ⟨w.heap.size, 1, none⟩) (by simp) _)
                  · exact ⟨_, _, blk_set2 hPB1.out, fun _ => ⟨rfl, rfl⟩, fun h => (by simp at h)⟩
                  · exact fun _ => (by simp [hd0, hd1, hd2, hd3])
                intro s a' w9 hall hI
                try dsimp only at hI
                obtain ⟨v33, v34, v35, v36, hact, hR, hXR, hP1, hQ1, _⟩ := hI
                subst hact
                obtain ⟨h33, h34, h35, h36, _⟩ := hR.out
                clear hR
                have e33 := h33 (hall 0 (by decide))
                subst e33
                clear h33
                have e34 := h34 (hall 1 (by decide))
                subst e34
                clear h34
                have e35 := h35 (hall 2 (by decide))
                subst e35
                clear h35
                have e36 := h36 (hall 3 (by decide))
                subst e36
                clear h36
                obtain ⟨c0, c1, pblkR1, hpt, _⟩ := hP1
                clear hQ1
                obtain ⟨es0, es1⟩ := hpt (hall 4 (by decide))
                subst es0
                subst es1
                clear hpt
                try clear pblk1
                have pblk1 := pblkR1
                clear pblkR1
                clear hall
                rw [ha0]; simp only [putL, Act.put, List.setIfInBounds_toArray, List.set_cons_zero, List.set_cons_succ]
                clear ha0
                have B9 : Below w.heap.size w w9 := hXR.below (by first | assumption | exact (by repeat (first | exact Below.refl _ _ | exact Nat.le_refl _ | refine Below.alloc ?_ ?_ _ | refine Below.setCell ?_ ?_ _ | refine Below.drew ?_ | refine bl_drewN ?_ _ | (assumption) | refine bl_call ?_ (by assumption) ?_ | omega | (simp <;> omega)))) (by first | omega | (simp <;> omega)) (by simp <;> omega)
                clear hXR
                go_wp2_with fail
                go_roundw
                case rel =>
                  refine ⟨m, X - px, Y - py, l ++ [46] ++ [49], by first | rfl | (congr 1; omega), by omega, by simp [str_snoc], by simp; omega, Lib.hid ?_, Lib.hid ?_, pblk1, B9⟩
                  · rw [← HT.out, HRD.out, if_pos HDS.out, if_pos HDS.out]; simp [hm]
                  · have := HNL.out
                    rw [GM.nxx_one m _ HDS.out] at this
                    unfold GM.sub at this
                    rw [HPT.out] at this
                    exact this
                case measure => simp [intOf] <;> omega
              · have hcd : decide (0 ≤ T) = false := by simpa using hc
                rw [hcd]
                clear hcd
                have hds : ¬ GM.dgx m (X, Y) = true := fun h => hc (HDX.out.1 h)
                have HDS := Lib.hid hds
                clear hds
                go_wp2_with fail
                go_roundw
                case rel =>
                  refine ⟨m, X, Y, l ++ [46] ++ [48], by first | rfl | (congr 1; omega), by omega, by simp [str_snoc], by simp; omega, Lib.hid ?_, Lib.hid ?_, R8, B8⟩
                  · rw [← HT.out, HRD.out, if_neg HDS.out, if_neg HDS.out]; simp [hm]
                  · have := HNL.out
                    rw [GM.nxx_none m _ (by simpa using HDS.out)] at this
                    exact this
                case measure => simp [intOf] <;> omega
            · have gd2 : ((m : Int) - 40 == -1) = false := by simp; omega
              have g2 : ¬ (m : Int) - 40 = -1 := by omega
              have hof := fun wx => refPower ((m : Int) - 40) wx (by omega) (by omega)
              rw [pw_pt] at hof
              have hkq : (m : Int) - 40 = (m : Int) - 40 := by omega
              rw [hkq] at hof
              clear hkq
              have hrd := fut_round_at m X Y (.inr HX.out)
              obtain ⟨s1, s2, s3, s4, s5, s6, s7, s8⟩ := GM.step_bd m (by omega) (X, Y) HL.out
              dsimp only at s1 s2 s3 s4 s5 s6 s7 s8
              have hnl := GM.lefts_next m (X, Y) HL.out
              have hdx := dgx_of m X Y
              obtain ⟨⟨px, py⟩, hpt⟩ : ∃ p, GM.pt m = p := ⟨_, rfl⟩
              rw [hpt] at hof s1 s2 s3 s4 hdx hrd
              dsimp only at hof s1 s2 s3 s4 hdx hrd
              have hpb := pt_bd ⟨m, by omega⟩
              dsimp only at hpb
              rw [hpt] at hpb
              dsimp only at hpb
              obtain ⟨p1, p2, p3, p4⟩ := hpb
              have hM := fun wx => refMinus X Y px py wx (by omega) (by omega) (by omega) (by omega)
              have hS := fun wx => refSign (X - px) (Y - py) wx (by omega) (by omega) (by omega) (by omega)
              obtain ⟨T, hT⟩ : ∃ T, GM.sgn (X - px) (Y - py) = T := ⟨_, rfl⟩
              rw [hT] at hS hdx
              have HOF := Lib.hid hof
              have HM := Lib.hid hM
              have HS := Lib.hid hS
              have HRD := Lib.hid hrd
              have HNL := Lib.hid hnl
              have HDX := Lib.hid hdx
              have HPT := Lib.hid hpt
              clear hof hM hS hrd hnl hdx hpt hT
              go_upto_region 9 with fail
              try simp only [gd1, gd2, hsn]
              clear gd1 gd2 g1 g2 hsn
              have d0 := row2_0 R1
              have d1 := row2_1 R1
              refine with_act fun a0 ha0 => ?_
              refine wp_region_inv (by kernel_rfl) (by kernel_rfl) (fun s a' w' => ∃ v27 v28 v29 v30 v31 v32 : Value, a' = putL a0 [(27, v27), (28, v28), (29, v29), (30, v30), (31, v31), (32, v32)] ∧ Hid ((s 0 = true → v27 = .agg #[.int .i64 X, .int .i64 Y]) ∧ (s 1 = true → v28 = .int .i64 ((m : Int) - 40)) ∧ (s 2 = true → v29 = .agg #[.int .i64 px, .int .i64 py]) ∧ (s 3 = true → v30 = .agg #[.int .i64 (X - px), .int .i64 (Y - py)]) ∧ (s 4 = true → v31 = .int .i64 T) ∧ (s 5 = true → v32 = .bool (decide (0 ≤ T))) ∧ True) ∧ BelX [] w1 w' ∧ True) ?x6hzero ⟨?x6hs0, ?x6hs1, ?x6hs2, ?x6hs3, ?x6hs4, ?x6hs5, trivial⟩ ?x6hdone
              case x6hzero =>
                refine ⟨a0.tmps.getD 27 undef, a0.tmps.getD 28 undef, a0.tmps.getD 29 undef, a0.tmps.getD 30 undef, a0.tmps.getD 31 undef, a0.tmps.getD 32 undef, ?_, ?_, ?_, trivial⟩
                · simp only [putL, put_self]
                · exact Lib.hid ⟨fun h => (by simp at h), fun h => (by simp at h), fun h => (by simp at h), fun h => (by simp at h), fun h => (by simp at h), fun h => (by simp at h), trivial⟩
                · exact BelX.start _ _
              case x6hs0 =>
                intro s a' w' hsk hdep hI K hK
                try dsimp only at hI hK
                obtain ⟨v27, v28, v29, v30, v31, v32, hact, hR, hX, _⟩ := hI
                subst hact
                have HK := Lib.hid hK
                clear hK
                have kc0 : w'.cell? ⟨w.heap.size, 0, none⟩ = some (.int .i64 X) := hX.cell (by first | (simp; done) | (simp; omega)) (by first | assumption | (go_simp; done) | (simp; done))
                have kc1 : w'.cell? ⟨w.heap.size, 1, none⟩ = some (.int .i64 Y) := hX.cell (by first | (simp; done) | (simp; omega)) (by first | assumption | (go_simp; done) | (simp; done))
                clear hdep
                refine StepG.mk rfl ?_; rw [ha0]; simp only [putL, Act.put, List.setIfInBounds_toArray, List.set_cons_zero, List.set_cons_succ]
                go_wp2_with fail
                refine HK.out _ _ ?_
                refine ⟨(.agg #[.int .i64 X, .int .i64 Y]), v28, v29, v30, v31, v32, (by rw [ha0]; simp only [putL, Act.put, List.setIfInBounds_toArray, List.set_cons_zero, List.set_cons_succ]), ?_, ?_, trivial⟩
                · obtain ⟨h27, h28, h29, h30, h31, h32, _⟩ := hR.out
                  exact Lib.hid ⟨fun _ => rfl, fun h => h28 (by simpa using h), fun h => h29 (by simpa using h), fun h => h30 (by simpa using h), fun h => h31 (by simpa using h), fun h => h32 (by simpa using h), trivial⟩
                · exact hX
              case x6hs1 =>
                intro s a' w' hsk hdep hI K hK
                try dsimp only at hI hK
                obtain ⟨v27, v28, v29, v30, v31, v32, hact, hR, hX, _⟩ := hI
                subst hact
                have HK := Lib.hid hK
                clear hK
                have kc0 : w'.cell? ⟨w.heap.size, 0, none⟩ = some (.int .i64 X) := hX.cell (by first | (simp; done) | (simp; omega)) (by first | assumption | (go_simp; done) | (simp; done))
                have kc1 : w'.cell? ⟨w.heap.size, 1, none⟩ = some (.int .i64 Y) := hX.cell (by first | (simp; done) | (simp; omega)) (by first | assumption | (go_simp; done) | (simp; done))
                clear hdep
                refine StepG.mk rfl ?_; rw [ha0]; simp only [putL, Act.put, List.setIfInBounds_toArray, List.set_cons_zero, List.set_cons_succ]
                go_wp2_with fail
                refine HK.out _ _ ?_
                refine ⟨v27, (.int .i64 ((m : Int) - 40)), v29, v30, v31, v32, (by rw [ha0]; simp only [putL, Act.put, List.setIfInBounds_toArray, List.set_cons_zero, List.set_cons_succ]), ?_, ?_, trivial⟩
                · obtain ⟨h27, h28, h29, h30, h31, h32, _⟩ := hR.out
                  exact Lib.hid ⟨fun h => h27 (by simpa using h), fun _ => rfl, fun h => h29 (by simpa using h), fun h => h30 (by simpa using h), fun h => h31 (by simpa using h), fun h => h32 (by simpa using h), trivial⟩
                · exact hX
              case x6hs2 =>
                intro s a' w' hsk hdep hI K hK
                try dsimp only at hI hK
                obtain ⟨v27, v28, v29, v30, v31, v32, hact, hR, hX, _⟩ := hI
                subst hact
                have HK := Lib.hid hK
                clear hK
                have e28 : v28 = .int .i64 ((m : Int) - 40) := by obtain ⟨h27, h28, h29, h30, h31, h32, _⟩ := hR.out; exact h28 (hdep ⟨1, .data⟩ (by simp) rfl)
                subst e28
                have kc0 : w'.cell? ⟨w.heap.size, 0, none⟩ = some (.int .i64 X) := hX.cell (by first | (simp; done) | (simp; omega)) (by first | assumption | (go_simp; done) | (simp; done))
                have kc1 : w'.cell? ⟨w.heap.size, 1, none⟩ = some (.int .i64 Y) := hX.cell (by first | (simp; done) | (simp; omega)) (by first | assumption | (go_simp; done) | (simp; done))
                clear hdep
                refine StepG.mk rfl ?_; rw [ha0]; simp only [putL, Act.put, List.setIfInBounds_toArray, List.set_cons_zero, List.set_cons_succ]
                go_wp2_with fail
                refine ((HOF.out _)).mono ?_
                rintro e wn ⟨rfl, hb⟩
                go_wp2_with fail
                refine HK.out _ _ ?_
                refine ⟨v27, (.int .i64 ((m : Int) - 40)), (.agg #[.int .i64 px, .int .i64 py]), v30, v31, v32, (by rw [ha0]; simp only [putL, Act.put, List.setIfInBounds_toArray, List.set_cons_zero, List.set_cons_succ]), ?_, ?_, trivial⟩
                · obtain ⟨h27, h28, h29, h30, h31, h32, _⟩ := hR.out
                  exact Lib.hid ⟨fun h => h27 (by simpa using h), fun _ => rfl, fun _ => rfl, fun h => h30 (by simpa using h), fun h => h31 (by simpa using h), fun h => h32 (by simpa using h), trivial⟩
                · exact hX.call hb
              case x6hs3 =>
                intro s a' w' hsk hdep hI K hK
                try dsimp only at hI hK
                obtain ⟨v27, v28, v29, v30, v31, v32, hact, hR, hX, _⟩ := hI
                subst hact
                have HK := Lib.hid hK
                clear hK
                have e27 : v27 = .agg #[.int .i64 X, .int .i64 Y] := by obtain ⟨h27, h28, h29, h30, h31, h32, _⟩ := hR.out; exact h27 (hdep ⟨0, .data⟩ (by simp) rfl)
                subst e27
                have e29 : v29 = .agg #[.int .i64 px, .int .i64 py] := by obtain ⟨h27, h28, h29, h30, h31, h32, _⟩ := hR.out; exact h29 (hdep ⟨2, .data⟩ (by simp) rfl)
                subst e29
                have kc0 : w'.cell? ⟨w.heap.size, 0, none⟩ = some (.int .i64 X) := hX.cell (by first | (simp; done) | (simp; omega)) (by first | assumption | (go_simp; done) | (simp; done))
                have kc1 : w'.cell? ⟨w.heap.size, 1, none⟩ = some (.int .i64 Y) := hX.cell (by first | (simp; done) | (simp; omega)) (by first | assumption | (go_simp; done) | (simp; done))
                clear hdep
                refine StepG.mk rfl ?_; rw [ha0]; simp only [putL, Act.put, List.setIfInBounds_toArray, List.set_cons_zero, List.set_cons_succ]
                go_wp2_with fail
                refine ((HM.out _)).mono ?_
                rintro e wn ⟨rfl, hb⟩
                go_wp2_with fail
                refine HK.out _ _ ?_
                refine ⟨(.agg #[.int .i64 X, .int .i64 Y]), v28, (.agg #[.int .i64 px, .int .i64 py]), (.agg #[.int .i64 (X - px), .int .i64 (Y - py)]), v31, v32, (by rw [ha0]; simp only [putL, Act.put, List.setIfInBounds_toArray, List.set_cons_zero, List.set_cons_succ]), ?_, ?_, trivial⟩
                · obtain ⟨h27, h28, h29, h30, h31, h32, _⟩ := hR.out
                  exact Lib.hid ⟨fun _ => rfl, fun h => h28 (by simpa using h), fun _ => rfl, fun _ => rfl, fun h => h31 (by simpa using h), fun h => h32 (by simpa using h), trivial⟩
                · exact hX.call hb
              case x6hs4 =>
                intro s a' w' hsk hdep hI K hK
                try dsimp only at hI hK
                obtain ⟨v27, v28, v29, v30, v31, v32, hact, hR, hX, _⟩ := hI
                subst hact
                have HK := Lib.hid hK
                clear hK
                have e30 : v30 = .agg #[.int .i64 (X - px), .int .i64 (Y - py)] := by obtain ⟨h27, h28, h29, h30, h31, h32, _⟩ := hR.out; exact h30 (hdep ⟨3, .data⟩ (by simp) rfl)
                subst e30
                have kc0 : w'.cell? ⟨w.heap.size, 0, none⟩ = some (.int .i64 X) := hX.cell (by first | (simp; done) | (simp; omega)) (by first | assumption | (go_simp; done) | (simp; done))
                have kc1 : w'.cell? ⟨w.heap.size, 1, none⟩ = some (.int .i64 Y) := hX.cell (by first | (simp; done) | (simp; omega)) (by first | assumption | (go_simp; done) | (simp; done))
                clear hdep
                refine StepG.mk rfl ?_; rw [ha0]; simp only [putL, Act.put, List.setIfInBounds_toArray, List.set_cons_zero, List.set_cons_succ]
                go_wp2_with fail
                refine ((HS.out _)).mono ?_
                rintro e wn ⟨rfl, hb⟩
                go_wp2_with fail
                refine HK.out _ _ ?_
                refine ⟨v27, v28, v29, (.agg #[.int .i64 (X - px), .int .i64 (Y - py)]), (.int .i64 T), v32, (by rw [ha0]; simp only [putL, Act.put, List.setIfInBounds_toArray, List.set_cons_zero, List.set_cons_succ]), ?_, ?_, trivial⟩
                · obtain ⟨h27, h28, h29, h30, h31, h32, _⟩ := hR.out
                  exact Lib.hid ⟨fun h => h27 (by simpa using h), fun h => h28 (by simpa using h), fun h => h29 (by simpa using h), fun _ => rfl, fun _ => rfl, fun h => h32 (by simpa using h), trivial⟩
                · exact hX.call hb
              case x6hs5 =>
                intro s a' w' hsk hdep hI K hK
                try dsimp only at hI hK
                obtain ⟨v27, v28, v29, v30, v31, v32, hact, hR, hX, _⟩ := hI
                subst hact
                have HK := Lib.hid hK
                clear hK
                have e31 : v31 = .int .i64 T := by obtain ⟨h27, h28, h29, h30, h31, h32, _⟩ := hR.out; exact h31 (hdep ⟨4, .data⟩ (by simp) rfl)
                subst e31
                have kc0 : w'.cell? ⟨w.heap.size, 0, none⟩ = some (.int .i64 X) := hX.cell (by first | (simp; done) | (simp; omega)) (by first | assumption | (go_simp; done) | (simp; done))
                have kc1 : w'.cell? ⟨w.heap.size, 1, none⟩ = some (.int .i64 Y) := hX.cell (by first | (simp; done) | (simp; omega)) (by first | assumption | (go_simp; done) | (simp; done))
                clear hdep
                refine StepG.mk rfl ?_; rw [ha0]; simp only [putL, Act.put, List.setIfInBounds_toArray, List.set_cons_zero, List.set_cons_succ]
                go_wp2_with fail
                refine HK.out _ _ ?_
                refine ⟨v27, v28, v29, v30, (.int .i64 T), (.bool (decide (0 ≤ T))), (by rw [ha0]; simp only [putL, Act.put, List.setIfInBounds_toArray, List.set_cons_zero, List.set_cons_succ]), ?_, ?_, trivial⟩
                · obtain ⟨h27, h28, h29, h30, h31, h32, _⟩ := hR.out
                  exact Lib.hid ⟨fun h => h27 (by simpa using h), fun h => h28 (by simpa using h), fun h => h29 (by simpa using h), fun h => h30 (by simpa using h), fun _ => rfl, fun _ => rfl, trivial⟩
                · exact hX
              intro s a' w8 hall hI
              try dsimp only at hI
              obtain ⟨v27, v28, v29, v30, v31, v32, hact, hR, hXR, _⟩ := hI
              subst hact
              obtain ⟨h27, h28, h29, h30, h31, h32, _⟩ := hR.out
              clear hR
              have e27 := h27 (hall 0 (by decide))
              subst e27
              clear h27
              have e28 := h28 (hall 1 (by decide))
              subst e28
              clear h28
              have e29 := h29 (hall 2 (by decide))
              subst e29
              clear h29
              have e30 := h30 (hall 3 (by decide))
              subst e30
              clear h30
              have e31 := h31 (hall 4 (by decide))
              subst e31
              clear h31
              have e32 := h32 (hall 5 (by decide))
              subst e32
              clear h32
              clear hall
              rw [ha0]; simp only [putL, Act.put, List.setIfInBounds_toArray, List.set_cons_zero, List.set_cons_succ]
              clear ha0
              have B8 : Below w.heap.size w w8 := hXR.below (by first | assumption | exact (by repeat (first | exact Below.refl _ _ | exact Nat.le_refl _ | refine Below.alloc ?_ ?_ _ | refine Below.setCell ?_ ?_ _ | refine Below.drew ?_ | refine bl_drewN ?_ _ | (assumption) | refine bl_call ?_ (by assumption) ?_ | omega | (simp <;> omega)))) (by first | omega | (simp <;> omega)) (by simp <;> omega)
              have R8 := (hXR.block w.heap.size hws1 (by simp)).trans R1
              have hws8 := blk_lt R8
              clear hXR d0 d1
              by_cases hc : 0 ≤ T
              · have hcd : decide (0 ≤ T) = true := by simpa using hc
                rw [hcd]
                clear hcd
                have pblk1 := R8
                have hds := HDX.out.2 hc
                have HDS := Lib.hid hds
                clear hds
                go_upto_region 10 with fail
                have pblk1 : w8.heap[w.heap.size]? = some (.cells #[.int .i64 X, .int .i64 Y] 23 (0, 0)) := by first | assumption | exact hblk1
                refine with_act fun a0 ha0 => ?_
                refine wp_region_inv (by kernel_rfl) (by kernel_rfl) (fun s a' w' => ∃ v33 v34 v35 v36 : Value, a' = putL a0 [(33, v33), (34, v34), (35, v35), (36, v36)] ∧ Hid ((s 0 = true → v33 = .agg #[.int .i64 X, .int .i64 Y]) ∧ (s 1 = true → v34 = .int .i64 ((m : Int) - 40)) ∧ (s 2 = true → v35 = .agg #[.int .i64 px, .int .i64 py]) ∧ (s 3 = true → v36 = .agg #[.int .i64 (X - px), .int .i64 (Y - py)]) ∧ True) ∧ BelX [w.heap.size] w8 w' ∧ (∃ (c0 c1 : Value), w'.heap[w.heap.size]? = some (.cells #[c0, c1] 23 (0, 0)) ∧ (s 4 = true → c0 = .int .i64 (X - px) ∧ c1 = .int .i64 (Y - py)) ∧ (s 4 = false → c0 = .int .i64 X ∧ c1 = .int .i64 Y)) ∧ (s 4 = true → s 0 = true ∧ s 1 = true ∧ s 2 = true ∧ s 3 = true ∧ True) ∧ True) ?x7hzero ⟨?x7hs0, ?x7hs1, ?x7hs2, ?x7hs3, ?x7hs4, trivial⟩ ?x7hdone
                case x7hzero =>
                  refine ⟨a0.tmps.getD 33 undef, a0.tmps.getD 34 undef, a0.tmps.getD 35 undef, a0.tmps.getD 36 undef, ?_, ?_, ?_, ?_, ?_, trivial⟩
                  · simp only [putL, put_self]
                  · exact Lib.hid ⟨fun h => (by simp at h), fun h => (by simp at h), fun h => (by simp at h), fun h => (by simp at h), trivial⟩
                  · exact BelX.start _ _
                  · exact ⟨.int .i64 X, .int .i64 Y, pblk1, fun h => (by simp at h), fun _ => ⟨rfl, rfl⟩⟩
                  · exact fun h => (by simp at h)
                case x7hs0 =>
                  intro s a' w' hsk hdep hI K hK
                  try dsimp only at hI hK
                  obtain ⟨v33, v34, v35, v36, hact, hR, hX, hP1, hQ1, _⟩ := hI
                  subst hact
                  have HK := Lib.hid hK
                  clear hK
                  obtain ⟨b1_0, b1_1, pb1, pt1, pf1⟩ := hP1
                  have hs0 : s 4 = false := Bool.eq_false_iff.2 fun h => (by have := hQ1 h; simp [hsk] at this)
                  obtain ⟨q1_0, q1_1⟩ := pf1 hs0
                  subst q1_0
                  subst q1_1
                  clear hs0
                  have kp1_0 := cell_of_row w' (w.heap.size) 0 _ _ _ pb1
                  have kp1_1 := cell_of_row w' (w.heap.size) 1 _ _ _ pb1
                  simp only [List.getElem?_toArray, List.getElem?_cons_zero, List.getElem?_cons_succ] at kp1_0 kp1_1
                  have kq1 : ∀ o, w'.frozen? ⟨w.heap.size, o, none⟩ = false := fun o => frozen_of_row w' _ o _ _ pb1
                  have hPB1 := Lib.hid pb1
                  clear pb1
                  have hPT1 := Lib.hid pt1
                  clear pt1
                  have hPF1 := Lib.hid pf1
                  clear pf1
                  clear hdep
                  refine StepG.mk rfl ?_; rw [ha0]; simp only [putL, Act.put, List.setIfInBounds_toArray, List.set_cons_zero, List.set_cons_succ]
                  go_wp2_with fail
                  refine HK.out _ _ ?_
                  refine ⟨(.agg #[.int .i64 X, .int .i64 Y]), v34, v35, v36, (by rw [ha0]; simp only [putL, Act.put, List.setIfInBounds_toArray, List.set_cons_zero, List.set_cons_succ]), ?_, ?_, ?_, ?_, trivial⟩
                  · obtain ⟨h33, h34, h35, h36, _⟩ := hR.out
                    exact Lib.hid ⟨fun _ => rfl, fun h => h34 (by simpa using h), fun h => h35 (by simpa using h), fun h => h36 (by simpa using h), trivial⟩
                  · exact hX
                  · exact ⟨_, _, hPB1.out, fun h => hPT1.out (by simpa using h), fun h => ⟨rfl, rfl⟩⟩
                  · exact fun h => (by have h1 := hQ1 (by simpa using h); simp [h1])
                case x7hs1 =>
                  intro s a' w' hsk hdep hI K hK
                  try dsimp only at hI hK
                  obtain ⟨v33, v34, v35, v36, hact, hR, hX, hP1, hQ1, _⟩ := hI
                  subst hact
                  have HK := Lib.hid hK
                  clear hK
                  obtain ⟨b1_0, b1_1, pb1, pt1, pf1⟩ := hP1
                  have hs0 : s 4 = false := Bool.eq_false_iff.2 fun h => (by have := hQ1 h; simp [hsk] at this)
                  obtain ⟨q1_0, q1_1⟩ := pf1 hs0
                  subst q1_0
                  subst q1_1
                  clear hs0
                  have kp1_0 := cell_of_row w' (w.heap.size) 0 _ _ _ pb1
                  have kp1_1 := cell_of_row w' (w.heap.size) 1 _ _ _ pb1
                  simp only [List.getElem?_toArray, List.getElem?_cons_zero, List.getElem?_cons_succ] at kp1_0 kp1_1
                  have kq1 : ∀ o, w'.frozen? ⟨w.heap.size, o, none⟩ = false := fun o => frozen_of_row w' _ o _ _ pb1
                  have hPB1 := Lib.hid pb1
                  clear pb1
                  have hPT1 := Lib.hid pt1
                  clear pt1
                  have hPF1 := Lib.hid pf1
                  clear pf1
                  clear hdep
                  refine StepG.mk rfl ?_; rw [ha0]; simp only [putL, Act.put, List.setIfInBounds_toArray, List.set_cons_zero, List.set_cons_succ]
                  go_wp2_with fail
                  refine HK.out _ _ ?_
                  refine ⟨v33, (.int .i64 ((m : Int) - 40)), v35, v36, (by rw [ha0]; simp only [putL, Act.put, List.setIfInBounds_toArray, List.set_cons_zero, List.set_cons_succ]), ?_, ?_, ?_, ?_, trivial⟩
                  · obtain ⟨h33, h34, h35, h36, _⟩ := hR.out
                    exact Lib.hid ⟨fun h => h33 (by simpa using h), fun _ => rfl, fun h => h35 (by simpa using h), fun h => h36 (by simpa using h), trivial⟩
                  · exact hX
                  · exact ⟨_, _, hPB1.out, fun h => hPT1.out (by simpa using h), fun h => ⟨rfl, rfl⟩⟩
                  · exact fun h => (by have h1 := hQ1 (by simpa using h); simp [h1])
                case x7hs2 =>
                  intro s a' w' hsk hdep hI K hK
                  try dsimp only at hI hK
                  obtain ⟨v33, v34, v35, v36, hact, hR, hX, hP1, hQ1, _⟩ := hI
                  subst hact
                  have HK := Lib.hid hK
                  clear hK
                  have e34 : v34 = .int .i64 ((m : Int) - 40) := by obtain ⟨h33, h34, h35, h36, _⟩ := hR.out; exact h34 (hdep ⟨1, .data⟩ (by simp) rfl)
                  subst e34
                  obtain ⟨b1_0, b1_1, pb1, pt1, pf1⟩ := hP1
                  have hs0 : s 4 = false := Bool.eq_false_iff.2 fun h => (by have := hQ1 h; simp [hsk] at this)
                  obtain ⟨q1_0, q1_1⟩ := pf1 hs0
                  subst q1_0
                  subst q1_1
                  clear hs0
                  have kp1_0 := cell_of_row w' (w.heap.size) 0 _ _ _ pb1
                  have kp1_1 := cell_of_row w' (w.heap.size) 1 _ _ _ pb1
                  simp only [List.getElem?_toArray, List.getElem?_cons_zero, List.getElem?_cons_succ] at kp1_0 kp1_1
                  have kq1 : ∀ o, w'.frozen? ⟨w.heap.size, o, none⟩ = false := fun o => frozen_of_row w' _ o _ _ pb1
                  have hPB1 := Lib.hid pb1
                  clear pb1
                  have hPT1 := Lib.hid pt1
                  clear pt1
                  have hPF1 := Lib.hid pf1
                  clear pf1
                  clear hdep
                  refine StepG.mk rfl ?_; rw [ha0]; simp only [putL, Act.put, List.setIfInBounds_toArray, List.set_cons_zero, List.set_cons_succ]
                  go_wp2_with fail
                  refine ((HOF.out _)).mono ?_
                  rintro e wn ⟨rfl, hb⟩
                  go_wp2_with fail
                  refine HK.out _ _ ?_
                  refine ⟨v33, (.int .i64 ((m : Int) - 40)), (.agg #[.int .i64 px, .int .i64 py]), v36, (by rw [ha0]; simp only [putL, Act.put, List.setIfInBounds_toArray, List.set_cons_zero, List.set_cons_succ]), ?_, ?_, ?_, ?_, trivial⟩
                  · obtain ⟨h33, h34, h35, h36, _⟩ := hR.out
                    exact Lib.hid ⟨fun h => h33 (by simpa using h), fun _ => rfl, fun _ => rfl, fun h => h36 (by simpa using h), trivial⟩
                  · exact hX.call hb
                  · exact ⟨_, _, (hb.block _ (blk_lt hPB1.out)).trans hPB1.out, fun h => hPT1.out (by simpa using h), fun h => ⟨rfl, rfl⟩⟩
                  · exact fun h => (by have h1 := hQ1 (by simpa using h); simp [h1])
                case x7hs3 =>
                  intro s a' w' hsk hdep hI K hK
                  try dsimp only at hI hK
                  obtain ⟨v33, v34, v35, v36, hact, hR, hX, hP1, hQ1, _⟩ := hI
                  subst hact
                  have HK := Lib.hid hK
                  clear hK
                  have e33 : v33 = .agg #[.int .i64 X, .int .i64 Y] := by obtain ⟨h33, h34, h35, h36, _⟩ := hR.out; exact h33 (hdep ⟨0, .data⟩ (by simp) rfl)
                  subst e33
                  have e35 : v35 = .agg #[.int .i64 px, .int .i64 py] := by obtain ⟨h33, h34, h35, h36, _⟩ := hR.out; exact h35 (hdep ⟨2, .data⟩ (by simp) rfl)
                  subst e35
                  obtain ⟨b1_0, b1_1, pb1, pt1, pf1⟩ := hP1
                  have hs0 : s 4 = false := Bool.eq_false_iff.2 fun h => (by have := hQ1 h; simp [hsk] at this)
                  obtain ⟨q1_0, q1_1⟩ := pf1 hs0
                  subst q1_0
                  subst q1_1
                  clear hs0
                  have kp1_0 := cell_of_row w' (w.heap.size) 0 _ _ _ pb1
                  have kp1_1 := cell_of_row w' (w.heap.size) 1 _ _ _ pb1
                  simp only [List.getElem?_toArray, List.getElem?_cons_zero, List.getElem?_cons_succ] at kp1_0 kp1_1
                  have kq1 : ∀ o, w'.frozen? ⟨w.heap.size, o, none⟩ = false := fun o => frozen_of_row w' _ o _ _ pb1
                  have hPB1 := Lib.hid pb1
                  clear pb1
                  have hPT1 := Lib.hid pt1
                  clear pt1
                  have hPF1 := Lib.hid pf1
                  clear pf1
                  clear hdep
                  refine StepG.mk rfl ?_; rw [ha0]; simp only [putL, Act.put, List.setIfInBounds_toArray, List.set_cons_zero, List.set_cons_succ]
                  go_wp2_with fail
                  refine ((HM.out _)).mono ?_
                  rintro e wn ⟨rfl, hb⟩
                  go_wp2_with fail
                  refine HK.out _ _ ?_
                  refine ⟨(.agg #[.int .i64 X, .int .i64 Y]), v34, (.agg #[.int .i64 px, .int .i64 py]), (.agg #[.int .i64 (X - px), .int .i64 (Y - py)]), (by rw [ha0]; simp only [putL, Act.put, List.setIfInBounds_toArray, List.set_cons_zero, List.set_cons_succ]), ?_, ?_, ?_, ?_, trivial⟩
                  · obtain ⟨h33, h34, h35, h36, _⟩ := hR.out
                    exact Lib.hid ⟨fun _ => rfl, fun h => h34 (by simpa using h), fun _ => rfl, fun _ => rfl, trivial⟩
                  · exact hX.call hb
                  · exact ⟨_, _, (hb.block _ (blk_lt hPB1.out)).trans hPB1.out, fun h => hPT1.out (by simpa using h), fun h => ⟨rfl, rfl⟩⟩
                  · exact fun h => (by have h1 := hQ1 (by simpa using h); simp [h1])
                case x7hs4 =>
                  intro s a' w' hsk hdep hI K hK
                  try dsimp only at hI hK
                  obtain ⟨v33, v34, v35, v36, hact, hR, hX, hP1, hQ1, _⟩ := hI
                  subst hact
                  have HK := Lib.hid hK
                  clear hK
                  have e36 : v36 = .agg #[.int .i64 (X - px), .int .i64 (Y - py)] := by obtain ⟨h33, h34, h35, h36, _⟩ := hR.out; exact h36 (hdep ⟨3, .data⟩ (by simp) rfl)
                  subst e36
                  obtain ⟨b1_0, b1_1, pb1, pt1, pf1⟩ := hP1
                  have hs0 : s 4 = false := hsk
                  obtain ⟨q1_0, q1_1⟩ := pf1 hs0
                  subst q1_0
                  subst q1_1
                  clear hs0
                  have kp1_0 := cell_of_row w' (w.heap.size) 0 _ _ _ pb1
                  have kp1_1 := cell_of_row w' (w.heap.size) 1 _ _ _ pb1
                  simp only [List.getElem?_toArray, List.getElem?_cons_zero, List.getElem?_cons_succ] at kp1_0 kp1_1
                  have kq1 : ∀ o, w'.frozen? ⟨w.heap.size, o, none⟩ = false := fun o => frozen_of_row w' _ o _ _ pb1
                  have hPB1 := Lib.hid pb1
                  clear pb1
                  have hPT1 := Lib.hid pt1
                  clear pt1
                  have hPF1 := Lib.hid pf1
                  clear pf1
                  have hd0 : s 0 = true := hdep ⟨0, .phase⟩ (by simp) rfl
                  have hd1 : s 1 = true := hdep ⟨1, .phase⟩ (by simp) rfl
                  have hd2 : s 2 = true := hdep ⟨2, .phase⟩ (by simp) rfl
                  have hd3 : s 3 = true := hdep ⟨3, .data⟩ (by simp) rfl
                  clear hdep
                  refine StepG.mk rfl ?_; rw [ha0]; simp only [putL, Act.put, List.setIfInBounds_toArray, List.set_cons_zero, List.set_cons_succ]
                  go_wp2_with fail
                  refine HK.out _ _ ?_
                  refine ⟨v33, v34, v35, (.agg #[.int .i64 (X - px), .int .i64 (Y - py)]), (by rw [ha0]; simp only [putL, Act.put, List.setIfInBounds_toArray, List.set_cons_zero, List.set_cons_succ]), ?_, ?_, ?_, ?_, trivial⟩
                  · obtain ⟨h33, h34, h35, h36, _⟩ := hR.out
                    exact Lib.hid ⟨fun h => h33 (by simpa using h), fun h => h34 (by simpa using h), fun h => h35 (by simpa using h), fun _ => rfl, trivial⟩
                  · exact ((hX.setOld (p := ⟨w.heap.size, 0, none⟩) (by simp) _).setOld (p := ⟨w.heap.size, 1, none⟩) (by simp) _)
                  · exact ⟨_, _, blk_set2 hPB1.out, fun _ => ⟨rfl, rfl⟩, fun h => (by simp at h)⟩
                  · exact fun _ => (by simp [hd0, hd1, hd2, hd3])
                intro s a' w9 hall hI
                try dsimp only at hI
                obtain ⟨v33, v34, v35, v36, hact, hR, hXR, hP1, hQ1, _⟩ := hI
                subst hact
                obtain ⟨h33, h34, h35, h36, _⟩ := hR.out
                clear hR
                have e33 := h33 (hall 0 (by decide))
                subst e33
                clear h33
                have e34 := h34 (hall 1 (by decide))
                subst e34
                clear h34
                have e35 := h35 (hall 2 (by decide))
                subst e35
                clear h35
                have e36 := h36 (hall 3 (by decide))
                subst e36
                clear h36
                obtain ⟨c0, c1, pblkR1, hpt, _⟩ := hP1
                clear hQ1
                obtain ⟨es0, es1⟩ := hpt (hall 4 (by decide))
                subst es0
                subst es1
                clear hpt
                try clear pblk1
                have pblk1 := pblkR1
                clear pblkR1
                clear hall
                rw [ha0]; simp only [putL, Act.put, List.setIfInBounds_toArray, List.set_cons_zero, List.set_cons_succ]
                clear ha0
                have B9 : Below w.heap.size w w9 := hXR.below (by first | assumption | exact (by repeat (first | exact Below.refl _ _ | exact Nat.le_refl _ | refine Below.alloc ?_ ?_ _ | refine Below.setCell ?_ ?_ _ | refine Below.drew ?_ | refine bl_drewN ?_ _ | (assumption) | refine bl_call ?_ (by assumption) ?_ | omega | (simp <;> omega)))) (by first | omega | (simp <;> omega)) (by simp <;> omega)
                clear hXR
                go_wp2_with fail
                go_roundw
                case rel =>
                  refine ⟨m, X - px, Y - py, l ++ [] ++ [49], by first | rfl | (congr 1; omega), by omega, by simp [str_snoc], by simp; omega, Lib.hid ?_, Lib.hid ?_, pblk1, B9⟩
                  · rw [← HT.out, HRD.out, if_pos HDS.out, if_pos HDS.out]; simp [hm]
                  · have := HNL.out
                    rw [GM.nxx_one m _ HDS.out] at this
                    unfold GM.sub at this
                    rw [HPT.out] at this
                    exact this
                case measure => simp [intOf] <;> omega
              · have hcd : decide (0 ≤ T) = false := by simpa using hc
                rw [hcd]
                clear hcd
                have hds : ¬ GM.dgx m (X, Y) = true := fun h => hc (HDX.out.1 h)
                have HDS := Lib.hid hds
                clear hds
                go_wp2_with fail
                go_roundw
                case rel =>
                  refine ⟨m, X, Y, l ++ [] ++ [48], by first | rfl | (congr 1; omega), by omega, by simp [str_snoc], by simp; omega, Lib.hid ?_, Lib.hid ?_, R8, B8⟩
                  · rw [← HT.out, HRD.out, if_neg HDS.out, if_neg HDS.out]; simp [hm]
                  · have := HNL.out
                    rw [GM.nxx_none m _ (by simpa using HDS.out)] at this
                    exact this
                case measure => simp [intOf] <;> omega
end Go.Proofs.YtgocloilagcfoaaDoor
