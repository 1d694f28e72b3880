/- Below returns how many values of the ladder are less, or ErrArg. -/
import Derived.Test.YtgocloilagcfoabDoorG11
import Derived.Test.YtgocloilagcfoabDoorC5
import Derived.Test.YtgocloilagcfoabDoorM3
namespace Go.Proofs.YtgocloilagcfoabDoor
open Go.RowKit
attribute [local go_sem ↓] Go.wp_at_zero Go.wp_at_succ

/-- the number of values of the ladder that are less -/
def BelowIs (a b n : Int) : Prop := (n = 0 ∨ GM.sgn ((GM.gr 34 (n - 1)).1 - a) ((GM.gr 34 (n - 1)).2 - b) < 0) ∧ 0 ≤ GM.sgn ((GM.gr 34 n).1 - a) ((GM.gr 34 n).2 - b)
theorem gr_bd (k : Int) (h0 : 0 ≤ k) (h1 : k ≤ 4000000) : 0 ≤ (GM.gr 34 k).1 ∧ 0 ≤ (GM.gr 34 k).2 ∧ (GM.gr 34 k).1 ≤ 4000000 ∧ (GM.gr 34 k).2 ≤ 4000000 := by
  have := (GM.gr_isRung k h0 (by omega)).bounds h0
  omega
theorem below_lt {a b n m : Int} (b1 : -1000000 ≤ b) (b2 : b ≤ 1000000) (h : 0 ≤ GM.sgn ((GM.gr 34 n).1 - a) ((GM.gr 34 n).2 - b)) (h' : GM.sgn ((GM.gr 34 m).1 - a) ((GM.gr 34 m).2 - b) < 0) (n0 : 0 ≤ n) (m0 : 0 ≤ m) (n1 : n ≤ 4000000) (m1 : m ≤ 4000000) : m < n := by
  have e1 := gr_bd n n0 n1
  have e2 := gr_bd m m0 m1
  have l1 := GM.sgn_nonneg_lin h (by omega) (by omega)
  have l2 := GM.sgn_neg_lin h' (by omega) (by omega)
  rcases Int.lt_trichotomy m n with hl | hl | hl
  · exact hl
  · subst hl; exfalso; omega
  · exfalso
    have := (GM.gr_isRung n n0 (by omega)).lt (GM.gr_isRung m m0 (by omega)) hl
    unfold GM.lin at *
    omega
theorem below_unique {a b n m : Int} (b1 : -1000000 ≤ b) (b2 : b ≤ 1000000) (h : BelowIs a b n) (h' : BelowIs a b m) (n0 : 0 ≤ n) (m0 : 0 ≤ m) (n1 : n ≤ 4000000) (m1 : m ≤ 4000000) : n = m := by
  rcases Int.lt_trichotomy n m with hl | hl | hl
  · rcases h'.1 with h0 | h0
    · omega
    · have := below_lt b1 b2 h.2 h0 n0 (by omega) n1 (by omega); omega
  · exact hl
  · rcases h.1 with h0 | h0
    · omega
    · have := below_lt b1 b2 h'.2 h0 m0 (by omega) m1 (by omega); omega
/-- what is at most the bound is at most a high value of the ladder -/
theorem below_top (k a b : Int) (hk : 0 ≤ GM.sgn ((GM.gr 34 k).1 - 1000000) (GM.gr 34 k).2) (h : GM.sgn (a - 1000000) b ≤ 0) : 0 ≤ GM.sgn ((GM.gr 34 k).1 - a) ((GM.gr 34 k).2 - b) := by
  have h2 := sgn_flip a b 1000000
  have := (GM.sg_add ((GM.gr 34 k).1 - 1000000, (GM.gr 34 k).2) (1000000 - a, 0 - b)).1 hk (by unfold GM.sg; dsimp only; rw [h2]; omega)
  unfold GM.sg GM.add at this
  dsimp only at this
  rw [show (GM.gr 34 k).1 - 1000000 + (1000000 - a) = (GM.gr 34 k).1 - a by omega, show (GM.gr 34 k).2 + (0 - b) = (GM.gr 34 k).2 - b by omega] at this
  exact this
theorem top_4 : 0 ≤ GM.sgn ((GM.gr 34 4000000).1 - 1000000) (GM.gr 34 4000000).2 := by decide +kernel
theorem top_2 : 0 ≤ GM.sgn ((GM.gr 34 2097152).1 - 1000000) (GM.gr 34 2097152).2 := by decide +kernel

set_option maxRecDepth 100000 in
set_option maxHeartbeats 4000000 in
theorem Below_yes (a b : Int) (w : World) (h1 : isN a b = true) (h2 : GM.sgn (a - 1000000) b ≤ 0) :
    Calls Tryd.prog 30 #[.agg #[.int .i64 a, .int .i64 b]] w fun e w' => ∃ n, e = .returned (.tuple #[.int .i64 n, .int .i64 0]) ∧ BelowIs a b n ∧ 0 ≤ n ∧ n ≤ 4000000 ∧ Below w.heap.size w w' := by
  obtain ⟨x1, x2, x3, x4⟩ := (isN_iff a b).1 h1
  simp only [] at x1 x2 x3 x4
  have htop := below_top 4000000 a b top_4 h2
  have hC := fun wx => compare_any a b 1000000 0 wx (by omega) (by omega) (by omega) (by omega) (by omega) (by omega) (by omega) (by omega)
  rw [Int.sub_zero] at hC
  obtain ⟨S, hS⟩ : ∃ S, GM.sgn (a - 1000000) b = S := ⟨_, rfl⟩
  rw [hS] at hC h2
  have gS : ¬ 0 < S := by omega
  have HC := Lib.hid hC
  have H1 := Lib.hid h1
  have HTOP := Lib.hid htop
  clear hC h1 h2 hS htop
  go_enter Tryd.func30, Tryd.ntmps30
  go_wp2_with fail
  refine (isNum _ _ _).mono ?_
  rintro e w1 ⟨rfl, hb1⟩
  have z1_0 : w.heap.size < w1.heap.size := by have := hb1.size; (try simp at this); omega
  have c1_0_0 : w1.cell? ⟨w.heap.size, 0, none⟩ = some (.int .i64 a) := keep_cell hb1 (by first | assumption | (go_simp; done) | (simp; done) | simp [*])
  have c1_0_1 : w1.cell? ⟨w.heap.size, 1, none⟩ = some (.int .i64 b) := keep_cell hb1 (by first | assumption | (go_simp; done) | (simp; done) | simp [*])
  have B1 : Below w.heap.size w w1 := bl_call (by repeat (first | exact Below.refl _ _ | exact Nat.le_refl _ | refine Below.alloc ?_ ?_ _ | refine Below.setCell ?_ ?_ _ | refine Below.drew ?_ | refine bl_drewN ?_ _ | (assumption) | refine bl_call ?_ (by assumption) ?_ | omega | (simp <;> omega))) hb1 (by first | assumption | (simp; done) | (simp; omega) | omega)
  clear hb1
  have hsz_1 := B1.size
  rw [H1.out]
  go_wp2_with fail
  refine (HC.out _).mono ?_
  rintro e w2 ⟨rfl, hb2⟩
  have z2_0 : w.heap.size < w2.heap.size := by have := hb2.size; (try simp at this); omega
  have c2_0_0 : w2.cell? ⟨w.heap.size, 0, none⟩ = some (.int .i64 a) := keep_cell hb2 (by first | assumption | (go_simp; done) | (simp; done) | simp [*])
  have c2_0_1 : w2.cell? ⟨w.heap.size, 1, none⟩ = some (.int .i64 b) := keep_cell hb2 (by first | assumption | (go_simp; done) | (simp; done) | simp [*])
  have B2 : Below w.heap.size w w2 := bl_call (by repeat (first | exact Below.refl _ _ | exact Nat.le_refl _ | refine Below.alloc ?_ ?_ _ | refine Below.setCell ?_ ?_ _ | refine Below.drew ?_ | refine bl_drewN ?_ _ | (assumption) | refine bl_call ?_ (by assumption) ?_ | omega | (simp <;> omega))) hb2 (by first | assumption | (simp; done) | (simp; omega) | omega)
  clear hb2
  have hsz_2 := B2.size
  go_wp2_with fail
  go_loopw [4, 5] (fun x y wr => ∃ l h : Int, x = .int .i64 l ∧ y = .int .i64 h ∧ (-1 ≤ l ∧ l < h ∧ h ≤ 4000000) ∧ Hid (l = -1 ∨ GM.sgn ((GM.gr 34 l).1 - a) ((GM.gr 34 l).2 - b) < 0) ∧ Hid (0 ≤ GM.sgn ((GM.gr 34 h).1 - a) ((GM.gr 34 h).2 - b)) ∧ wr.cell? ⟨w.heap.size, 0, none⟩ = some (.int .i64 a) ∧ wr.cell? ⟨w.heap.size, 1, none⟩ = some (.int .i64 b) ∧ Below w.heap.size w wr) (fun x y _ => (intOf y - intOf x).toNat)
  case atStart => exact ⟨-1, 4000000, rfl, rfl, by omega, Lib.hid (.inl rfl), HTOP, c2_0_0, c2_0_1, B2⟩
  case round =>
    obtain ⟨l, h, rfl, rfl, ⟨l0, lh, hm⟩, HL, HH, d0, d1, B⟩ := hrel
    have hws : w.heap.size < wr.heap.size := block_lt_of_cell d0
    by_cases hlt : l + 1 < h
    · obtain ⟨m1, m2⟩ := tdiv_mid l h hlt
      obtain ⟨m, hmm⟩ : ∃ m, (l + h).tdiv 2 = m := ⟨_, rfl⟩
      have hq : (l + h) / 2 = m := by rw [← hmm, Int.tdiv_eq_ediv_of_nonneg (by omega)]
      rw [hmm] at m1 m2
      have hg := gr_bd m (by omega) (by omega)
      have hR := fun wx => rung_any m wx (by omega) (by omega)
      have HE1 : Hid (GM.sgn ((GM.gr 34 m).1 - a) ((GM.gr 34 m).2 - b) < 0 → m = -1 ∨ GM.sgn ((GM.gr 34 m).1 - a) ((GM.gr 34 m).2 - b) < 0) := Lib.hid .inr
      obtain ⟨⟨x, y⟩, hp⟩ : ∃ p, GM.gr 34 m = p := ⟨_, rfl⟩
      rw [hp] at hR hg HE1
      dsimp only at hR hg HE1
      have hCm := fun wx => compare_any x y a b wx (by omega) (by omega) (by omega) (by omega) (by omega) (by omega) (by omega) (by omega)
      obtain ⟨T, hT⟩ : ∃ T, GM.sgn (x - a) (y - b) = T := ⟨_, rfl⟩
      rw [hT] at hCm
      have HP := Lib.hid hp
      have HT := Lib.hid hT
      have HR := Lib.hid hR
      have HCM := Lib.hid hCm
      clear hp hT hR hCm HE1 hg
      go_upto_region 6 with fail
      refine with_act fun a0 ha0 => ?_
      refine wp_region_inv (by kernel_rfl) (by kernel_rfl) (fun s a' w' => ∃ v24 v25 v26 v27 v28 : Value, a' = putL a0 [(24, v24), (25, v25), (26, v26), (27, v27), (28, v28)] ∧ Hid ((s 0 = true → v24 = .int .i64 m) ∧ (s 1 = true → v25 = .agg #[.int .i64 x, .int .i64 y]) ∧ (s 2 = true → v26 = .agg #[.int .i64 a, .int .i64 b]) ∧ (s 3 = true → v27 = .int .i64 T) ∧ (s 4 = true → v28 = .bool (decide (T < 0))) ∧ True) ∧ BelX [] wr w' ∧ True) ?x1hzero ⟨?x1hs0, ?x1hs1, ?x1hs2, ?x1hs3, ?x1hs4, trivial⟩ ?x1hdone
      case x1hzero =>
        refine ⟨a0.tmps.getD 24 undef, a0.tmps.getD 25 undef, a0.tmps.getD 26 undef, a0.tmps.getD 27 undef, a0.tmps.getD 28 undef, ?_, ?_, ?_, trivial⟩
        · simp only [putL, put_self]
        · exact Lib.hid ⟨fun h => (by simp at h), fun h => (by simp at h), fun h => (by simp at h), fun h => (by simp at h), fun h => (by simp at h), trivial⟩
        · exact BelX.start _ _
      case x1hs0 =>
        intro s a' w' hsk hdep hI K hK
        try dsimp only at hI hK
        obtain ⟨v24, v25, v26, v27, v28, hact, hR, hX, _⟩ := hI
        subst hact
        have HK := Lib.hid hK
        clear hK
        have kc0 : w'.cell? ⟨w.heap.size, 0, none⟩ = some (.int .i64 a) := hX.cell (by first | (simp; done) | (simp; omega)) (by first | assumption | (go_simp; done) | (simp; done))
        have kc1 : w'.cell? ⟨w.heap.size, 1, none⟩ = some (.int .i64 b) := hX.cell (by first | (simp; done) | (simp; omega)) (by first | assumption | (go_simp; done) | (simp; done))
        clear hdep
        refine StepG.mk rfl ?_; rw [ha0]; simp only [putL, Act.put, List.setIfInBounds_toArray, List.set_cons_zero, List.set_cons_succ]
        go_wp2_with fail
        refine HK.out _ _ ?_
        refine ⟨(.int .i64 m), v25, v26, v27, v28, (by rw [ha0]; simp only [putL, Act.put, List.setIfInBounds_toArray, List.set_cons_zero, List.set_cons_succ]), ?_, ?_, trivial⟩
        · obtain ⟨h24, h25, h26, h27, h28, _⟩ := hR.out
          exact Lib.hid ⟨fun _ => rfl, fun h => h25 (by simpa using h), fun h => h26 (by simpa using h), fun h => h27 (by simpa using h), fun h => h28 (by simpa using h), trivial⟩
        · exact hX
      case x1hs1 =>
        intro s a' w' hsk hdep hI K hK
        try dsimp only at hI hK
        obtain ⟨v24, v25, v26, v27, v28, hact, hR, hX, _⟩ := hI
        subst hact
        have HK := Lib.hid hK
        clear hK
        have e24 : v24 = .int .i64 m := by obtain ⟨h24, h25, h26, h27, h28, _⟩ := hR.out; exact h24 (hdep ⟨0, .data⟩ (by simp) rfl)
        subst e24
        have kc0 : w'.cell? ⟨w.heap.size, 0, none⟩ = some (.int .i64 a) := hX.cell (by first | (simp; done) | (simp; omega)) (by first | assumption | (go_simp; done) | (simp; done))
        have kc1 : w'.cell? ⟨w.heap.size, 1, none⟩ = some (.int .i64 b) := hX.cell (by first | (simp; done) | (simp; omega)) (by first | assumption | (go_simp; done) | (simp; done))
        clear hdep
        refine StepG.mk rfl ?_; rw [ha0]; simp only [putL, Act.put, List.setIfInBounds_toArray, List.set_cons_zero, List.set_cons_succ]
        go_wp2_with fail
        refine ((HR.out _)).mono ?_
        rintro e wn ⟨rfl, hb⟩
        go_wp2_with fail
        refine HK.out _ _ ?_
        refine ⟨(.int .i64 m), (.agg #[.int .i64 x, .int .i64 y]), v26, v27, v28, (by rw [ha0]; simp only [putL, Act.put, List.setIfInBounds_toArray, List.set_cons_zero, List.set_cons_succ]), ?_, ?_, trivial⟩
        · obtain ⟨h24, h25, h26, h27, h28, _⟩ := hR.out
          exact Lib.hid ⟨fun _ => rfl, fun _ => rfl, fun h => h26 (by simpa using h), fun h => h27 (by simpa using h), fun h => h28 (by simpa using h), trivial⟩
        · exact hX.call hb
      case x1hs2 =>
        intro s a' w' hsk hdep hI K hK
        try dsimp only at hI hK
        obtain ⟨v24, v25, v26, v27, v28, hact, hR, hX, _⟩ := hI
        subst hact
        have HK := Lib.hid hK
        clear hK
        have kc0 : w'.cell? ⟨w.heap.size, 0, none⟩ = some (.int .i64 a) := hX.cell (by first | (simp; done) | (simp; omega)) (by first | assumption | (go_simp; done) | (simp; done))
        have kc1 : w'.cell? ⟨w.heap.size, 1, none⟩ = some (.int .i64 b) := hX.cell (by first | (simp; done) | (simp; omega)) (by first | assumption | (go_simp; done) | (simp; done))
        clear hdep
        refine StepG.mk rfl ?_; rw [ha0]; simp only [putL, Act.put, List.setIfInBounds_toArray, List.set_cons_zero, List.set_cons_succ]
        go_wp2_with fail
        refine HK.out _ _ ?_
        refine ⟨v24, v25, (.agg #[.int .i64 a, .int .i64 b]), v27, v28, (by rw [ha0]; simp only [putL, Act.put, List.setIfInBounds_toArray, List.set_cons_zero, List.set_cons_succ]), ?_, ?_, trivial⟩
        · obtain ⟨h24, h25, h26, h27, h28, _⟩ := hR.out
          exact Lib.hid ⟨fun h => h24 (by simpa using h), fun h => h25 (by simpa using h), fun _ => rfl, fun h => h27 (by simpa using h), fun h => h28 (by simpa using h), trivial⟩
        · exact hX
      case x1hs3 =>
        intro s a' w' hsk hdep hI K hK
        try dsimp only at hI hK
        obtain ⟨v24, v25, v26, v27, v28, hact, hR, hX, _⟩ := hI
        subst hact
        have HK := Lib.hid hK
        clear hK
        have e25 : v25 = .agg #[.int .i64 x, .int .i64 y] := by obtain ⟨h24, h25, h26, h27, h28, _⟩ := hR.out; exact h25 (hdep ⟨1, .data⟩ (by simp) rfl)
        subst e25
        have e26 : v26 = .agg #[.int .i64 a, .int .i64 b] := by obtain ⟨h24, h25, h26, h27, h28, _⟩ := hR.out; exact h26 (hdep ⟨2, .data⟩ (by simp) rfl)
        subst e26
        have kc0 : w'.cell? ⟨w.heap.size, 0, none⟩ = some (.int .i64 a) := hX.cell (by first | (simp; done) | (simp; omega)) (by first | assumption | (go_simp; done) | (simp; done))
        have kc1 : w'.cell? ⟨w.heap.size, 1, none⟩ = some (.int .i64 b) := hX.cell (by first | (simp; done) | (simp; omega)) (by first | assumption | (go_simp; done) | (simp; done))
        clear hdep
        refine StepG.mk rfl ?_; rw [ha0]; simp only [putL, Act.put, List.setIfInBounds_toArray, List.set_cons_zero, List.set_cons_succ]
        go_wp2_with fail
        refine ((HCM.out _)).mono ?_
        rintro e wn ⟨rfl, hb⟩
        go_wp2_with fail
        refine HK.out _ _ ?_
        refine ⟨v24, (.agg #[.int .i64 x, .int .i64 y]), (.agg #[.int .i64 a, .int .i64 b]), (.int .i64 T), v28, (by rw [ha0]; simp only [putL, Act.put, List.setIfInBounds_toArray, List.set_cons_zero, List.set_cons_succ]), ?_, ?_, trivial⟩
        · obtain ⟨h24, h25, h26, h27, h28, _⟩ := hR.out
          exact Lib.hid ⟨fun h => h24 (by simpa using h), fun _ => rfl, fun _ => rfl, fun _ => rfl, fun h => h28 (by simpa using h), trivial⟩
        · exact hX.call hb
      case x1hs4 =>
        intro s a' w' hsk hdep hI K hK
        try dsimp only at hI hK
        obtain ⟨v24, v25, v26, v27, v28, hact, hR, hX, _⟩ := hI
        subst hact
        have HK := Lib.hid hK
        clear hK
        have e27 : v27 = .int .i64 T := by obtain ⟨h24, h25, h26, h27, h28, _⟩ := hR.out; exact h27 (hdep ⟨3, .data⟩ (by simp) rfl)
        subst e27
        have kc0 : w'.cell? ⟨w.heap.size, 0, none⟩ = some (.int .i64 a) := hX.cell (by first | (simp; done) | (simp; omega)) (by first | assumption | (go_simp; done) | (simp; done))
        have kc1 : w'.cell? ⟨w.heap.size, 1, none⟩ = some (.int .i64 b) := hX.cell (by first | (simp; done) | (simp; omega)) (by first | assumption | (go_simp; done) | (simp; done))
        clear hdep
        refine StepG.mk rfl ?_; rw [ha0]; simp only [putL, Act.put, List.setIfInBounds_toArray, List.set_cons_zero, List.set_cons_succ]
        go_wp2_with fail
        refine HK.out _ _ ?_
        refine ⟨v24, v25, v26, (.int .i64 T), (.bool (decide (T < 0))), (by rw [ha0]; simp only [putL, Act.put, List.setIfInBounds_toArray, List.set_cons_zero, List.set_cons_succ]), ?_, ?_, trivial⟩
        · obtain ⟨h24, h25, h26, h27, h28, _⟩ := hR.out
          exact Lib.hid ⟨fun h => h24 (by simpa using h), fun h => h25 (by simpa using h), fun h => h26 (by simpa using h), fun _ => rfl, fun _ => rfl, trivial⟩
        · exact hX
      intro s a' w8 hall hI
      try dsimp only at hI
      obtain ⟨v24, v25, v26, v27, v28, hact, hR, hXR, _⟩ := hI
      subst hact
      obtain ⟨h24, h25, h26, h27, h28, _⟩ := hR.out
      clear hR
      have e24 := h24 (hall 0 (by decide))
      subst e24
      clear h24
      have e25 := h25 (hall 1 (by decide))
      subst e25
      clear h25
      have e26 := h26 (hall 2 (by decide))
      subst e26
      clear h26
      have e27 := h27 (hall 3 (by decide))
      subst e27
      clear h27
      have e28 := h28 (hall 4 (by decide))
      subst e28
      clear h28
      clear hall
      rw [ha0]; simp only [putL, Act.put, List.setIfInBounds_toArray, List.set_cons_zero, List.set_cons_succ]
      clear ha0
      have B8 : Below w.heap.size w w8 := hXR.below (by first | assumption | exact (by repeat (first | exact Below.refl _ _ | exact Nat.le_refl _ | refine Below.alloc ?_ ?_ _ | refine Below.setCell ?_ ?_ _ | refine Below.drew ?_ | refine bl_drewN ?_ _ | (assumption) | refine bl_call ?_ (by assumption) ?_ | omega | (simp <;> omega)))) (by first | omega | (simp <;> omega)) (by simp <;> omega)
      have cew_heap_size8_0 : w8.cell? ⟨w.heap.size, 0, none⟩ = some (.int .i64 a) := hXR.cell (by first | (simp; done) | (simp; omega)) (by first | assumption | (go_simp; done) | (simp; done))
      have cew_heap_size8_1 : w8.cell? ⟨w.heap.size, 1, none⟩ = some (.int .i64 b) := hXR.cell (by first | (simp; done) | (simp; omega)) (by first | assumption | (go_simp; done) | (simp; done))
      have zew_heap_size8 : w.heap.size < w8.heap.size := block_lt_of_cell cew_heap_size8_0
      have hsz_8 := B8.size
      clear hXR
      by_cases hc : T < 0
      · have hcd : decide (T < 0) = true := by simpa using hc
        go_wp2_with fail
        go_roundw
        case rel => exact ⟨m, h, rfl, rfl, by omega, Lib.hid (.inr (by rw [HP.out]; dsimp only; rw [HT.out]; exact hc)), HH, by assumption, by assumption, B8⟩
        case measure => simp [intOf]; omega
      · have hcd : decide (T < 0) = false := by simpa using hc
        go_wp2_with fail
        go_roundw
        case rel => exact ⟨l, m, rfl, rfl, by omega, HL, Lib.hid (by rw [HP.out]; dsimp only; rw [HT.out]; omega), by assumption, by assumption, B8⟩
        case measure => simp [intOf]; omega
    · obtain rfl : h = l + 1 := by omega
      go_wp2_with fail
      go_ret2
      refine ⟨_, rfl, ⟨?_, HH.out⟩, by omega, by omega, B⟩
      rcases HL.out with h0 | h0
      · exact .inl (by omega)
      · exact .inr (by rw [Int.add_sub_cancel]; exact h0)
theorem Below_no (a b : Int) (w : World) (h : isN a b = false ∨ 0 < GM.sgn (a - 1000000) b) :
    Calls Tryd.prog 30 #[.agg #[.int .i64 a, .int .i64 b]] w fun e w' => e = .returned (.tuple #[.int .i64 0, .int .i64 2]) ∧ Below w.heap.size w w' := by
  by_cases h1 : isN a b = true
  · obtain ⟨x1, x2, x3, x4⟩ := (isN_iff a b).1 h1
    simp only [] at x1 x2 x3 x4
    have h2 : 0 < GM.sgn (a - 1000000) b := by
      rcases h with h | h
      · rw [h] at h1; cases h1
      · exact h
    have hC := fun wx => compare_any a b 1000000 0 wx (by omega) (by omega) (by omega) (by omega) (by omega) (by omega) (by omega) (by omega)
    rw [Int.sub_zero] at hC
    obtain ⟨S, hS⟩ : ∃ S, GM.sgn (a - 1000000) b = S := ⟨_, rfl⟩
    rw [hS] at hC h2
    have HC := Lib.hid hC
    have H1 := Lib.hid h1
    clear hC h1 hS h
    go_enter Tryd.func30, Tryd.ntmps30
    go_wp2_with fail
    refine (isNum _ _ _).mono ?_
    rintro e w1 ⟨rfl, hb1⟩
    have z1_0 : w.heap.size < w1.heap.size := by have := hb1.size; (try simp at this); omega
    have c1_0_0 : w1.cell? ⟨w.heap.size, 0, none⟩ = some (.int .i64 a) := keep_cell hb1 (by first | assumption | (go_simp; done) | (simp; done) | simp [*])
    have c1_0_1 : w1.cell? ⟨w.heap.size, 1, none⟩ = some (.int .i64 b) := keep_cell hb1 (by first | assumption | (go_simp; done) | (simp; done) | simp [*])
    have B1 : Below w.heap.size w w1 := bl_call (by repeat (first | exact Below.refl _ _ | exact Nat.le_refl _ | refine Below.alloc ?_ ?_ _ | refine Below.setCell ?_ ?_ _ | refine Below.drew ?_ | refine bl_drewN ?_ _ | (assumption) | refine bl_call ?_ (by assumption) ?_ | omega | (simp <;> omega))) hb1 (by first | assumption | (simp; done) | (simp; omega) | omega)
    clear hb1
    have hsz_1 := B1.size
    rw [H1.out]
    go_wp2_with fail
    refine (HC.out _).mono ?_
    rintro e w2 ⟨rfl, hb2⟩
    have z2_0 : w.heap.size < w2.heap.size := by have := hb2.size; (try simp at this); omega
    have B2 : Below w.heap.size w w2 := bl_call (by repeat (first | exact Below.refl _ _ | exact Nat.le_refl _ | refine Below.alloc ?_ ?_ _ | refine Below.setCell ?_ ?_ _ | refine Below.drew ?_ | refine bl_drewN ?_ _ | (assumption) | refine bl_call ?_ (by assumption) ?_ | omega | (simp <;> omega))) hb2 (by first | assumption | (simp; done) | (simp; omega) | omega)
    clear hb2
    have hsz_2 := B2.size
    go_wp2_with fail
    go_ret2
    exact ⟨rfl, (by repeat (first | exact Below.refl _ _ | exact Nat.le_refl _ | refine Below.alloc ?_ ?_ _ | refine Below.setCell ?_ ?_ _ | refine Below.drew ?_ | refine bl_drewN ?_ _ | (assumption) | refine bl_call ?_ (by assumption) ?_ | omega | (simp <;> omega)))⟩
  · have h1' : isN a b = false := by simpa using h1
    have H1 := Lib.hid h1'
    clear h h1 h1'
    go_enter Tryd.func30, Tryd.ntmps30
    go_wp2_with fail
    refine (isNum _ _ _).mono ?_
    rintro e w1 ⟨rfl, hb1⟩
    have z1_0 : w.heap.size < w1.heap.size := by have := hb1.size; (try simp at this); omega
    have B1 : Below w.heap.size w w1 := bl_call (by repeat (first | exact Below.refl _ _ | exact Nat.le_refl _ | refine Below.alloc ?_ ?_ _ | refine Below.setCell ?_ ?_ _ | refine Below.drew ?_ | refine bl_drewN ?_ _ | (assumption) | refine bl_call ?_ (by assumption) ?_ | omega | (simp <;> omega))) hb1 (by first | assumption | (simp; done) | (simp; omega) | omega)
    clear hb1
    have hsz_1 := B1.size
    rw [H1.out]
    go_wp2_with fail
    go_ret2
    exact ⟨rfl, (by repeat (first | exact Below.refl _ _ | exact Nat.le_refl _ | refine Below.alloc ?_ ?_ _ | refine Below.setCell ?_ ?_ _ | refine Below.drew ?_ | refine bl_drewN ?_ _ | (assumption) | refine bl_call ?_ (by assumption) ?_ | omega | (simp <;> omega)))⟩
end Go.Proofs.YtgocloilagcfoabDoor
