/- GaugeRungs: for every two ints the law returns true. -/
import Derived.Test.YtgocloilagcfoaaDoorL1
import Derived.Test.YtgocloilagcfoaaDoorR6
import Derived.Test.YtgocloilagcfoaaDoorG15
import Derived.Test.YtgocloilagcfoaaDoorF1
namespace Go.Proofs.YtgocloilagcfoaaDoor
open Go.RowKit
attribute [local go_sem ↓] Go.wp_at_zero Go.wp_at_succ

set_option maxRecDepth 100000 in
set_option maxHeartbeats 4000000 in
theorem GaugeRungs_walk (k n : Int) (w : World) (_ : -9223372036854775808 ≤ k ∧ k ≤ 9223372036854775807) (_ : -9223372036854775808 ≤ n ∧ n ≤ 9223372036854775807) :
    Calls Tryd.prog 12 #[.int .i64 k, .int .i64 n] w fun e w' => e = .returned (.bool true) ∧ Below w.heap.size w w' := by
  by_cases hk : 0 ≤ k ∧ k ≤ 100000
  · have hR := fun wx => Rung_yes k wx hk.1 hk.2
    have hRR := fun wx => refRung k wx (by omega) (by omega)
    obtain ⟨⟨x, y⟩, hp⟩ : ∃ p, GM.gr 34 k = p := ⟨_, rfl⟩
    rw [hp] at hR hRR
    dsimp only at hR hRR
    have HR := Lib.hid hR
    have HRR := Lib.hid hRR
    have gk1 : ¬ k < 0 := by omega
    have gk2 : ¬ 100000 < k := by omega
    clear hR hRR hp hk
    by_cases hn : 0 ≤ n ∧ n ≤ 1000
    · obtain ⟨m, rfl⟩ : ∃ m : Nat, n = m := ⟨n.toNat, by omega⟩
      have hG := fun wx => Gaps_yes m wx (by omega)
      have hGG := fun wx => refGaps m wx (by omega)
      obtain ⟨S, hS⟩ : ∃ S : ByteArray, ⟨(GM.gaps m).toArray⟩ = S := ⟨_, rfl⟩
      rw [hS] at hG hGG
      have HG := Lib.hid hG
      have HGG := Lib.hid hGG
      have gn1 : ¬ (m : Int) < 0 := by omega
      have gn2 : ¬ 1000 < (m : Int) := by omega
      clear hG hGG hS hn
      go_enter Tryd.func12, Tryd.ntmps12
      go_wp2_with fail
      refine (HR.out _).mono ?_
      rintro e w1 ⟨rfl, hb1⟩
      have B1 : Below w.heap.size w w1 := bl_call (by repeat (first | exact Below.refl _ _ | exact Nat.le_refl _ | refine Below.alloc ?_ ?_ _ | refine Below.setCell ?_ ?_ _ | refine Below.drew ?_ | refine bl_drewN ?_ _ | (assumption) | refine bl_call ?_ (by assumption) ?_ | omega | (simp <;> omega))) hb1 (by first | assumption | (simp; done) | (simp; omega) | omega)
      clear hb1
      have hsz_1 := B1.size
      go_wp2_with fail
      refine (HG.out _).mono ?_
      rintro e w2 ⟨rfl, hb2⟩
      have cew1_heap_size2_0 : w2.cell? ⟨w1.heap.size, 0, none⟩ = some (.int .i64 x) := keep_cell hb2 (by first | assumption | (go_simp; done) | (simp; done) | simp [*])
      have zew1_heap_size2 : w1.heap.size < w2.heap.size := block_lt_of_cell cew1_heap_size2_0
      have cew1_heap_size2_1 : w2.cell? ⟨w1.heap.size, 1, none⟩ = some (.int .i64 y) := keep_cell hb2 (by first | assumption | (go_simp; done) | (simp; done) | simp [*])
      have B2 : Below w.heap.size w w2 := bl_call (by repeat (first | exact Below.refl _ _ | exact Nat.le_refl _ | refine Below.alloc ?_ ?_ _ | refine Below.setCell ?_ ?_ _ | refine Below.drew ?_ | refine bl_drewN ?_ _ | (assumption) | refine bl_call ?_ (by assumption) ?_ | omega | (simp <;> omega))) hb2 (by first | assumption | (simp; done) | (simp; omega) | omega)
      clear hb2
      have hsz_2 := B2.size
      go_upto_region 6 with fail
      refine with_act fun a0 ha0 => ?_
      refine wp_region_inv (by kernel_rfl) (by kernel_rfl) (fun s a' w' => ∃ v32 v33 v34 v35 v36 v37 v38 v39 : Value, a' = putL a0 [(32, v32), (33, v33), (34, v34), (35, v35), (36, v36), (37, v37), (38, v38), (39, v39)] ∧ Hid ((s 0 = true → v32 = .agg #[.int .i64 x, .int .i64 y]) ∧ (s 1 = true → v33 = .int .i64 k) ∧ (s 2 = true → v34 = .agg #[.int .i64 x, .int .i64 y]) ∧ (s 3 = true → v35 = .bool false) ∧ (s 4 = true → v36 = .bool false) ∧ (s 5 = true → v37 = .int .i64 0) ∧ (s 6 = true → v38 = .bool false) ∧ (s 7 = true → v39 = .bool false) ∧ True) ∧ BelX [] w2 w' ∧ True) ?x1hzero ⟨?x1hs0, ?x1hs1, ?x1hs2, ?x1hs3, ?x1hs4, ?x1hs5, ?x1hs6, ?x1hs7, trivial⟩ ?x1hdone
      case x1hzero =>
        refine ⟨a0.tmps.getD 32 undef, a0.tmps.getD 33 undef, a0.tmps.getD 34 undef, a0.tmps.getD 35 undef, a0.tmps.getD 36 undef, a0.tmps.getD 37 undef, a0.tmps.getD 38 undef, a0.tmps.getD 39 undef, ?_, ?_, ?_, trivial⟩
        · simp only [putL, put_self]
        · exact Lib.hid ⟨fun h => (by simp at h), fun h => (by simp at h), fun h => (by simp at h), fun h => (by simp at h), fun h => (by simp at h), fun h => (by simp at h), fun h => (by simp at h), fun h => (by simp at h), trivial⟩
        · exact BelX.start _ _
      case x1hs0 =>
        intro s a' w' hsk hdep hI K hK
        try dsimp only at hI hK
        obtain ⟨v32, v33, v34, v35, v36, v37, v38, v39, hact, hR, hX, _⟩ := hI
        subst hact
        have HK := Lib.hid hK
        clear hK
        have kc0 : w'.cell? ⟨w1.heap.size, 0, none⟩ = some (.int .i64 x) := hX.cell (by first | (simp; done) | (simp; omega)) (by first | assumption | (go_simp; done) | (simp; done))
        have kc1 : w'.cell? ⟨w1.heap.size, 1, none⟩ = some (.int .i64 y) := hX.cell (by first | (simp; done) | (simp; omega)) (by first | assumption | (go_simp; done) | (simp; done))
        clear hdep
        refine StepG.mk rfl ?_; rw [ha0]; simp only [putL, Act.put, List.setIfInBounds_toArray, List.set_cons_zero, List.set_cons_succ]
        go_wp2_with fail
        refine HK.out _ _ ?_
        refine ⟨(.agg #[.int .i64 x, .int .i64 y]), v33, v34, v35, v36, v37, v38, v39, (by rw [ha0]; simp only [putL, Act.put, List.setIfInBounds_toArray, List.set_cons_zero, List.set_cons_succ]), ?_, ?_, trivial⟩
        · obtain ⟨h32, h33, h34, h35, h36, h37, h38, h39, _⟩ := hR.out
          exact Lib.hid ⟨fun _ => rfl, fun h => h33 (by simpa using h), fun h => h34 (by simpa using h), fun h => h35 (by simpa using h), fun h => h36 (by simpa using h), fun h => h37 (by simpa using h), fun h => h38 (by simpa using h), fun h => h39 (by simpa using h), trivial⟩
        · exact hX
      case x1hs1 =>
        intro s a' w' hsk hdep hI K hK
        try dsimp only at hI hK
        obtain ⟨v32, v33, v34, v35, v36, v37, v38, v39, hact, hR, hX, _⟩ := hI
        subst hact
        have HK := Lib.hid hK
        clear hK
        have kc0 : w'.cell? ⟨w1.heap.size, 0, none⟩ = some (.int .i64 x) := hX.cell (by first | (simp; done) | (simp; omega)) (by first | assumption | (go_simp; done) | (simp; done))
        have kc1 : w'.cell? ⟨w1.heap.size, 1, none⟩ = some (.int .i64 y) := hX.cell (by first | (simp; done) | (simp; omega)) (by first | assumption | (go_simp; done) | (simp; done))
        clear hdep
        refine StepG.mk rfl ?_; rw [ha0]; simp only [putL, Act.put, List.setIfInBounds_toArray, List.set_cons_zero, List.set_cons_succ]
        go_wp2_with fail
        refine HK.out _ _ ?_
        refine ⟨v32, (.int .i64 k), v34, v35, v36, v37, v38, v39, (by rw [ha0]; simp only [putL, Act.put, List.setIfInBounds_toArray, List.set_cons_zero, List.set_cons_succ]), ?_, ?_, trivial⟩
        · obtain ⟨h32, h33, h34, h35, h36, h37, h38, h39, _⟩ := hR.out
          exact Lib.hid ⟨fun h => h32 (by simpa using h), fun _ => rfl, fun h => h34 (by simpa using h), fun h => h35 (by simpa using h), fun h => h36 (by simpa using h), fun h => h37 (by simpa using h), fun h => h38 (by simpa using h), fun h => h39 (by simpa using h), trivial⟩
        · exact hX
      case x1hs2 =>
        intro s a' w' hsk hdep hI K hK
        try dsimp only at hI hK
        obtain ⟨v32, v33, v34, v35, v36, v37, v38, v39, hact, hR, hX, _⟩ := hI
        subst hact
        have HK := Lib.hid hK
        clear hK
        have e33 : v33 = .int .i64 k := by obtain ⟨h32, h33, h34, h35, h36, h37, h38, h39, _⟩ := hR.out; exact h33 (hdep ⟨1, .data⟩ (by simp) rfl)
        subst e33
        have kc0 : w'.cell? ⟨w1.heap.size, 0, none⟩ = some (.int .i64 x) := hX.cell (by first | (simp; done) | (simp; omega)) (by first | assumption | (go_simp; done) | (simp; done))
        have kc1 : w'.cell? ⟨w1.heap.size, 1, none⟩ = some (.int .i64 y) := hX.cell (by first | (simp; done) | (simp; omega)) (by first | assumption | (go_simp; done) | (simp; done))
        clear hdep
        refine StepG.mk rfl ?_; rw [ha0]; simp only [putL, Act.put, List.setIfInBounds_toArray, List.set_cons_zero, List.set_cons_succ]
        go_wp2_with fail
        refine ((HRR.out _)).mono ?_
        rintro e wn ⟨rfl, hb⟩
        go_wp2_with fail
        refine HK.out _ _ ?_
        refine ⟨v32, (.int .i64 k), (.agg #[.int .i64 x, .int .i64 y]), v35, v36, v37, v38, v39, (by rw [ha0]; simp only [putL, Act.put, List.setIfInBounds_toArray, List.set_cons_zero, List.set_cons_succ]), ?_, ?_, trivial⟩
        · obtain ⟨h32, h33, h34, h35, h36, h37, h38, h39, _⟩ := hR.out
          exact Lib.hid ⟨fun h => h32 (by simpa using h), fun _ => rfl, fun _ => rfl, fun h => h35 (by simpa using h), fun h => h36 (by simpa using h), fun h => h37 (by simpa using h), fun h => h38 (by simpa using h), fun h => h39 (by simpa using h), trivial⟩
        · exact hX.call hb
      case x1hs3 =>
        intro s a' w' hsk hdep hI K hK
        try dsimp only at hI hK
        obtain ⟨v32, v33, v34, v35, v36, v37, v38, v39, hact, hR, hX, _⟩ := hI
        subst hact
        have HK := Lib.hid hK
        clear hK
        have e32 : v32 = .agg #[.int .i64 x, .int .i64 y] := by obtain ⟨h32, h33, h34, h35, h36, h37, h38, h39, _⟩ := hR.out; exact h32 (hdep ⟨0, .data⟩ (by simp) rfl)
        subst e32
        have e34 : v34 = .agg #[.int .i64 x, .int .i64 y] := by obtain ⟨h32, h33, h34, h35, h36, h37, h38, h39, _⟩ := hR.out; exact h34 (hdep ⟨2, .data⟩ (by simp) rfl)
        subst e34
        have kc0 : w'.cell? ⟨w1.heap.size, 0, none⟩ = some (.int .i64 x) := hX.cell (by first | (simp; done) | (simp; omega)) (by first | assumption | (go_simp; done) | (simp; done))
        have kc1 : w'.cell? ⟨w1.heap.size, 1, none⟩ = some (.int .i64 y) := hX.cell (by first | (simp; done) | (simp; omega)) (by first | assumption | (go_simp; done) | (simp; done))
        clear hdep
        refine StepG.mk rfl ?_; rw [ha0]; simp only [putL, Act.put, List.setIfInBounds_toArray, List.set_cons_zero, List.set_cons_succ]
        go_wp2_with fail
        refine HK.out _ _ ?_
        refine ⟨(.agg #[.int .i64 x, .int .i64 y]), v33, (.agg #[.int .i64 x, .int .i64 y]), (.bool false), v36, v37, v38, v39, (by rw [ha0]; simp only [putL, Act.put, List.setIfInBounds_toArray, List.set_cons_zero, List.set_cons_succ]), ?_, ?_, trivial⟩
        · obtain ⟨h32, h33, h34, h35, h36, h37, h38, h39, _⟩ := hR.out
          exact Lib.hid ⟨fun _ => rfl, fun h => h33 (by simpa using h), fun _ => rfl, fun _ => rfl, fun h => h36 (by simpa using h), fun h => h37 (by simpa using h), fun h => h38 (by simpa using h), fun h => h39 (by simpa using h), trivial⟩
        · exact hX
      case x1hs4 =>
        intro s a' w' hsk hdep hI K hK
        try dsimp only at hI hK
        obtain ⟨v32, v33, v34, v35, v36, v37, v38, v39, hact, hR, hX, _⟩ := hI
        subst hact
        have HK := Lib.hid hK
        clear hK
        have e35 : v35 = .bool false := by obtain ⟨h32, h33, h34, h35, h36, h37, h38, h39, _⟩ := hR.out; exact h35 (hdep ⟨3, .data⟩ (by simp) rfl)
        subst e35
        have kc0 : w'.cell? ⟨w1.heap.size, 0, none⟩ = some (.int .i64 x) := hX.cell (by first | (simp; done) | (simp; omega)) (by first | assumption | (go_simp; done) | (simp; done))
        have kc1 : w'.cell? ⟨w1.heap.size, 1, none⟩ = some (.int .i64 y) := hX.cell (by first | (simp; done) | (simp; omega)) (by first | assumption | (go_simp; done) | (simp; done))
        clear hdep
        refine StepG.mk rfl ?_; rw [ha0]; simp only [putL, Act.put, List.setIfInBounds_toArray, List.set_cons_zero, List.set_cons_succ]
        go_wp2_with fail
        refine HK.out _ _ ?_
        refine ⟨v32, v33, v34, (.bool false), (.bool false), v37, v38, v39, (by rw [ha0]; simp only [putL, Act.put, List.setIfInBounds_toArray, List.set_cons_zero, List.set_cons_succ]), ?_, ?_, trivial⟩
        · obtain ⟨h32, h33, h34, h35, h36, h37, h38, h39, _⟩ := hR.out
          exact Lib.hid ⟨fun h => h32 (by simpa using h), fun h => h33 (by simpa using h), fun h => h34 (by simpa using h), fun _ => rfl, fun _ => rfl, fun h => h37 (by simpa using h), fun h => h38 (by simpa using h), fun h => h39 (by simpa using h), trivial⟩
        · exact hX
      case x1hs5 =>
        intro s a' w' hsk hdep hI K hK
        try dsimp only at hI hK
        obtain ⟨v32, v33, v34, v35, v36, v37, v38, v39, hact, hR, hX, _⟩ := hI
        subst hact
        have HK := Lib.hid hK
        clear hK
        have e36 : v36 = .bool false := by obtain ⟨h32, h33, h34, h35, h36, h37, h38, h39, _⟩ := hR.out; exact h36 (hdep ⟨4, .guard⟩ (by simp) rfl)
        subst e36
        have kc0 : w'.cell? ⟨w1.heap.size, 0, none⟩ = some (.int .i64 x) := hX.cell (by first | (simp; done) | (simp; omega)) (by first | assumption | (go_simp; done) | (simp; done))
        have kc1 : w'.cell? ⟨w1.heap.size, 1, none⟩ = some (.int .i64 y) := hX.cell (by first | (simp; done) | (simp; omega)) (by first | assumption | (go_simp; done) | (simp; done))
        clear hdep
        refine StepG.lay ?_; rw [ha0]; simp only [putL, Act.put, List.setIfInBounds_toArray, List.set_cons_zero, List.set_cons_succ]
        go_wp2_with fail
        refine HK.out _ _ ?_
        refine ⟨v32, v33, v34, v35, (.bool false), (.int .i64 0), v38, v39, (by rw [ha0]; simp only [putL, Act.put, List.setIfInBounds_toArray, List.set_cons_zero, List.set_cons_succ]), ?_, ?_, trivial⟩
        · obtain ⟨h32, h33, h34, h35, h36, h37, h38, h39, _⟩ := hR.out
          exact Lib.hid ⟨fun h => h32 (by simpa using h), fun h => h33 (by simpa using h), fun h => h34 (by simpa using h), fun h => h35 (by simpa using h), fun _ => rfl, fun _ => rfl, fun h => h38 (by simpa using h), fun h => h39 (by simpa using h), trivial⟩
        · exact hX
      case x1hs6 =>
        intro s a' w' hsk hdep hI K hK
        try dsimp only at hI hK
        obtain ⟨v32, v33, v34, v35, v36, v37, v38, v39, hact, hR, hX, _⟩ := hI
        subst hact
        have HK := Lib.hid hK
        clear hK
        have e37 : v37 = .int .i64 0 := by obtain ⟨h32, h33, h34, h35, h36, h37, h38, h39, _⟩ := hR.out; exact h37 (hdep ⟨5, .data⟩ (by simp) rfl)
        subst e37
        have e36 : v36 = .bool false := by obtain ⟨h32, h33, h34, h35, h36, h37, h38, h39, _⟩ := hR.out; exact h36 (hdep ⟨4, .guard⟩ (by simp) rfl)
        subst e36
        have kc0 : w'.cell? ⟨w1.heap.size, 0, none⟩ = some (.int .i64 x) := hX.cell (by first | (simp; done) | (simp; omega)) (by first | assumption | (go_simp; done) | (simp; done))
        have kc1 : w'.cell? ⟨w1.heap.size, 1, none⟩ = some (.int .i64 y) := hX.cell (by first | (simp; done) | (simp; omega)) (by first | assumption | (go_simp; done) | (simp; done))
        clear hdep
        refine StepG.lay ?_; rw [ha0]; simp only [putL, Act.put, List.setIfInBounds_toArray, List.set_cons_zero, List.set_cons_succ]
        go_wp2_with fail
        refine HK.out _ _ ?_
        refine ⟨v32, v33, v34, v35, (.bool false), (.int .i64 0), (.bool false), v39, (by rw [ha0]; simp only [putL, Act.put, List.setIfInBounds_toArray, List.set_cons_zero, List.set_cons_succ]), ?_, ?_, trivial⟩
        · obtain ⟨h32, h33, h34, h35, h36, h37, h38, h39, _⟩ := hR.out
          exact Lib.hid ⟨fun h => h32 (by simpa using h), fun h => h33 (by simpa using h), fun h => h34 (by simpa using h), fun h => h35 (by simpa using h), fun _ => rfl, fun _ => rfl, fun _ => rfl, fun h => h39 (by simpa using h), trivial⟩
        · exact hX
      case x1hs7 =>
        intro s a' w' hsk hdep hI K hK
        try dsimp only at hI hK
        obtain ⟨v32, v33, v34, v35, v36, v37, v38, v39, hact, hR, hX, _⟩ := hI
        subst hact
        have HK := Lib.hid hK
        clear hK
        have e36 : v36 = .bool false := by obtain ⟨h32, h33, h34, h35, h36, h37, h38, h39, _⟩ := hR.out; exact h36 (hdep ⟨4, .data⟩ (by simp) rfl)
        subst e36
        have e38 : v38 = .bool false := by obtain ⟨h32, h33, h34, h35, h36, h37, h38, h39, _⟩ := hR.out; exact h38 (hdep ⟨6, .data⟩ (by simp) rfl)
        subst e38
        have kc0 : w'.cell? ⟨w1.heap.size, 0, none⟩ = some (.int .i64 x) := hX.cell (by first | (simp; done) | (simp; omega)) (by first | assumption | (go_simp; done) | (simp; done))
        have kc1 : w'.cell? ⟨w1.heap.size, 1, none⟩ = some (.int .i64 y) := hX.cell (by first | (simp; done) | (simp; omega)) (by first | assumption | (go_simp; done) | (simp; done))
        clear hdep
        refine StepG.mk rfl ?_; rw [ha0]; simp only [putL, Act.put, List.setIfInBounds_toArray, List.set_cons_zero, List.set_cons_succ]
        go_wp2_with fail
        refine HK.out _ _ ?_
        refine ⟨v32, v33, v34, v35, (.bool false), v37, (.bool false), (.bool false), (by rw [ha0]; simp only [putL, Act.put, List.setIfInBounds_toArray, List.set_cons_zero, List.set_cons_succ]), ?_, ?_, trivial⟩
        · obtain ⟨h32, h33, h34, h35, h36, h37, h38, h39, _⟩ := hR.out
          exact Lib.hid ⟨fun h => h32 (by simpa using h), fun h => h33 (by simpa using h), fun h => h34 (by simpa using h), fun h => h35 (by simpa using h), fun _ => rfl, fun h => h37 (by simpa using h), fun _ => rfl, fun _ => rfl, trivial⟩
        · exact hX
      intro s a' w3 hall hI
      try dsimp only at hI
      obtain ⟨v32, v33, v34, v35, v36, v37, v38, v39, hact, hR, hXR, _⟩ := hI
      subst hact
      obtain ⟨h32, h33, h34, h35, h36, h37, h38, h39, _⟩ := hR.out
      clear hR
      have e32 := h32 (hall 0 (by decide))
      subst e32
      clear h32
      have e33 := h33 (hall 1 (by decide))
      subst e33
      clear h33
      have e34 := h34 (hall 2 (by decide))
      subst e34
      clear h34
      have e35 := h35 (hall 3 (by decide))
      subst e35
      clear h35
      have e36 := h36 (hall 4 (by decide))
      subst e36
      clear h36
      have e37 := h37 (hall 5 (by decide))
      subst e37
      clear h37
      have e38 := h38 (hall 6 (by decide))
      subst e38
      clear h38
      have e39 := h39 (hall 7 (by decide))
      subst e39
      clear h39
      clear hall
      rw [ha0]; simp only [putL, Act.put, List.setIfInBounds_toArray, List.set_cons_zero, List.set_cons_succ]
      clear ha0
      have B3 : Below w.heap.size w w3 := hXR.below (by first | assumption | exact (by repeat (first | exact Below.refl _ _ | exact Nat.le_refl _ | refine Below.alloc ?_ ?_ _ | refine Below.setCell ?_ ?_ _ | refine Below.drew ?_ | refine bl_drewN ?_ _ | (assumption) | refine bl_call ?_ (by assumption) ?_ | omega | (simp <;> omega)))) (by first | omega | (simp <;> omega)) (by simp <;> omega)
      have cew1_heap_size3_0 : w3.cell? ⟨w1.heap.size, 0, none⟩ = some (.int .i64 x) := hXR.cell (by first | (simp; done) | (simp; omega)) (by first | assumption | (go_simp; done) | (simp; done))
      have cew1_heap_size3_1 : w3.cell? ⟨w1.heap.size, 1, none⟩ = some (.int .i64 y) := hXR.cell (by first | (simp; done) | (simp; omega)) (by first | assumption | (go_simp; done) | (simp; done))
      have zew1_heap_size3 : w1.heap.size < w3.heap.size := block_lt_of_cell cew1_heap_size3_0
      have hsz_3 := B3.size
      clear hXR
      go_wp2_with fail
      refine (HGG.out _).mono ?_
      rintro e w4 ⟨rfl, hb4⟩
      have cew1_heap_size4_0 : w4.cell? ⟨w1.heap.size, 0, none⟩ = some (.int .i64 x) := keep_cell hb4 (by first | assumption | (go_simp; done) | (simp; done) | simp [*])
      have zew1_heap_size4 : w1.heap.size < w4.heap.size := block_lt_of_cell cew1_heap_size4_0
      have cew1_heap_size4_1 : w4.cell? ⟨w1.heap.size, 1, none⟩ = some (.int .i64 y) := keep_cell hb4 (by first | assumption | (go_simp; done) | (simp; done) | simp [*])
      have B4 : Below w.heap.size w w4 := bl_call (by repeat (first | exact Below.refl _ _ | exact Nat.le_refl _ | refine Below.alloc ?_ ?_ _ | refine Below.setCell ?_ ?_ _ | refine Below.drew ?_ | refine bl_drewN ?_ _ | (assumption) | refine bl_call ?_ (by assumption) ?_ | omega | (simp <;> omega))) hb4 (by first | assumption | (simp; done) | (simp; omega) | omega)
      clear hb4
      have hsz_4 := B4.size
      go_wp2_with fail
      refine (awake_any _).mono ?_
      rintro e w5 ⟨rfl, hb5⟩
      have cew1_heap_size5_0 : w5.cell? ⟨w1.heap.size, 0, none⟩ = some (.int .i64 x) := keep_cell hb5 (by first | assumption | (go_simp; done) | (simp; done) | simp [*])
      have zew1_heap_size5 : w1.heap.size < w5.heap.size := block_lt_of_cell cew1_heap_size5_0
      have cew1_heap_size5_1 : w5.cell? ⟨w1.heap.size, 1, none⟩ = some (.int .i64 y) := keep_cell hb5 (by first | assumption | (go_simp; done) | (simp; done) | simp [*])
      have B5 : Below w.heap.size w w5 := bl_call (by repeat (first | exact Below.refl _ _ | exact Nat.le_refl _ | refine Below.alloc ?_ ?_ _ | refine Below.setCell ?_ ?_ _ | refine Below.drew ?_ | refine bl_drewN ?_ _ | (assumption) | refine bl_call ?_ (by assumption) ?_ | omega | (simp <;> omega))) hb5 (by first | assumption | (simp; done) | (simp; omega) | omega)
      clear hb5
      have hsz_5 := B5.size
      go_wp2_with fail
      go_ret
      exact ⟨rfl, (by repeat (first | exact Below.refl _ _ | exact Nat.le_refl _ | refine Below.alloc ?_ ?_ _ | refine Below.setCell ?_ ?_ _ | refine Below.drew ?_ | refine bl_drewN ?_ _ | (assumption) | refine bl_call ?_ (by assumption) ?_ | omega | (simp <;> omega)))⟩
    · have HG := Lib.hid (fun wx => Gaps_no n wx hn)
      have gn : n < 0 ∨ (¬ n < 0 ∧ 1000 < n) := by omega
      clear hn
      go_enter Tryd.func12, Tryd.ntmps12
      go_wp2_with fail
      refine (HR.out _).mono ?_
      rintro e w1 ⟨rfl, hb1⟩
      have B1 : Below w.heap.size w w1 := bl_call (by repeat (first | exact Below.refl _ _ | exact Nat.le_refl _ | refine Below.alloc ?_ ?_ _ | refine Below.setCell ?_ ?_ _ | refine Below.drew ?_ | refine bl_drewN ?_ _ | (assumption) | refine bl_call ?_ (by assumption) ?_ | omega | (simp <;> omega))) hb1 (by first | assumption | (simp; done) | (simp; omega) | omega)
      clear hb1
      have hsz_1 := B1.size
      go_wp2_with fail
      refine (HG.out _).mono ?_
      rintro e w2 ⟨rfl, hb2⟩
      have cew1_heap_size2_0 : w2.cell? ⟨w1.heap.size, 0, none⟩ = some (.int .i64 x) := keep_cell hb2 (by first | assumption | (go_simp; done) | (simp; done) | simp [*])
      have zew1_heap_size2 : w1.heap.size < w2.heap.size := block_lt_of_cell cew1_heap_size2_0
      have cew1_heap_size2_1 : w2.cell? ⟨w1.heap.size, 1, none⟩ = some (.int .i64 y) := keep_cell hb2 (by first | assumption | (go_simp; done) | (simp; done) | simp [*])
      have B2 : Below w.heap.size w w2 := bl_call (by repeat (first | exact Below.refl _ _ | exact Nat.le_refl _ | refine Below.alloc ?_ ?_ _ | refine Below.setCell ?_ ?_ _ | refine Below.drew ?_ | refine bl_drewN ?_ _ | (assumption) | refine bl_call ?_ (by assumption) ?_ | omega | (simp <;> omega))) hb2 (by first | assumption | (simp; done) | (simp; omega) | omega)
      clear hb2
      have hsz_2 := B2.size
      go_upto_region 6 with fail
      refine with_act fun a0 ha0 => ?_
      refine wp_region_inv (by kernel_rfl) (by kernel_rfl) (fun s a' w' => ∃ v32 v33 v34 v35 v36 v37 v38 v39 : Value, a' = putL a0 [(32, v32), (33, v33), (34, v34), (35, v35), (36, v36), (37, v37), (38, v38), (39, v39)] ∧ Hid ((s 0 = true → v32 = .agg #[.int .i64 x, .int .i64 y]) ∧ (s 1 = true → v33 = .int .i64 k) ∧ (s 2 = true → v34 = .agg #[.int .i64 x, .int .i64 y]) ∧ (s 3 = true → v35 = .bool false) ∧ (s 4 = true → v36 = .bool false) ∧ (s 5 = true → v37 = .int .i64 0) ∧ (s 6 = true → v38 = .bool false) ∧ (s 7 = true → v39 = .bool false) ∧ True) ∧ BelX [] w2 w' ∧ True) ?x2hzero ⟨?x2hs0, ?x2hs1, ?x2hs2, ?x2hs3, ?x2hs4, ?x2hs5, ?x2hs6, ?x2hs7, trivial⟩ ?x2hdone
      case x2hzero =>
        refine ⟨a0.tmps.getD 32 undef, a0.tmps.getD 33 undef, a0.tmps.getD 34 undef, a0.tmps.getD 35 undef, a0.tmps.getD 36 undef, a0.tmps.getD 37 undef, a0.tmps.getD 38 undef, a0.tmps.getD 39 undef, ?_, ?_, ?_, trivial⟩
        · simp only [putL, put_self]
        · exact Lib.hid ⟨fun h => (by simp at h), fun h => (by simp at h), fun h => (by simp at h), fun h => (by simp at h), fun h => (by simp at h), fun h => (by simp at h), fun h => (by simp at h), fun h => (by simp at h), trivial⟩
        · exact BelX.start _ _
      case x2hs0 =>
        intro s a' w' hsk hdep hI K hK
        try dsimp only at hI hK
        obtain ⟨v32, v33, v34, v35, v36, v37, v38, v39, hact, hR, hX, _⟩ := hI
        subst hact
        have HK := Lib.hid hK
        clear hK
        have kc0 : w'.cell? ⟨w1.heap.size, 0, none⟩ = some (.int .i64 x) := hX.cell (by first | (simp; done) | (simp; omega)) (by first | assumption | (go_simp; done) | (simp; done))
        have kc1 : w'.cell? ⟨w1.heap.size, 1, none⟩ = some (.int .i64 y) := hX.cell (by first | (simp; done) | (simp; omega)) (by first | assumption | (go_simp; done) | (simp; done))
        clear hdep
        refine StepG.mk rfl ?_; rw [ha0]; simp only [putL, Act.put, List.setIfInBounds_toArray, List.set_cons_zero, List.set_cons_succ]
        go_wp2_with fail
        refine HK.out _ _ ?_
        refine ⟨(.agg #[.int .i64 x, .int .i64 y]), v33, v34, v35, v36, v37, v38, v39, (by rw [ha0]; simp only [putL, Act.put, List.setIfInBounds_toArray, List.set_cons_zero, List.set_cons_succ]), ?_, ?_, trivial⟩
        · obtain ⟨h32, h33, h34, h35, h36, h37, h38, h39, _⟩ := hR.out
          exact Lib.hid ⟨fun _ => rfl, fun h => h33 (by simpa using h), fun h => h34 (by simpa using h), fun h => h35 (by simpa using h), fun h => h36 (by simpa using h), fun h => h37 (by simpa using h), fun h => h38 (by simpa using h), fun h => h39 (by simpa using h), trivial⟩
        · exact hX
      case x2hs1 =>
        intro s a' w' hsk hdep hI K hK
        try dsimp only at hI hK
        obtain ⟨v32, v33, v34, v35, v36, v37, v38, v39, hact, hR, hX, _⟩ := hI
        subst hact
        have HK := Lib.hid hK
        clear hK
        have kc0 : w'.cell? ⟨w1.heap.size, 0, none⟩ = some (.int .i64 x) := hX.cell (by first | (simp; done) | (simp; omega)) (by first | assumption | (go_simp; done) | (simp; done))
        have kc1 : w'.cell? ⟨w1.heap.size, 1, none⟩ = some (.int .i64 y) := hX.cell (by first | (simp; done) | (simp; omega)) (by first | assumption | (go_simp; done) | (simp; done))
        clear hdep
        refine StepG.mk rfl ?_; rw [ha0]; simp only [putL, Act.put, List.setIfInBounds_toArray, List.set_cons_zero, List.set_cons_succ]
        go_wp2_with fail
        refine HK.out _ _ ?_
        refine ⟨v32, (.int .i64 k), v34, v35, v36, v37, v38, v39, (by rw [ha0]; simp only [putL, Act.put, List.setIfInBounds_toArray, List.set_cons_zero, List.set_cons_succ]), ?_, ?_, trivial⟩
        · obtain ⟨h32, h33, h34, h35, h36, h37, h38, h39, _⟩ := hR.out
          exact Lib.hid ⟨fun h => h32 (by simpa using h), fun _ => rfl, fun h => h34 (by simpa using h), fun h => h35 (by simpa using h), fun h => h36 (by simpa using h), fun h => h37 (by simpa using h), fun h => h38 (by simpa using h), fun h => h39 (by simpa using h), trivial⟩
        · exact hX
      case x2hs2 =>
        intro s a' w' hsk hdep hI K hK
        try dsimp only at hI hK
        obtain ⟨v32, v33, v34, v35, v36, v37, v38, v39, hact, hR, hX, _⟩ := hI
        subst hact
        have HK := Lib.hid hK
        clear hK
        have e33 : v33 = .int .i64 k := by obtain ⟨h32, h33, h34, h35, h36, h37, h38, h39, _⟩ := hR.out; exact h33 (hdep ⟨1, .data⟩ (by simp) rfl)
        subst e33
        have kc0 : w'.cell? ⟨w1.heap.size, 0, none⟩ = some (.int .i64 x) := hX.cell (by first | (simp; done) | (simp; omega)) (by first | assumption | (go_simp; done) | (simp; done))
        have kc1 : w'.cell? ⟨w1.heap.size, 1, none⟩ = some (.int .i64 y) := hX.cell (by first | (simp; done) | (simp; omega)) (by first | assumption | (go_simp; done) | (simp; done))
        clear hdep
        refine StepG.mk rfl ?_; rw [ha0]; simp only [putL, Act.put, List.setIfInBounds_toArray, List.set_cons_zero, List.set_cons_succ]
        go_wp2_with fail
        refine ((HRR.out _)).mono ?_
        rintro e wn ⟨rfl, hb⟩
        go_wp2_with fail
        refine HK.out _ _ ?_
        refine ⟨v32, (.int .i64 k), (.agg #[.int .i64 x, .int .i64 y]), v35, v36, v37, v38, v39, (by rw [ha0]; simp only [putL, Act.put, List.setIfInBounds_toArray, List.set_cons_zero, List.set_cons_succ]), ?_, ?_, trivial⟩
        · obtain ⟨h32, h33, h34, h35, h36, h37, h38, h39, _⟩ := hR.out
          exact Lib.hid ⟨fun h => h32 (by simpa using h), fun _ => rfl, fun _ => rfl, fun h => h35 (by simpa using h), fun h => h36 (by simpa using h), fun h => h37 (by simpa using h), fun h => h38 (by simpa using h), fun h => h39 (by simpa using h), trivial⟩
        · exact hX.call hb
      case x2hs3 =>
        intro s a' w' hsk hdep hI K hK
        try dsimp only at hI hK
        obtain ⟨v32, v33, v34, v35, v36, v37, v38, v39, hact, hR, hX, _⟩ := hI
        subst hact
        have HK := Lib.hid hK
        clear hK
        have e32 : v32 = .agg #[.int .i64 x, .int .i64 y] := by obtain ⟨h32, h33, h34, h35, h36, h37, h38, h39, _⟩ := hR.out; exact h32 (hdep ⟨0, .data⟩ (by simp) rfl)
        subst e32
        have e34 : v34 = .agg #[.int .i64 x, .int .i64 y] := by obtain ⟨h32, h33, h34, h35, h36, h37, h38, h39, _⟩ := hR.out; exact h34 (hdep ⟨2, .data⟩ (by simp) rfl)
        subst e34
        have kc0 : w'.cell? ⟨w1.heap.size, 0, none⟩ = some (.int .i64 x) := hX.cell (by first | (simp; done) | (simp; omega)) (by first | assumption | (go_simp; done) | (simp; done))
        have kc1 : w'.cell? ⟨w1.heap.size, 1, none⟩ = some (.int .i64 y) := hX.cell (by first | (simp; done) | (simp; omega)) (by first | assumption | (go_simp; done) | (simp; done))
        clear hdep
        refine StepG.mk rfl ?_; rw [ha0]; simp only [putL, Act.put, List.setIfInBounds_toArray, List.set_cons_zero, List.set_cons_succ]
        go_wp2_with fail
        refine HK.out _ _ ?_
        refine ⟨(.agg #[.int .i64 x, .int .i64 y]), v33, (.agg #[.int .i64 x, .int .i64 y]), (.bool false), v36, v37, v38, v39, (by rw [ha0]; simp only [putL, Act.put, List.setIfInBounds_toArray, List.set_cons_zero, List.set_cons_succ]), ?_, ?_, trivial⟩
        · obtain ⟨h32, h33, h34, h35, h36, h37, h38, h39, _⟩ := hR.out
          exact Lib.hid ⟨fun _ => rfl, fun h => h33 (by simpa using h), fun _ => rfl, fun _ => rfl, fun h => h36 (by simpa using h), fun h => h37 (by simpa using h), fun h => h38 (by simpa using h), fun h => h39 (by simpa using h), trivial⟩
        · exact hX
      case x2hs4 =>
        intro s a' w' hsk hdep hI K hK
        try dsimp only at hI hK
        obtain ⟨v32, v33, v34, v35, v36, v37, v38, v39, hact, hR, hX, _⟩ := hI
        subst hact
        have HK := Lib.hid hK
        clear hK
        have e35 : v35 = .bool false := by obtain ⟨h32, h33, h34, h35, h36, h37, h38, h39, _⟩ := hR.out; exact h35 (hdep ⟨3, .data⟩ (by simp) rfl)
        subst e35
        have kc0 : w'.cell? ⟨w1.heap.size, 0, none⟩ = some (.int .i64 x) := hX.cell (by first | (simp; done) | (simp; omega)) (by first | assumption | (go_simp; done) | (simp; done))
        have kc1 : w'.cell? ⟨w1.heap.size, 1, none⟩ = some (.int .i64 y) := hX.cell (by first | (simp; done) | (simp; omega)) (by first | assumption | (go_simp; done) | (simp; done))
        clear hdep
        refine StepG.mk rfl ?_; rw [ha0]; simp only [putL, Act.put, List.setIfInBounds_toArray, List.set_cons_zero, List.set_cons_succ]
        go_wp2_with fail
        refine HK.out _ _ ?_
        refine ⟨v32, v33, v34, (.bool false), (.bool false), v37, v38, v39, (by rw [ha0]; simp only [putL, Act.put, List.setIfInBounds_toArray, List.set_cons_zero, List.set_cons_succ]), ?_, ?_, trivial⟩
        · obtain ⟨h32, h33, h34, h35, h36, h37, h38, h39, _⟩ := hR.out
          exact Lib.hid ⟨fun h => h32 (by simpa using h), fun h => h33 (by simpa using h), fun h => h34 (by simpa using h), fun _ => rfl, fun _ => rfl, fun h => h37 (by simpa using h), fun h => h38 (by simpa using h), fun h => h39 (by simpa using h), trivial⟩
        · exact hX
      case x2hs5 =>
        intro s a' w' hsk hdep hI K hK
        try dsimp only at hI hK
        obtain ⟨v32, v33, v34, v35, v36, v37, v38, v39, hact, hR, hX, _⟩ := hI
        subst hact
        have HK := Lib.hid hK
        clear hK
        have e36 : v36 = .bool false := by obtain ⟨h32, h33, h34, h35, h36, h37, h38, h39, _⟩ := hR.out; exact h36 (hdep ⟨4, .guard⟩ (by simp) rfl)
        subst e36
        have kc0 : w'.cell? ⟨w1.heap.size, 0, none⟩ = some (.int .i64 x) := hX.cell (by first | (simp; done) | (simp; omega)) (by first | assumption | (go_simp; done) | (simp; done))
        have kc1 : w'.cell? ⟨w1.heap.size, 1, none⟩ = some (.int .i64 y) := hX.cell (by first | (simp; done) | (simp; omega)) (by first | assumption | (go_simp; done) | (simp; done))
        clear hdep
        refine StepG.lay ?_; rw [ha0]; simp only [putL, Act.put, List.setIfInBounds_toArray, List.set_cons_zero, List.set_cons_succ]
        go_wp2_with fail
        refine HK.out _ _ ?_
        refine ⟨v32, v33, v34, v35, (.bool false), (.int .i64 0), v38, v39, (by rw [ha0]; simp only [putL, Act.put, List.setIfInBounds_toArray, List.set_cons_zero, List.set_cons_succ]), ?_, ?_, trivial⟩
        · obtain ⟨h32, h33, h34, h35, h36, h37, h38, h39, _⟩ := hR.out
          exact Lib.hid ⟨fun h => h32 (by simpa using h), fun h => h33 (by simpa using h), fun h => h34 (by simpa using h), fun h => h35 (by simpa using h), fun _ => rfl, fun _ => rfl, fun h => h38 (by simpa using h), fun h => h39 (by simpa using h), trivial⟩
        · exact hX
      case x2hs6 =>
        intro s a' w' hsk hdep hI K hK
        try dsimp only at hI hK
        obtain ⟨v32, v33, v34, v35, v36, v37, v38, v39, hact, hR, hX, _⟩ := hI
        subst hact
        have HK := Lib.hid hK
        clear hK
        have e37 : v37 = .int .i64 0 := by obtain ⟨h32, h33, h34, h35, h36, h37, h38, h39, _⟩ := hR.out; exact h37 (hdep ⟨5, .data⟩ (by simp) rfl)
        subst e37
        have e36 : v36 = .bool false := by obtain ⟨h32, h33, h34, h35, h36, h37, h38, h39, _⟩ := hR.out; exact h36 (hdep ⟨4, .guard⟩ (by simp) rfl)
        subst e36
        have kc0 : w'.cell? ⟨w1.heap.size, 0, none⟩ = some (.int .i64 x) := hX.cell (by first | (simp; done) | (simp; omega)) (by first | assumption | (go_simp; done) | (simp; done))
        have kc1 : w'.cell? ⟨w1.heap.size, 1, none⟩ = some (.int .i64 y) := hX.cell (by first | (simp; done) | (simp; omega)) (by first | assumption | (go_simp; done) | (simp; done))
        clear hdep
        refine StepG.lay ?_; rw [ha0]; simp only [putL, Act.put, List.setIfInBounds_toArray, List.set_cons_zero, List.set_cons_succ]
        go_wp2_with fail
        refine HK.out _ _ ?_
        refine ⟨v32, v33, v34, v35, (.bool false), (.int .i64 0), (.bool false), v39, (by rw [ha0]; simp only [putL, Act.put, List.setIfInBounds_toArray, List.set_cons_zero, List.set_cons_succ]), ?_, ?_, trivial⟩
        · obtain ⟨h32, h33, h34, h35, h36, h37, h38, h39, _⟩ := hR.out
          exact Lib.hid ⟨fun h => h32 (by simpa using h), fun h => h33 (by simpa using h), fun h => h34 (by simpa using h), fun h => h35 (by simpa using h), fun _ => rfl, fun _ => rfl, fun _ => rfl, fun h => h39 (by simpa using h), trivial⟩
        · exact hX
      case x2hs7 =>
        intro s a' w' hsk hdep hI K hK
        try dsimp only at hI hK
        obtain ⟨v32, v33, v34, v35, v36, v37, v38, v39, hact, hR, hX, _⟩ := hI
        subst hact
        have HK := Lib.hid hK
        clear hK
        have e36 : v36 = .bool false := by obtain ⟨h32, h33, h34, h35, h36, h37, h38, h39, _⟩ := hR.out; exact h36 (hdep ⟨4, .data⟩ (by simp) rfl)
        subst e36
        have e38 : v38 = .bool false := by obtain ⟨h32, h33, h34, h35, h36, h37, h38, h39, _⟩ := hR.out; exact h38 (hdep ⟨6, .data⟩ (by simp) rfl)
        subst e38
        have kc0 : w'.cell? ⟨w1.heap.size, 0, none⟩ = some (.int .i64 x) := hX.cell (by first | (simp; done) | (simp; omega)) (by first | assumption | (go_simp; done) | (simp; done))
        have kc1 : w'.cell? ⟨w1.heap.size, 1, none⟩ = some (.int .i64 y) := hX.cell (by first | (simp; done) | (simp; omega)) (by first | assumption | (go_simp; done) | (simp; done))
        clear hdep
        refine StepG.mk rfl ?_; rw [ha0]; simp only [putL, Act.put, List.setIfInBounds_toArray, List.set_cons_zero, List.set_cons_succ]
        go_wp2_with fail
        refine HK.out _ _ ?_
        refine ⟨v32, v33, v34, v35, (.bool false), v37, (.bool false), (.bool false), (by rw [ha0]; simp only [putL, Act.put, List.setIfInBounds_toArray, List.set_cons_zero, List.set_cons_succ]), ?_, ?_, trivial⟩
        · obtain ⟨h32, h33, h34, h35, h36, h37, h38, h39, _⟩ := hR.out
          exact Lib.hid ⟨fun h => h32 (by simpa using h), fun h => h33 (by simpa using h), fun h => h34 (by simpa using h), fun h => h35 (by simpa using h), fun _ => rfl, fun h => h37 (by simpa using h), fun _ => rfl, fun _ => rfl, trivial⟩
        · exact hX
      intro s a' w3 hall hI
      try dsimp only at hI
      obtain ⟨v32, v33, v34, v35, v36, v37, v38, v39, hact, hR, hXR, _⟩ := hI
      subst hact
      obtain ⟨h32, h33, h34, h35, h36, h37, h38, h39, _⟩ := hR.out
      clear hR
      have e32 := h32 (hall 0 (by decide))
      subst e32
      clear h32
      have e33 := h33 (hall 1 (by decide))
      subst e33
      clear h33
      have e34 := h34 (hall 2 (by decide))
      subst e34
      clear h34
      have e35 := h35 (hall 3 (by decide))
      subst e35
      clear h35
      have e36 := h36 (hall 4 (by decide))
      subst e36
      clear h36
      have e37 := h37 (hall 5 (by decide))
      subst e37
      clear h37
      have e38 := h38 (hall 6 (by decide))
      subst e38
      clear h38
      have e39 := h39 (hall 7 (by decide))
      subst e39
      clear h39
      clear hall
      rw [ha0]; simp only [putL, Act.put, List.setIfInBounds_toArray, List.set_cons_zero, List.set_cons_succ]
      clear ha0
      have B3 : Below w.heap.size w w3 := hXR.below (by first | assumption | exact (by repeat (first | exact Below.refl _ _ | exact Nat.le_refl _ | refine Below.alloc ?_ ?_ _ | refine Below.setCell ?_ ?_ _ | refine Below.drew ?_ | refine bl_drewN ?_ _ | (assumption) | refine bl_call ?_ (by assumption) ?_ | omega | (simp <;> omega)))) (by first | omega | (simp <;> omega)) (by simp <;> omega)
      have cew1_heap_size3_0 : w3.cell? ⟨w1.heap.size, 0, none⟩ = some (.int .i64 x) := hXR.cell (by first | (simp; done) | (simp; omega)) (by first | assumption | (go_simp; done) | (simp; done))
      have cew1_heap_size3_1 : w3.cell? ⟨w1.heap.size, 1, none⟩ = some (.int .i64 y) := hXR.cell (by first | (simp; done) | (simp; omega)) (by first | assumption | (go_simp; done) | (simp; done))
      have zew1_heap_size3 : w1.heap.size < w3.heap.size := block_lt_of_cell cew1_heap_size3_0
      have hsz_3 := B3.size
      clear hXR
      rcases gn with gn | ⟨gn1, gn2⟩
      all_goals
        go_wp2_with fail
        refine (awake_any _).mono ?_
        rintro e w4 ⟨rfl, hb4⟩
        have cew1_heap_size4_0 : w4.cell? ⟨w1.heap.size, 0, none⟩ = some (.int .i64 x) := keep_cell hb4 (by first | assumption | (go_simp; done) | (simp; done) | simp [*])
        have zew1_heap_size4 : w1.heap.size < w4.heap.size := block_lt_of_cell cew1_heap_size4_0
        have cew1_heap_size4_1 : w4.cell? ⟨w1.heap.size, 1, none⟩ = some (.int .i64 y) := keep_cell hb4 (by first | assumption | (go_simp; done) | (simp; done) | simp [*])
        have B4 : Below w.heap.size w w4 := bl_call (by repeat (first | exact Below.refl _ _ | exact Nat.le_refl _ | refine Below.alloc ?_ ?_ _ | refine Below.setCell ?_ ?_ _ | refine Below.drew ?_ | refine bl_drewN ?_ _ | (assumption) | refine bl_call ?_ (by assumption) ?_ | omega | (simp <;> omega))) hb4 (by first | assumption | (simp; done) | (simp; omega) | omega)
        clear hb4
        have hsz_4 := B4.size
        go_wp2_with fail
        go_ret
        exact ⟨rfl, (by repeat (first | exact Below.refl _ _ | exact Nat.le_refl _ | refine Below.alloc ?_ ?_ _ | refine Below.setCell ?_ ?_ _ | refine Below.drew ?_ | refine bl_drewN ?_ _ | (assumption) | refine bl_call ?_ (by assumption) ?_ | omega | (simp <;> omega)))⟩
  · have HR := Lib.hid (fun wx => Rung_no k wx hk)
    have gk : k < 0 ∨ (¬ k < 0 ∧ 100000 < k) := by omega
    clear hk
    by_cases hn : 0 ≤ n ∧ n ≤ 1000
    · obtain ⟨m, rfl⟩ : ∃ m : Nat, n = m := ⟨n.toNat, by omega⟩
      have hG := fun wx => Gaps_yes m wx (by omega)
      have hGG := fun wx => refGaps m wx (by omega)
      obtain ⟨S, hS⟩ : ∃ S : ByteArray, ⟨(GM.gaps m).toArray⟩ = S := ⟨_, rfl⟩
      rw [hS] at hG hGG
      have HG := Lib.hid hG
      have HGG := Lib.hid hGG
      have gn1 : ¬ (m : Int) < 0 := by omega
      have gn2 : ¬ 1000 < (m : Int) := by omega
      clear hG hGG hS hn
      go_enter Tryd.func12, Tryd.ntmps12
      go_wp2_with fail
      refine (HR.out _).mono ?_
      rintro e w1 ⟨rfl, hb1⟩
      have B1 : Below w.heap.size w w1 := bl_call (by repeat (first | exact Below.refl _ _ | exact Nat.le_refl _ | refine Below.alloc ?_ ?_ _ | refine Below.setCell ?_ ?_ _ | refine Below.drew ?_ | refine bl_drewN ?_ _ | (assumption) | refine bl_call ?_ (by assumption) ?_ | omega | (simp <;> omega))) hb1 (by first | assumption | (simp; done) | (simp; omega) | omega)
      clear hb1
      have hsz_1 := B1.size
      go_wp2_with fail
      refine (HG.out _).mono ?_
      rintro e w2 ⟨rfl, hb2⟩
      have cew1_heap_size2_0 : w2.cell? ⟨w1.heap.size, 0, none⟩ = some (.int .i64 0) := keep_cell hb2 (by first | assumption | (go_simp; done) | (simp; done) | simp [*])
      have zew1_heap_size2 : w1.heap.size < w2.heap.size := block_lt_of_cell cew1_heap_size2_0
      have cew1_heap_size2_1 : w2.cell? ⟨w1.heap.size, 1, none⟩ = some (.int .i64 0) := keep_cell hb2 (by first | assumption | (go_simp; done) | (simp; done) | simp [*])
      have B2 : Below w.heap.size w w2 := bl_call (by repeat (first | exact Below.refl _ _ | exact Nat.le_refl _ | refine Below.alloc ?_ ?_ _ | refine Below.setCell ?_ ?_ _ | refine Below.drew ?_ | refine bl_drewN ?_ _ | (assumption) | refine bl_call ?_ (by assumption) ?_ | omega | (simp <;> omega))) hb2 (by first | assumption | (simp; done) | (simp; omega) | omega)
      clear hb2
      have hsz_2 := B2.size
      rcases gk with gk | ⟨gk1, gk2⟩
      all_goals
        go_wp2_with fail
        refine (HGG.out _).mono ?_
        rintro e w3 ⟨rfl, hb3⟩
        have cew1_heap_size3_0 : w3.cell? ⟨w1.heap.size, 0, none⟩ = some (.int .i64 0) := keep_cell hb3 (by first | assumption | (go_simp; done) | (simp; done) | simp [*])
        have zew1_heap_size3 : w1.heap.size < w3.heap.size := block_lt_of_cell cew1_heap_size3_0
        have cew1_heap_size3_1 : w3.cell? ⟨w1.heap.size, 1, none⟩ = some (.int .i64 0) := keep_cell hb3 (by first | assumption | (go_simp; done) | (simp; done) | simp [*])
        have B3 : Below w.heap.size w w3 := bl_call (by repeat (first | exact Below.refl _ _ | exact Nat.le_refl _ | refine Below.alloc ?_ ?_ _ | refine Below.setCell ?_ ?_ _ | refine Below.drew ?_ | refine bl_drewN ?_ _ | (assumption) | refine bl_call ?_ (by assumption) ?_ | omega | (simp <;> omega))) hb3 (by first | assumption | (simp; done) | (simp; omega) | omega)
        clear hb3
        have hsz_3 := B3.size
        go_wp2_with fail
        refine (awake_any _).mono ?_
        rintro e w4 ⟨rfl, hb4⟩
        have cew1_heap_size4_0 : w4.cell? ⟨w1.heap.size, 0, none⟩ = some (.int .i64 0) := keep_cell hb4 (by first | assumption | (go_simp; done) | (simp; done) | simp [*])
        have zew1_heap_size4 : w1.heap.size < w4.heap.size := block_lt_of_cell cew1_heap_size4_0
        have cew1_heap_size4_1 : w4.cell? ⟨w1.heap.size, 1, none⟩ = some (.int .i64 0) := keep_cell hb4 (by first | assumption | (go_simp; done) | (simp; done) | simp [*])
        have B4 : Below w.heap.size w w4 := bl_call (by repeat (first | exact Below.refl _ _ | exact Nat.le_refl _ | refine Below.alloc ?_ ?_ _ | refine Below.setCell ?_ ?_ _ | refine Below.drew ?_ | refine bl_drewN ?_ _ | (assumption) | refine bl_call ?_ (by assumption) ?_ | omega | (simp <;> omega))) hb4 (by first | assumption | (simp; done) | (simp; omega) | omega)
        clear hb4
        have hsz_4 := B4.size
        go_wp2_with fail
        go_ret
        exact ⟨rfl, (by repeat (first | exact Below.refl _ _ | exact Nat.le_refl _ | refine Below.alloc ?_ ?_ _ | refine Below.setCell ?_ ?_ _ | refine Below.drew ?_ | refine bl_drewN ?_ _ | (assumption) | refine bl_call ?_ (by assumption) ?_ | omega | (simp <;> omega)))⟩
    · have HG := Lib.hid (fun wx => Gaps_no n wx hn)
      have gn : n < 0 ∨ (¬ n < 0 ∧ 1000 < n) := by omega
      clear hn
      go_enter Tryd.func12, Tryd.ntmps12
      go_wp2_with fail
      refine (HR.out _).mono ?_
      rintro e w1 ⟨rfl, hb1⟩
      have B1 : Below w.heap.size w w1 := bl_call (by repeat (first | exact Below.refl _ _ | exact Nat.le_refl _ | refine Below.alloc ?_ ?_ _ | refine Below.setCell ?_ ?_ _ | refine Below.drew ?_ | refine bl_drewN ?_ _ | (assumption) | refine bl_call ?_ (by assumption) ?_ | omega | (simp <;> omega))) hb1 (by first | assumption | (simp; done) | (simp; omega) | omega)
      clear hb1
      have hsz_1 := B1.size
      go_wp2_with fail
      refine (HG.out _).mono ?_
      rintro e w2 ⟨rfl, hb2⟩
      have cew1_heap_size2_0 : w2.cell? ⟨w1.heap.size, 0, none⟩ = some (.int .i64 0) := keep_cell hb2 (by first | assumption | (go_simp; done) | (simp; done) | simp [*])
      have zew1_heap_size2 : w1.heap.size < w2.heap.size := block_lt_of_cell cew1_heap_size2_0
      have cew1_heap_size2_1 : w2.cell? ⟨w1.heap.size, 1, none⟩ = some (.int .i64 0) := keep_cell hb2 (by first | assumption | (go_simp; done) | (simp; done) | simp [*])
      have B2 : Below w.heap.size w w2 := bl_call (by repeat (first | exact Below.refl _ _ | exact Nat.le_refl _ | refine Below.alloc ?_ ?_ _ | refine Below.setCell ?_ ?_ _ | refine Below.drew ?_ | refine bl_drewN ?_ _ | (assumption) | refine bl_call ?_ (by assumption) ?_ | omega | (simp <;> omega))) hb2 (by first | assumption | (simp; done) | (simp; omega) | omega)
      clear hb2
      have hsz_2 := B2.size
      rcases gk with gk | ⟨gk1, gk2⟩
      all_goals
        rcases gn with gn | ⟨gn1, gn2⟩
        all_goals
          go_wp2_with fail
          refine (awake_any _).mono ?_
          rintro e w3 ⟨rfl, hb3⟩
          have cew1_heap_size3_0 : w3.cell? ⟨w1.heap.size, 0, none⟩ = some (.int .i64 0) := keep_cell hb3 (by first | assumption | (go_simp; done) | (simp; done) | simp [*])
          have zew1_heap_size3 : w1.heap.size < w3.heap.size := block_lt_of_cell cew1_heap_size3_0
          have cew1_heap_size3_1 : w3.cell? ⟨w1.heap.size, 1, none⟩ = some (.int .i64 0) := keep_cell hb3 (by first | assumption | (go_simp; done) | (simp; done) | simp [*])
          have B3 : Below w.heap.size w w3 := bl_call (by repeat (first | exact Below.refl _ _ | exact Nat.le_refl _ | refine Below.alloc ?_ ?_ _ | refine Below.setCell ?_ ?_ _ | refine Below.drew ?_ | refine bl_drewN ?_ _ | (assumption) | refine bl_call ?_ (by assumption) ?_ | omega | (simp <;> omega))) hb3 (by first | assumption | (simp; done) | (simp; omega) | omega)
          clear hb3
          have hsz_3 := B3.size
          go_wp2_with fail
          go_ret
          exact ⟨rfl, (by repeat (first | exact Below.refl _ _ | exact Nat.le_refl _ | refine Below.alloc ?_ ?_ _ | refine Below.setCell ?_ ?_ _ | refine Below.drew ?_ | refine bl_drewN ?_ _ | (assumption) | refine bl_call ?_ (by assumption) ?_ | omega | (simp <;> omega)))⟩
namespace gaugeRungs
open Go.ChangeShapes Go.WideShapes Go.ChangeAt Go.RowKit
open Go.Lib Go.Joins
set_option maxRecDepth 100000 in
theorem contract (H : Type) (enc : TypeId × Value → H) (W : World) (base : Nat) (args : Array Value) (ds gs : List (DataW H)) (before : List MemPlace)
    (hval : ∀ (j : Nat) t v, Tryd.f12.params[j]? = some t → args[j]? = some v → Value.okWide Tryd.prog W .any base t v)
    (hW : DataW.Whole enc Tryd.prog Tryd.f12.params.toList Rows.gaugeRungsSpec.vars false W args.toList ds gs before) :
    Calls Tryd.prog 12 args W fun e W' => ∃ v, e = .returned v ∧ Rows.gaugeRungsSpec.post enc Tryd.prog Tryd.f12 false true false false W args v W' := by
  have hW' := hW
  obtain ⟨p, q, hA0, hV, rfl, hfz, hnd⟩ := hW
  have hA : DataW.TrodAll enc Tryd.prog W 0 (fun _ => true) true Tryd.f12.params.toList args.toList ds p := hA0
  rw [Tryd.params12] at hA hval
  obtain ⟨v0, vs0, d0, ds0, p0, q0, hargs, rfl, rfl, h0, r0⟩ := trodAll_cons hA
  obtain ⟨v1, vs1, d1, ds1, p1, q1, rfl, rfl, rfl, h1, r1⟩ := trodAll_cons r0
  obtain ⟨rfl, rfl, rfl⟩ := trodAll_nil r1
  obtain rfl : args = #[v0, v1] := by cases args; simp_all
  obtain ⟨rfl, rfl⟩ := trodVars_none hV
  obtain ⟨x0, rfl, rfl, rfl, wx0⟩ := open_int Tryd.underlying3 (hval 0 3 v0 rfl rfl) h0
  obtain ⟨x1, rfl, rfl, rfl, wx1⟩ := open_int Tryd.underlying3 (hval 1 3 v1 rfl rfl) h1
  clear hA0
  simp only [List.append_nil] at hW'
  refine (show Calls Tryd.prog 12 _ W _ from (GaugeRungs_walk x0 x1 W (inI wx0) (inI wx1))).mono fun e W' ⟨he, hb⟩ => ?_
  subst he
  exact ⟨_, rfl, _, _, _, [], [], [], hW', trodAll_mk1 (shut_bool Tryd.underlying4 _), trodAll_cons_mk (shut_int Tryd.underlying3 wx0) (trodAll_cons_mk (shut_int Tryd.underlying3 wx1) (trodAll_mk0)), rfl, hb.frame _, fun h => by cases h⟩
theorem reads (os : Os) {H : Type} (enc : TypeId × Value → H) : ∃ places, DataW.whole enc Tryd.prog ((laidWorld os).forCall (fun _ _ => 0) ⟨#[], #[.int .i64 0, .int .i64 0], []⟩).memory Tryd.f12.params.toList Rows.gaugeRungsSpec.vars false (#[.int .i64 0, .int .i64 0] : Array Value).toList 8 = some ([.lit (.int .i64 0), .lit (.int .i64 0)], [], places) :=
  ⟨[], by kernel_rfl⟩
set_option maxRecDepth 100000 in
theorem lifted (os : Os) (started : os.Started) (H : Type) (enc : TypeId × Value → H) (F : Stop.Interp) :
    ReturnsInHanded {} Tryd.checked os 12 .any ((OpenSpec.ofChange Rows.gaugeRungsSpec).preRow enc Tryd.prog Tryd.f12 Rows.gaugeRungsRow.domain false Rows.gaugeRungsRow.laid) (((OpenSpec.ofChange Rows.gaugeRungsSpec).at F).post enc Tryd.prog Tryd.f12 false true false false) := by
  obtain ⟨places, hx⟩ := reads os enc
  refine returnsInHanded_of_row (C := Tryd.checked) (s := OpenSpec.ofChange Rows.gaugeRungsSpec) own started (by kernel_rfl) Tryd.func12
    (witness_row_at (enc := enc) (C := Tryd.checked) false (laidWorld os) #[.int .i64 0, .int .i64 0] rfl (by kernel_rfl) (by kernel_rfl) (by kernel_rfl)
      (OpenSpec.preRow_of_cond 8 hx (by kernel_rfl) (fun k hk => by cases hk) (by kernel_rfl) (laid_met os _))) ?_
  intro W base args ds gs before hval hW _ _ _ _ _ _
  exact contract H enc W base args ds gs before hval hW
theorem said : Rows.GaugeRungsSaid :=
  OpenClaim.holds_of_cond 12 Tryd.f12 rfl rfl rfl rfl rfl rfl rfl ⟨rfl, rfl, rfl, rfl, rfl⟩ rfl rfl rfl rfl rfl (by kernel_rfl) Tryd.func12 (by kernel_rfl)
    (of_decide_eq_true (by kernel_rfl)) (by unfold Func.isWrapper; first | (rw [if_pos (by decide +kernel)]; kernel_rfl) | (rw [if_neg (by decide +kernel)]; exact ⟨rfl, rfl⟩))
    (fun os started H enc _ F => by rw [OpenClaim.pre_eq_preRow]; exact lifted os started H enc F)
theorem plain (f : FuncId) (fn : Func) (hf : Tryd.pinned.checked.prog.funcNamed "remould/remouldlaw04.GaugeRungs" = some f) (hfn : Tryd.pinned.checked.prog.funcs[f]? = some fn) :
    true = Tryd.pinned.checked.prog.looks [] ∧ ∀ (j : Nat) t, fn.params[j]? = some t → Tryd.pinned.checked.prog.wantsStandIn t = false := by
  obtain rfl : f = 12 := Option.some.inj ((show Tryd.prog.funcNamed "remould/remouldlaw04.GaugeRungs" = some 12 by kernel_rfl).symm.trans hf) |>.symm
  obtain rfl : fn = Tryd.f12 := (Option.some.inj (Tryd.func12.symm.trans hfn)).symm
  refine ⟨by kernel_rfl, fun j t ht => ?_⟩
  rw [Tryd.params12] at ht
  have hm : t ∈ [3, 3] := by simpa using Array.mem_of_getElem? ht
  have hall : ([3, 3].all fun u => !Tryd.prog.wantsStandIn u) = true := by kernel_rfl
  exact (show Tryd.prog.wantsStandIn t = false by simpa using List.all_eq_true.1 hall t (by simpa using hm))
theorem card : Rows.GaugeRungsCardSaid :=
  Claim7.holds_tied_plain_at .later [] _ _ _ _ said (fun _ h => by cases h) (by kernel_rfl) (fun _ h => by cases h) gaugeRungs_row_tie rfl ⟨rfl, rfl⟩ (by kernel_rfl) rfl plain (by kernel_rfl)
end gaugeRungs
theorem GaugeRungs_holds : Rows.GaugeRungsCardSaid := gaugeRungs.card
end Go.Proofs.YtgocloilagcfoaaDoor
