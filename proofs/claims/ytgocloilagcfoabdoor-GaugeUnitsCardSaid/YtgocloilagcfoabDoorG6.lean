/- write returns the plain text of a number that is not less than 0. -/
import Derived.Test.YtgocloilagcfoabDoorG5
import Derived.Test.YtgocloilagcfoabDoorM2
namespace Go.Proofs.YtgocloilagcfoabDoor
open Go.RowKit
attribute [local go_sem ↓] Go.wp_at_zero Go.wp_at_succ

theorem isBuilder_belX {T e B b : Nat} {bs : List Value} {ks : List Nat} {w w' : World} (h : Lib.IsBuilder T e B b bs w) (hX : BelX ks w w') (hk : ∀ k ∈ ks, k < B) : Lib.IsBuilder T e B b bs w' := by
  have key : ∀ p, Lib.BuilderAt T e B b p bs w → Lib.BuilderAt T e B b p bs w' := by
    rintro p ⟨h1, v, h2, h3, h4⟩
    refine ⟨h1, v, (hX.block b (blk_lt h2) (fun hm => by have := hk b hm; omega)).trans h2, ?_, h4⟩
    obtain ⟨o1, o2⟩ := h3
    refine ⟨o1, ?_⟩
    rcases o2 with o2 | ⟨g, cap, cur, a, bb, c, d⟩
    · exact .inl o2
    · exact .inr ⟨g, cap, cur, a, bb, (hX.block g (blk_lt c) (fun hm => by have := hk g hm; omega)).trans c, d⟩
  exact h.elim (fun h => .inl (key _ h)) (fun h => .inr (key _ h))
theorem isBuilder_new (w : World) (T e : Nat) : Lib.IsBuilder T e w.heap.size w.heap.size [] (w.alloc (.cells #[.pointer none, .slice none 0 0] T)) :=
  .inl ⟨Nat.le_refl _, _, blk_new _ _, World.ownsRow_nil _ _ _ _, by simp [Value.ownBlock]⟩

theorem str_cons (c : UInt8) (l : List UInt8) : ∃ (_ : ¬ (⟨(c :: l).toArray⟩ : ByteArray).toList = []) (_ : (⟨(c :: l).toArray⟩ : ByteArray).toList.isEmpty = false) (h3 : 0 < (⟨(c :: l).toArray⟩ : ByteArray).size), (⟨(c :: l).toArray⟩ : ByteArray)[0]'h3 = c :=
  ⟨by rw [toList_mk]; simp, by rw [toList_mk]; rfl, by rw [str_size]; simp, rfl⟩
theorem str_nought (l : List UInt8) : (⟨#[48]⟩ : ByteArray) ++ ⟨l.toArray⟩ = ⟨(48 :: l).toArray⟩ := by
  apply ByteArray.ext
  simp
theorem isBuilder_lt {T e B b : Nat} {bs : List Value} {w : World} (h : Lib.IsBuilder T e B b bs w) : b < w.heap.size := by
  rcases h with ⟨_, v, h, _⟩ | ⟨_, v, h, _⟩ <;> exact blk_lt h

set_option maxRecDepth 100000 in
set_option maxHeartbeats 4000000 in
theorem write_any (a b : Int) (w : World) (hn : GM.Num (a, b)) (h0 : 0 ≤ GM.sgn a b) :
    Calls Tryd.prog 57 #[.agg #[.int .i64 a, .int .i64 b]] w fun e w' => e = .returned (.string ⟨(GM.textOf (a, b)).toArray⟩) ∧ Below w.heap.size w w' := by
  obtain ⟨n1, n2, n3, n4⟩ := hn
  have hbig := GM.big_lt a b n1 n2 n3 n4
  have hl80 := GM.lefts80 a b n1 n2 n3 n4 h0
  have HBIG := Lib.hid hbig
  have HL80 := Lib.hid hl80
  clear hbig hl80 h0
  dsimp only at n1 n2 n3 n4
  obtain ⟨R, hR⟩ : ∃ R, (fl ((List.range 81).map GM.pt)).toArray = R := ⟨_, rfl⟩
  have HR := Lib.hid hR
  clear hR
  go_enter Tryd.func57, Tryd.ntmps57
  go_upto_region 2 with (first
    | (go_at_call 47; refine (newPowers_any _).mono ?_; rintro e w1 ⟨rfl, hb1⟩; rw [HR.out]; have X1 : w1.heap[w.heap.size]? = some (.cells #[.int .i64 a, .int .i64 b] 23 (0, 0)) := blk_call hb1 (by repeat (first | assumption | (with_reducible apply blk_set2) | (with_reducible apply blk_set1) | (with_reducible refine blk_far2 ?_ ?_; (first | omega | (simp; done) | (simp; omega))) | (with_reducible refine blk_far1 ?_ ?_; (first | omega | (simp; done) | (simp; omega))) | (with_reducible refine blk_new' _ _ ?_; (first | omega | (simp; done) | (simp; omega))) | (with_reducible refine blk_old ?_) | (with_reducible refine blk_drew ?_))); have B1 : Below w.heap.size w w1 := bl_call (by repeat (first | exact Below.refl _ _ | exact Nat.le_refl _ | refine Below.alloc ?_ ?_ _ | refine Below.setCell ?_ ?_ _ | refine Below.drew ?_ | refine bl_drewN ?_ _ | (assumption) | refine bl_call ?_ (by assumption) ?_ | omega | (simp <;> omega))) hb1 (by simp); clear hb1)
    | (refine wpList_store_pows rfl (.tmp 3) (.tmp 9) rfl rfl (by rw [HR.out]; rfl) ?_; intro w2 hp hb2 hs2; have X2 := blk_call hb2 X1; have B2 := bl_call B1 hb2 (by have := blk_lt X1; omega); have hP := blk_lt X1; clear X1 B1 hb2; generalize w1.heap.size = P at hp hs2 hP ⊢)
    | fail)
  have h79 : GM.pt 79 = (39088169, 63245986) := by decide +kernel
  have hof := fun wx h => of_any P 39 79 wx h (by decide) (by omega)
  rw [h79] at hof
  have HOF := Lib.hid hof
  have hpr := fun wx => prod_w 39088169 63245986 wx (by omega) (by omega) (by omega) (by omega)
  have HPR := Lib.hid hpr
  have hcm := fun wx => compare_any a b 63245986 102334155 wx (by omega) (by omega) (by omega) (by omega) (by omega) (by omega) (by omega) (by omega)
  rw [HBIG.out] at hcm
  have HCM := Lib.hid hcm
  clear hof hpr hcm h79
  have HHP := Lib.hid hp
  clear hp
  have hXs := blk_lt X2
  have k0 := row2_0 X2
  have k1 := row2_1 X2
  have HX2 := Lib.hid X2
  clear X2
  refine with_act fun a0 ha0 => ?_
  refine wp_region_inv (by kernel_rfl) (by kernel_rfl) (fun s a' w' => ∃ v10 v11 v12 v13 v14 v15 v16 : Value, a' = putL a0 [(10, v10), (11, v11), (12, v12), (13, v13), (14, v14), (15, v15), (16, v16)] ∧ Hid ((s 0 = true → v10 = .agg #[.int .i64 a, .int .i64 b]) ∧ (s 1 = true → v11 = .agg #[.int .i64 39088169, .int .i64 63245986]) ∧ (s 2 = true → v12 = .agg #[.int .i64 0, .int .i64 1]) ∧ (s 3 = true → v13 = .agg #[.int .i64 63245986, .int .i64 102334155]) ∧ (s 4 = true → v14 = .int .i64 (-1)) ∧ (s 5 = true → v15 = .bool true) ∧ (s 6 = true → v16 = .tuple #[]) ∧ True) ∧ BelX [] w2 w' ∧ True) ?x1hzero ⟨?x1hs0, ?x1hs1, ?x1hs2, ?x1hs3, ?x1hs4, ?x1hs5, ?x1hs6, trivial⟩ ?x1hdone
  case x1hzero =>
    refine ⟨a0.tmps.getD 10 undef, a0.tmps.getD 11 undef, a0.tmps.getD 12 undef, a0.tmps.getD 13 undef, a0.tmps.getD 14 undef, a0.tmps.getD 15 undef, a0.tmps.getD 16 undef, ?_, ?_, ?_, trivial⟩
    · simp only [putL, put_self]
    · exact Lib.hid ⟨fun h => (by simp at h), fun h => (by simp at h), fun h => (by simp at h), fun h => (by simp at h), fun h => (by simp at h), fun h => (by simp at h), fun h => (by simp at h), trivial⟩
    · exact BelX.start _ _
  case x1hs0 =>
    intro s a' w' hsk hdep hI K hK
    try dsimp only at hI hK
    obtain ⟨v10, v11, v12, v13, v14, v15, v16, hact, hR, hX, _⟩ := hI
    subst hact
    have HK := Lib.hid hK
    clear hK
    have kc0 : w'.cell? ⟨w.heap.size, 0, none⟩ = some (.int .i64 a) := hX.cell (by first | (simp; done) | (simp; omega)) (by first | assumption | (go_simp; done) | (simp; done))
    have kc1 : w'.cell? ⟨w.heap.size, 1, none⟩ = some (.int .i64 b) := hX.cell (by first | (simp; done) | (simp; omega)) (by first | assumption | (go_simp; done) | (simp; done))
    have kx0 := (show Pows w' P from (hX.block P hs2 (by simp)).trans HHP.out)
    clear hdep
    refine StepG.mk rfl ?_; rw [ha0]; simp only [putL, Act.put, List.setIfInBounds_toArray, List.set_cons_zero, List.set_cons_succ]
    go_wp2_with fail
    refine HK.out _ _ ?_
    refine ⟨(.agg #[.int .i64 a, .int .i64 b]), v11, v12, v13, v14, v15, v16, (by rw [ha0]; simp only [putL, Act.put, List.setIfInBounds_toArray, List.set_cons_zero, List.set_cons_succ]), ?_, ?_, trivial⟩
    · obtain ⟨h10, h11, h12, h13, h14, h15, h16, _⟩ := hR.out
      exact Lib.hid ⟨fun _ => rfl, fun h => h11 (by simpa using h), fun h => h12 (by simpa using h), fun h => h13 (by simpa using h), fun h => h14 (by simpa using h), fun h => h15 (by simpa using h), fun h => h16 (by simpa using h), trivial⟩
    · exact hX
  case x1hs1 =>
    intro s a' w' hsk hdep hI K hK
    try dsimp only at hI hK
    obtain ⟨v10, v11, v12, v13, v14, v15, v16, hact, hR, hX, _⟩ := hI
    subst hact
    have HK := Lib.hid hK
    clear hK
    have kc0 : w'.cell? ⟨w.heap.size, 0, none⟩ = some (.int .i64 a) := hX.cell (by first | (simp; done) | (simp; omega)) (by first | assumption | (go_simp; done) | (simp; done))
    have kc1 : w'.cell? ⟨w.heap.size, 1, none⟩ = some (.int .i64 b) := hX.cell (by first | (simp; done) | (simp; omega)) (by first | assumption | (go_simp; done) | (simp; done))
    have kx0 := (show Pows w' P from (hX.block P hs2 (by simp)).trans HHP.out)
    clear hdep
    refine StepG.mk rfl ?_; rw [ha0]; simp only [putL, Act.put, List.setIfInBounds_toArray, List.set_cons_zero, List.set_cons_succ]
    go_wp2_with fail
    refine ((HOF.out _ kx0)).mono ?_
    rintro e wn ⟨rfl, hb⟩
    go_wp2_with fail
    refine HK.out _ _ ?_
    refine ⟨v10, (.agg #[.int .i64 39088169, .int .i64 63245986]), v12, v13, v14, v15, v16, (by rw [ha0]; simp only [putL, Act.put, List.setIfInBounds_toArray, List.set_cons_zero, List.set_cons_succ]), ?_, ?_, trivial⟩
    · obtain ⟨h10, h11, h12, h13, h14, h15, h16, _⟩ := hR.out
      exact Lib.hid ⟨fun h => h10 (by simpa using h), fun _ => rfl, fun h => h12 (by simpa using h), fun h => h13 (by simpa using h), fun h => h14 (by simpa using h), fun h => h15 (by simpa using h), fun h => h16 (by simpa using h), trivial⟩
    · exact hX.call hb
  case x1hs2 =>
    intro s a' w' hsk hdep hI K hK
    try dsimp only at hI hK
    obtain ⟨v10, v11, v12, v13, v14, v15, v16, hact, hR, hX, _⟩ := hI
    subst hact
    have HK := Lib.hid hK
    clear hK
    have kc0 : w'.cell? ⟨w.heap.size, 0, none⟩ = some (.int .i64 a) := hX.cell (by first | (simp; done) | (simp; omega)) (by first | assumption | (go_simp; done) | (simp; done))
    have kc1 : w'.cell? ⟨w.heap.size, 1, none⟩ = some (.int .i64 b) := hX.cell (by first | (simp; done) | (simp; omega)) (by first | assumption | (go_simp; done) | (simp; done))
    have kx0 := (show Pows w' P from (hX.block P hs2 (by simp)).trans HHP.out)
    clear hdep
    refine StepG.mk rfl ?_; rw [ha0]; simp only [putL, Act.put, List.setIfInBounds_toArray, List.set_cons_zero, List.set_cons_succ]
    go_wp2_with fail
    refine HK.out _ _ ?_
    refine ⟨v10, v11, (.agg #[.int .i64 0, .int .i64 1]), v13, v14, v15, v16, (by rw [ha0]; simp only [putL, Act.put, List.setIfInBounds_toArray, List.set_cons_zero, List.set_cons_succ]), ?_, ?_, trivial⟩
    · obtain ⟨h10, h11, h12, h13, h14, h15, h16, _⟩ := hR.out
      exact Lib.hid ⟨fun h => h10 (by simpa using h), fun h => h11 (by simpa using h), fun _ => rfl, fun h => h13 (by simpa using h), fun h => h14 (by simpa using h), fun h => h15 (by simpa using h), fun h => h16 (by simpa using h), trivial⟩
    · exact hX
  case x1hs3 =>
    intro s a' w' hsk hdep hI K hK
    try dsimp only at hI hK
    obtain ⟨v10, v11, v12, v13, v14, v15, v16, hact, hR, hX, _⟩ := hI
    subst hact
    have HK := Lib.hid hK
    clear hK
    have e11 : v11 = .agg #[.int .i64 39088169, .int .i64 63245986] := by obtain ⟨h10, h11, h12, h13, h14, h15, h16, _⟩ := hR.out; exact h11 (hdep ⟨1, .data⟩ (by simp) rfl)
    subst e11
    have e12 : v12 = .agg #[.int .i64 0, .int .i64 1] := by obtain ⟨h10, h11, h12, h13, h14, h15, h16, _⟩ := hR.out; exact h12 (hdep ⟨2, .data⟩ (by simp) rfl)
    subst e12
    have kc0 : w'.cell? ⟨w.heap.size, 0, none⟩ = some (.int .i64 a) := hX.cell (by first | (simp; done) | (simp; omega)) (by first | assumption | (go_simp; done) | (simp; done))
    have kc1 : w'.cell? ⟨w.heap.size, 1, none⟩ = some (.int .i64 b) := hX.cell (by first | (simp; done) | (simp; omega)) (by first | assumption | (go_simp; done) | (simp; done))
    have kx0 := (show Pows w' P from (hX.block P hs2 (by simp)).trans HHP.out)
    clear hdep
    refine StepG.mk rfl ?_; rw [ha0]; simp only [putL, Act.put, List.setIfInBounds_toArray, List.set_cons_zero, List.set_cons_succ]
    go_wp2_with fail
    refine ((HPR.out _)).mono ?_
    rintro e wn ⟨rfl, hb⟩
    go_wp2_with fail
    refine HK.out _ _ ?_
    refine ⟨v10, (.agg #[.int .i64 39088169, .int .i64 63245986]), (.agg #[.int .i64 0, .int .i64 1]), (.agg #[.int .i64 63245986, .int .i64 102334155]), v14, v15, v16, (by rw [ha0]; simp only [putL, Act.put, List.setIfInBounds_toArray, List.set_cons_zero, List.set_cons_succ]), ?_, ?_, trivial⟩
    · obtain ⟨h10, h11, h12, h13, h14, h15, h16, _⟩ := hR.out
      exact Lib.hid ⟨fun h => h10 (by simpa using h), fun _ => rfl, fun _ => rfl, fun _ => rfl, fun h => h14 (by simpa using h), fun h => h15 (by simpa using h), fun h => h16 (by simpa using h), trivial⟩
    · exact hX.call hb
  case x1hs4 =>
    intro s a' w' hsk hdep hI K hK
    try dsimp only at hI hK
    obtain ⟨v10, v11, v12, v13, v14, v15, v16, hact, hR, hX, _⟩ := hI
    subst hact
    have HK := Lib.hid hK
    clear hK
    have e10 : v10 = .agg #[.int .i64 a, .int .i64 b] := by obtain ⟨h10, h11, h12, h13, h14, h15, h16, _⟩ := hR.out; exact h10 (hdep ⟨0, .data⟩ (by simp) rfl)
    subst e10
    have e13 : v13 = .agg #[.int .i64 63245986, .int .i64 102334155] := by obtain ⟨h10, h11, h12, h13, h14, h15, h16, _⟩ := hR.out; exact h13 (hdep ⟨3, .data⟩ (by simp) rfl)
    subst e13
    have kc0 : w'.cell? ⟨w.heap.size, 0, none⟩ = some (.int .i64 a) := hX.cell (by first | (simp; done) | (simp; omega)) (by first | assumption | (go_simp; done) | (simp; done))
    have kc1 : w'.cell? ⟨w.heap.size, 1, none⟩ = some (.int .i64 b) := hX.cell (by first | (simp; done) | (simp; omega)) (by first | assumption | (go_simp; done) | (simp; done))
    have kx0 := (show Pows w' P from (hX.block P hs2 (by simp)).trans HHP.out)
    clear hdep
    refine StepG.mk rfl ?_; rw [ha0]; simp only [putL, Act.put, List.setIfInBounds_toArray, List.set_cons_zero, List.set_cons_succ]
    go_wp2_with fail
    refine ((HCM.out _)).mono ?_
    rintro e wn ⟨rfl, hb⟩
    go_wp2_with fail
    refine HK.out _ _ ?_
    refine ⟨(.agg #[.int .i64 a, .int .i64 b]), v11, v12, (.agg #[.int .i64 63245986, .int .i64 102334155]), (.int .i64 (-1)), v15, v16, (by rw [ha0]; simp only [putL, Act.put, List.setIfInBounds_toArray, List.set_cons_zero, List.set_cons_succ]), ?_, ?_, trivial⟩
    · obtain ⟨h10, h11, h12, h13, h14, h15, h16, _⟩ := hR.out
      exact Lib.hid ⟨fun _ => rfl, fun h => h11 (by simpa using h), fun h => h12 (by simpa using h), fun _ => rfl, fun _ => rfl, fun h => h15 (by simpa using h), fun h => h16 (by simpa using h), trivial⟩
    · exact hX.call hb
  case x1hs5 =>
    intro s a' w' hsk hdep hI K hK
    try dsimp only at hI hK
    obtain ⟨v10, v11, v12, v13, v14, v15, v16, hact, hR, hX, _⟩ := hI
    subst hact
    have HK := Lib.hid hK
    clear hK
    have e14 : v14 = .int .i64 (-1) := by obtain ⟨h10, h11, h12, h13, h14, h15, h16, _⟩ := hR.out; exact h14 (hdep ⟨4, .data⟩ (by simp) rfl)
    subst e14
    have kc0 : w'.cell? ⟨w.heap.size, 0, none⟩ = some (.int .i64 a) := hX.cell (by first | (simp; done) | (simp; omega)) (by first | assumption | (go_simp; done) | (simp; done))
    have kc1 : w'.cell? ⟨w.heap.size, 1, none⟩ = some (.int .i64 b) := hX.cell (by first | (simp; done) | (simp; omega)) (by first | assumption | (go_simp; done) | (simp; done))
    have kx0 := (show Pows w' P from (hX.block P hs2 (by simp)).trans HHP.out)
    clear hdep
    refine StepG.mk rfl ?_; rw [ha0]; simp only [putL, Act.put, List.setIfInBounds_toArray, List.set_cons_zero, List.set_cons_succ]
    go_wp2_with fail
    refine HK.out _ _ ?_
    refine ⟨v10, v11, v12, v13, (.int .i64 (-1)), (.bool true), v16, (by rw [ha0]; simp only [putL, Act.put, List.setIfInBounds_toArray, List.set_cons_zero, List.set_cons_succ]), ?_, ?_, trivial⟩
    · obtain ⟨h10, h11, h12, h13, h14, h15, h16, _⟩ := hR.out
      exact Lib.hid ⟨fun h => h10 (by simpa using h), fun h => h11 (by simpa using h), fun h => h12 (by simpa using h), fun h => h13 (by simpa using h), fun _ => rfl, fun _ => rfl, fun h => h16 (by simpa using h), trivial⟩
    · exact hX
  case x1hs6 =>
    intro s a' w' hsk hdep hI K hK
    try dsimp only at hI hK
    obtain ⟨v10, v11, v12, v13, v14, v15, v16, hact, hR, hX, _⟩ := hI
    subst hact
    have HK := Lib.hid hK
    clear hK
    have e15 : v15 = .bool true := by obtain ⟨h10, h11, h12, h13, h14, h15, h16, _⟩ := hR.out; exact h15 (hdep ⟨5, .data⟩ (by simp) rfl)
    subst e15
    have kc0 : w'.cell? ⟨w.heap.size, 0, none⟩ = some (.int .i64 a) := hX.cell (by first | (simp; done) | (simp; omega)) (by first | assumption | (go_simp; done) | (simp; done))
    have kc1 : w'.cell? ⟨w.heap.size, 1, none⟩ = some (.int .i64 b) := hX.cell (by first | (simp; done) | (simp; omega)) (by first | assumption | (go_simp; done) | (simp; done))
    have kx0 := (show Pows w' P from (hX.block P hs2 (by simp)).trans HHP.out)
    clear hdep
    refine StepG.mk rfl ?_; rw [ha0]; simp only [putL, Act.put, List.setIfInBounds_toArray, List.set_cons_zero, List.set_cons_succ]
    go_wp2_with fail
    refine ((demand_yes _ _)).mono ?_
    rintro e wn ⟨rfl, rfl⟩
    go_wp2_with fail
    refine HK.out _ _ ?_
    refine ⟨v10, v11, v12, v13, v14, (.bool true), (.tuple #[]), (by rw [ha0]; simp only [putL, Act.put, List.setIfInBounds_toArray, List.set_cons_zero, List.set_cons_succ]), ?_, ?_, trivial⟩
    · obtain ⟨h10, h11, h12, h13, h14, h15, h16, _⟩ := hR.out
      exact Lib.hid ⟨fun h => h10 (by simpa using h), fun h => h11 (by simpa using h), fun h => h12 (by simpa using h), fun h => h13 (by simpa using h), fun h => h14 (by simpa using h), fun _ => rfl, fun _ => rfl, trivial⟩
    · exact hX
  intro s a' w3 hall hI
  try dsimp only at hI
  obtain ⟨v10, v11, v12, v13, v14, v15, v16, hact, hR, hXR, _⟩ := hI
  subst hact
  obtain ⟨h10, h11, h12, h13, h14, h15, h16, _⟩ := hR.out
  clear hR
  have e10 := h10 (hall 0 (by decide))
  subst e10
  clear h10
  have e11 := h11 (hall 1 (by decide))
  subst e11
  clear h11
  have e12 := h12 (hall 2 (by decide))
  subst e12
  clear h12
  have e13 := h13 (hall 3 (by decide))
  subst e13
  clear h13
  have e14 := h14 (hall 4 (by decide))
  subst e14
  clear h14
  have e15 := h15 (hall 5 (by decide))
  subst e15
  clear h15
  have e16 := h16 (hall 6 (by decide))
  subst e16
  clear h16
  clear hall
  rw [ha0]; simp only [putL, Act.put, List.setIfInBounds_toArray, List.set_cons_zero, List.set_cons_succ]
  clear ha0
  have B3 : Below w.heap.size w w3 := hXR.below (by first | assumption | exact (by repeat (first | exact Below.refl _ _ | exact Nat.le_refl _ | refine Below.alloc ?_ ?_ _ | refine Below.setCell ?_ ?_ _ | refine Below.drew ?_ | refine bl_drewN ?_ _ | (assumption) | refine bl_call ?_ (by assumption) ?_ | omega | (simp <;> omega)))) (by first | omega | (simp <;> omega)) (by simp <;> omega)
  have hp3 : Pows w3 P := (hXR.block P hs2 (by simp)).trans HHP.out
  have X3 := (hXR.block _ hXs (by simp)).trans HX2.out
  clear hXR HHP HX2 k0 k1 hs2 hXs HOF HPR HCM HBIG
  obtain ⟨b0, hb0⟩ : ∃ b0, b0 = w3.heap.size := ⟨_, rfl⟩
  obtain ⟨w4, h4⟩ : ∃ w4, w4 = w3.alloc (.cells #[.pointer none, .slice none 0 0] 83) := ⟨_, rfl⟩
  have X4 : w4.heap[w.heap.size]? = some (.cells #[.int .i64 a, .int .i64 b] 23 (0, 0)) := by rw [h4]; exact blk_old X3
  have hp4 : Pows w4 P := by rw [h4]; exact blk_old hp3
  have I4 : Lib.IsBuilder 83 5 b0 b0 (Lib.byteCells []) w4 := by rw [h4, hb0]; exact isBuilder_new _ _ _
  have B4 : Below w.heap.size w w4 := by rw [h4]; exact B3.alloc (by have := blk_lt X3; omega) _
  have hXb : w.heap.size < b0 := by rw [hb0]; exact blk_lt X3
  have hPb : P < b0 := by rw [hb0]; exact blk_lt hp3
  go_upto_region 4 with fail
  rw [← hb0, ← h4]
  clear h4 hb0 X3 hp3 B3 B2
  obtain ⟨ALL, hALL⟩ : ∃ ALL, ALL = GM.fut 80 (a, b) := ⟨_, rfl⟩
  have htc := GM.text_cut (a, b)
  rw [← GM.fut_80, ← hALL] at htc
  have htc2 : (ALL.dropWhile (· == 48) = [] ∧ GM.textOf (a, b) = [48]) ∨ (∃ l, ALL.dropWhile (· == 48) = 46 :: l ∧ GM.textOf (a, b) = 48 :: 46 :: l) ∨ (∃ c l, ALL.dropWhile (· == 48) = c :: l ∧ c ≠ 46 ∧ GM.textOf (a, b) = c :: l) := by
    cases hd : ALL.dropWhile (· == 48) with
    | nil => exact .inl ⟨rfl, htc.2.2 hd⟩
    | cons c l =>
      by_cases hc : c = 46
      · subst hc; exact .inr (.inl ⟨l, rfl, htc.2.1 l hd⟩)
      · exact .inr (.inr ⟨c, l, rfl, hc, htc.1 c l hd hc⟩)
  have HTC := Lib.hid htc2
  clear htc htc2
  have hst : [] ++ GM.fut 80 (a, b) = ALL := by rw [hALL]; rfl
  have HST := Lib.hid hst
  clear hALL hst
  go_wp2_with fail
  go_loopw [5] (fun x wr => ∃ (n : Nat) (X Y : Int) (D : List UInt8), x = .int .i64 ((n : Int) - 41) ∧ n ≤ 80 ∧ (n < 40 → ¬ (X = 0 ∧ Y = 0)) ∧ Hid (GM.lefts n n (X, Y) = (0, 0)) ∧ Hid (D ++ GM.fut n (X, Y) = ALL) ∧ (D.length + n ≤ 80 ∨ (n < 40 ∧ D.length + n ≤ 82)) ∧ wr.heap[w.heap.size]? = some (.cells #[.int .i64 X, .int .i64 Y] 23 (0, 0)) ∧ Pows wr P ∧ Lib.IsBuilder 83 5 b0 b0 (Lib.byteCells D) wr ∧ Below w.heap.size w wr) (fun x _ => (intOf x + 41).toNat)
  case atStart => exact ⟨80, a, b, [], rfl, by omega, by omega, HL80, HST, by simp, X4, hp4, I4, B4⟩
  case round =>
    obtain ⟨n, X, Y, D, rfl, l1, l2, HL, HF, l3, X0, hp, hI, B⟩ := hrel
    have hbs : b0 < wr.heap.size := isBuilder_lt hI
    have HX0 := Lib.hid X0
    have HHP := Lib.hid hp
    have HI := Lib.hid hI
    have c0 := row2_0 X0
    have c1 := row2_1 X0
    have f0 := row_f X0
    clear X0 hp hI X4 hp4 I4 B4 HST HL80
    cases n with
    | zero =>
      have h := HL.out
      have : (X, Y) = (0, 0) := h
      exact absurd ⟨congrArg Prod.fst this, congrArg Prod.snd this⟩ (l2 (by omega))
    | succ m =>
      have hk : ((m + 1 : Nat) : Int) - 41 = (m : Int) - 40 := by omega
      rw [hk]
      have hdec : decide (-40 ≤ (m : Int) - 40) = true := decide_eq_true (by omega)
      by_cases hA : 40 ≤ m
      · have hm1 : ¬ ((m : Int) - 40 = -1) := by omega
        have hm2 : ((m : Int) - 40 == -1) = false := by simpa using hm1
        have HN := Lib.hid (show D ++ (GM.dgt m (X, Y) :: GM.fut m (GM.nxx m (X, Y))) = ALL by rw [← GM.fut_int m _ hA]; exact HF.out)
        go_upto_region 11 with fail
        obtain ⟨⟨px, py⟩, hpt⟩ : ∃ p, GM.pt m = p := ⟨_, rfl⟩
        have hsb := GM.step_bd m (by omega) (X, Y) HL.out
        rw [hpt] at hsb
        dsimp only at hsb
        obtain ⟨s1, s2, s3, s4, s5, s6, s7, s8⟩ := hsb
        have hpb := pt_bd ⟨m, by omega⟩
        dsimp only at hpb
        rw [hpt] at hpb
        dsimp only at hpb
        obtain ⟨p1, p2, p3, p4⟩ := hpb
        have hof := fun wx h => of_any P ((m : Int) - 40) m wx h (by omega) (by omega)
        rw [hpt] at hof
        have htm := fun wx => times_any px py (-1) wx (by omega) (by omega) (by omega) (by omega)
        obtain ⟨qx, hqx⟩ : ∃ qx, -1 * px = qx := ⟨_, rfl⟩
        obtain ⟨qy, hqy⟩ : ∃ qy, -1 * py = qy := ⟨_, rfl⟩
        rw [hqx, hqy] at htm
        have hpl := fun wx => plus_any X Y qx qy wx (by omega) (by omega) (by omega) (by omega)
        obtain ⟨U, hU⟩ : ∃ U, X + qx = U := ⟨_, rfl⟩
        obtain ⟨V, hV⟩ : ∃ V, Y + qy = V := ⟨_, rfl⟩
        rw [hU, hV] at hpl
        have eU : X - px = U := by omega
        have eV : Y - py = V := by omega
        rw [eU] at s1 s2
        rw [eV] at s3 s4
        have hsg := fun wx => sign_any U V wx s1 s2 s3 s4
        obtain ⟨sg, hsgn⟩ : ∃ sg, GM.sgn U V = sg := ⟨_, rfl⟩
        rw [hsgn] at hsg
        have hdg : GM.dgx m (X, Y) = decide (0 ≤ sg) := by unfold GM.dgx; rw [hpt]; dsimp only; rw [eU, eV, hsgn]
        have hnx1 : 0 ≤ sg → GM.nxx m (X, Y) = (U, V) ∧ GM.dgt m (X, Y) = 49 := by
          intro h
          have hd : GM.dgx m (X, Y) = true := by rw [hdg]; exact decide_eq_true h
          refine ⟨?_, ?_⟩
          · unfold GM.nxx
            rw [hd, hpt]
            show (X - px, Y - py) = _
            rw [eU, eV]
          · unfold GM.dgt
            rw [hd]; rfl
        have hnx2 : ¬ 0 ≤ sg → GM.nxx m (X, Y) = (X, Y) ∧ GM.dgt m (X, Y) = 48 := by
          intro h
          have hd : GM.dgx m (X, Y) = false := by rw [hdg]; exact decide_eq_false h
          refine ⟨?_, ?_⟩
          · unfold GM.nxx
            rw [hd]; rfl
          · unfold GM.dgt
            rw [hd]; rfl
        have hln := GM.lefts_next m (X, Y) HL.out
        have HLN := Lib.hid hln
        have HOF := Lib.hid hof
        have HTM := Lib.hid htm
        have HPL := Lib.hid hpl
        have HSG := Lib.hid hsg
        have HX1 := Lib.hid hnx1
        have HX2' := Lib.hid hnx2
        have hPw : P < wr.heap.size := by omega
        have hXw : w.heap.size < wr.heap.size := by omega
        clear hof htm hpl hsg hnx1 hnx2 hdg hln hpt hqx hqy hU hV eU eV hsgn s1 s2 s3 s4 s5 s6 s7 s8 p1 p2 p3 p4
        refine with_act fun a0 ha0 => ?_
        refine wp_region_inv (by kernel_rfl) (by kernel_rfl) (fun s a' w' => ∃ v27 v28 v29 v30 v31 v7 : Value, a' = putL a0 [(27, v27), (28, v28), (29, v29), (30, v30), (31, v31), (7, v7)] ∧ Hid ((s 0 = true → v27 = .agg #[.int .i64 X, .int .i64 Y]) ∧ (s 1 = true → v28 = .int .i64 ((m : Int) - 40)) ∧ (s 2 = true → v29 = .agg #[.int .i64 px, .int .i64 py]) ∧ (s 3 = true → v30 = .agg #[.int .i64 qx, .int .i64 qy]) ∧ (s 4 = true → v31 = .agg #[.int .i64 U, .int .i64 V]) ∧ True) ∧ BelX [] wr w' ∧ (s 5 = true → ∃ (g : Nat) (c0 c1 : Value), v7 = .pointer (some ⟨g, 0, none⟩) ∧ wr.heap.size ≤ g ∧ w'.heap[g]? = some (.cells #[c0, c1] 23 (0, 0)) ∧ (s 6 = true → c0 = .int .i64 U ∧ c1 = .int .i64 V)) ∧ (s 6 = true → s 5 = true) ∧ True) ?x2hzero ⟨?x2hs0, ?x2hs1, ?x2hs2, ?x2hs3, ?x2hs4, ?x2hs5, ?x2hs6, trivial⟩ ?x2hdone
        case x2hzero =>
          refine ⟨a0.tmps.getD 27 undef, a0.tmps.getD 28 undef, a0.tmps.getD 29 undef, a0.tmps.getD 30 undef, a0.tmps.getD 31 undef, a0.tmps.getD 7 undef, ?_, ?_, ?_, ?_, ?_, trivial⟩
          · simp only [putL, put_self]
          · exact Lib.hid ⟨fun h => (by simp at h), fun h => (by simp at h), fun h => (by simp at h), fun h => (by simp at h), fun h => (by simp at h), trivial⟩
          · exact BelX.start _ _
          · exact fun h => (by simp at h)
          · exact fun h => (by simp at h)
        case x2hs0 =>
          intro s a' w' hsk hdep hI K hK
          try dsimp only at hI hK
          obtain ⟨v27, v28, v29, v30, v31, v7, hact, hR, hX, hA7, hN7, _⟩ := hI
          subst hact
          have HK := Lib.hid hK
          clear hK
          have kc0 : w'.cell? ⟨w.heap.size, 0, none⟩ = some (.int .i64 X) := hX.cell (by first | (simp; done) | (simp; omega)) (by first | assumption | (go_simp; done) | (simp; done))
          have kc1 : w'.cell? ⟨w.heap.size, 1, none⟩ = some (.int .i64 Y) := hX.cell (by first | (simp; done) | (simp; omega)) (by first | assumption | (go_simp; done) | (simp; done))
          have kx0 := (show Pows w' P from (hX.block P hPw (by simp)).trans HHP.out)
          clear hdep
          refine StepG.mk rfl ?_; rw [ha0]; simp only [putL, Act.put, List.setIfInBounds_toArray, List.set_cons_zero, List.set_cons_succ]
          go_wp2_with fail
          refine HK.out _ _ ?_
          refine ⟨(.agg #[.int .i64 X, .int .i64 Y]), v28, v29, v30, v31, v7, (by rw [ha0]; simp only [putL, Act.put, List.setIfInBounds_toArray, List.set_cons_zero, List.set_cons_succ]), ?_, ?_, ?_, ?_, trivial⟩
          · obtain ⟨h27, h28, h29, h30, h31, _⟩ := hR.out
            exact Lib.hid ⟨fun _ => rfl, fun h => h28 (by simpa using h), fun h => h29 (by simpa using h), fun h => h30 (by simpa using h), fun h => h31 (by simpa using h), trivial⟩
          · exact hX
          · intro h; obtain ⟨g, c0, c1, e, hg, hblk, hst⟩ := hA7 (by simpa using h); exact ⟨g, c0, c1, e, hg, hblk, fun h => hst (by simpa using h)⟩
          · exact fun h => (by have h1 := hN7 (by simpa using h); simp [h1])
        case x2hs1 =>
          intro s a' w' hsk hdep hI K hK
          try dsimp only at hI hK
          obtain ⟨v27, v28, v29, v30, v31, v7, hact, hR, hX, hA7, hN7, _⟩ := hI
          subst hact
          have HK := Lib.hid hK
          clear hK
          have kc0 : w'.cell? ⟨w.heap.size, 0, none⟩ = some (.int .i64 X) := hX.cell (by first | (simp; done) | (simp; omega)) (by first | assumption | (go_simp; done) | (simp; done))
          have kc1 : w'.cell? ⟨w.heap.size, 1, none⟩ = some (.int .i64 Y) := hX.cell (by first | (simp; done) | (simp; omega)) (by first | assumption | (go_simp; done) | (simp; done))
          have kx0 := (show Pows w' P from (hX.block P hPw (by simp)).trans HHP.out)
          clear hdep
          refine StepG.mk rfl ?_; rw [ha0]; simp only [putL, Act.put, List.setIfInBounds_toArray, List.set_cons_zero, List.set_cons_succ]
          go_wp2_with fail
          refine HK.out _ _ ?_
          refine ⟨v27, (.int .i64 ((m : Int) - 40)), v29, v30, v31, v7, (by rw [ha0]; simp only [putL, Act.put, List.setIfInBounds_toArray, List.set_cons_zero, List.set_cons_succ]), ?_, ?_, ?_, ?_, trivial⟩
          · obtain ⟨h27, h28, h29, h30, h31, _⟩ := hR.out
            exact Lib.hid ⟨fun h => h27 (by simpa using h), fun _ => rfl, fun h => h29 (by simpa using h), fun h => h30 (by simpa using h), fun h => h31 (by simpa using h), trivial⟩
          · exact hX
          · intro h; obtain ⟨g, c0, c1, e, hg, hblk, hst⟩ := hA7 (by simpa using h); exact ⟨g, c0, c1, e, hg, hblk, fun h => hst (by simpa using h)⟩
          · exact fun h => (by have h1 := hN7 (by simpa using h); simp [h1])
        case x2hs2 =>
          intro s a' w' hsk hdep hI K hK
          try dsimp only at hI hK
          obtain ⟨v27, v28, v29, v30, v31, v7, hact, hR, hX, hA7, hN7, _⟩ := hI
          subst hact
          have HK := Lib.hid hK
          clear hK
          have e28 : v28 = .int .i64 ((m : Int) - 40) := by obtain ⟨h27, h28, h29, h30, h31, _⟩ := hR.out; exact h28 (hdep ⟨1, .data⟩ (by simp) rfl)
          subst e28
          have kc0 : w'.cell? ⟨w.heap.size, 0, none⟩ = some (.int .i64 X) := hX.cell (by first | (simp; done) | (simp; omega)) (by first | assumption | (go_simp; done) | (simp; done))
          have kc1 : w'.cell? ⟨w.heap.size, 1, none⟩ = some (.int .i64 Y) := hX.cell (by first | (simp; done) | (simp; omega)) (by first | assumption | (go_simp; done) | (simp; done))
          have kx0 := (show Pows w' P from (hX.block P hPw (by simp)).trans HHP.out)
          clear hdep
          refine StepG.mk rfl ?_; rw [ha0]; simp only [putL, Act.put, List.setIfInBounds_toArray, List.set_cons_zero, List.set_cons_succ]
          go_wp2_with fail
          refine ((HOF.out _ kx0)).mono ?_
          rintro e wn ⟨rfl, hb⟩
          go_wp2_with fail
          refine HK.out _ _ ?_
          refine ⟨v27, (.int .i64 ((m : Int) - 40)), (.agg #[.int .i64 px, .int .i64 py]), v30, v31, v7, (by rw [ha0]; simp only [putL, Act.put, List.setIfInBounds_toArray, List.set_cons_zero, List.set_cons_succ]), ?_, ?_, ?_, ?_, trivial⟩
          · obtain ⟨h27, h28, h29, h30, h31, _⟩ := hR.out
            exact Lib.hid ⟨fun h => h27 (by simpa using h), fun _ => rfl, fun _ => rfl, fun h => h30 (by simpa using h), fun h => h31 (by simpa using h), trivial⟩
          · exact hX.call hb
          · intro h; obtain ⟨g, c0, c1, e, hg, hblk, hst⟩ := hA7 (by simpa using h); exact ⟨g, c0, c1, e, hg, (hb.block g (blk_lt hblk)).trans hblk, fun h => hst (by simpa using h)⟩
          · exact fun h => (by have h1 := hN7 (by simpa using h); simp [h1])
        case x2hs3 =>
          intro s a' w' hsk hdep hI K hK
          try dsimp only at hI hK
          obtain ⟨v27, v28, v29, v30, v31, v7, hact, hR, hX, hA7, hN7, _⟩ := hI
          subst hact
          have HK := Lib.hid hK
          clear hK
          have e29 : v29 = .agg #[.int .i64 px, .int .i64 py] := by obtain ⟨h27, h28, h29, h30, h31, _⟩ := hR.out; exact h29 (hdep ⟨2, .data⟩ (by simp) rfl)
          subst e29
          have kc0 : w'.cell? ⟨w.heap.size, 0, none⟩ = some (.int .i64 X) := hX.cell (by first | (simp; done) | (simp; omega)) (by first | assumption | (go_simp; done) | (simp; done))
          have kc1 : w'.cell? ⟨w.heap.size, 1, none⟩ = some (.int .i64 Y) := hX.cell (by first | (simp; done) | (simp; omega)) (by first | assumption | (go_simp; done) | (simp; done))
          have kx0 := (show Pows w' P from (hX.block P hPw (by simp)).trans HHP.out)
          clear hdep
          refine StepG.mk rfl ?_; rw [ha0]; simp only [putL, Act.put, List.setIfInBounds_toArray, List.set_cons_zero, List.set_cons_succ]
          go_wp2_with fail
          refine ((HTM.out _)).mono ?_
          rintro e wn ⟨rfl, hb⟩
          go_wp2_with fail
          refine HK.out _ _ ?_
          refine ⟨v27, v28, (.agg #[.int .i64 px, .int .i64 py]), (.agg #[.int .i64 qx, .int .i64 qy]), v31, v7, (by rw [ha0]; simp only [putL, Act.put, List.setIfInBounds_toArray, List.set_cons_zero, List.set_cons_succ]), ?_, ?_, ?_, ?_, trivial⟩
          · obtain ⟨h27, h28, h29, h30, h31, _⟩ := hR.out
            exact Lib.hid ⟨fun h => h27 (by simpa using h), fun h => h28 (by simpa using h), fun _ => rfl, fun _ => rfl, fun h => h31 (by simpa using h), trivial⟩
          · exact hX.call hb
          · intro h; obtain ⟨g, c0, c1, e, hg, hblk, hst⟩ := hA7 (by simpa using h); exact ⟨g, c0, c1, e, hg, (hb.block g (blk_lt hblk)).trans hblk, fun h => hst (by simpa using h)⟩
          · exact fun h => (by have h1 := hN7 (by simpa using h); simp [h1])
        case x2hs4 =>
          intro s a' w' hsk hdep hI K hK
          try dsimp only at hI hK
          obtain ⟨v27, v28, v29, v30, v31, v7, hact, hR, hX, hA7, hN7, _⟩ := hI
          subst hact
          have HK := Lib.hid hK
          clear hK
          have e27 : v27 = .agg #[.int .i64 X, .int .i64 Y] := by obtain ⟨h27, h28, h29, h30, h31, _⟩ := hR.out; exact h27 (hdep ⟨0, .data⟩ (by simp) rfl)
          subst e27
          have e30 : v30 = .agg #[.int .i64 qx, .int .i64 qy] := by obtain ⟨h27, h28, h29, h30, h31, _⟩ := hR.out; exact h30 (hdep ⟨3, .data⟩ (by simp) rfl)
          subst e30
          have kc0 : w'.cell? ⟨w.heap.size, 0, none⟩ = some (.int .i64 X) := hX.cell (by first | (simp; done) | (simp; omega)) (by first | assumption | (go_simp; done) | (simp; done))
          have kc1 : w'.cell? ⟨w.heap.size, 1, none⟩ = some (.int .i64 Y) := hX.cell (by first | (simp; done) | (simp; omega)) (by first | assumption | (go_simp; done) | (simp; done))
          have kx0 := (show Pows w' P from (hX.block P hPw (by simp)).trans HHP.out)
          clear hdep
          refine StepG.mk rfl ?_; rw [ha0]; simp only [putL, Act.put, List.setIfInBounds_toArray, List.set_cons_zero, List.set_cons_succ]
          go_wp2_with fail
          refine ((HPL.out _)).mono ?_
          rintro e wn ⟨rfl, hb⟩
          go_wp2_with fail
          refine HK.out _ _ ?_
          refine ⟨(.agg #[.int .i64 X, .int .i64 Y]), v28, v29, (.agg #[.int .i64 qx, .int .i64 qy]), (.agg #[.int .i64 U, .int .i64 V]), v7, (by rw [ha0]; simp only [putL, Act.put, List.setIfInBounds_toArray, List.set_cons_zero, List.set_cons_succ]), ?_, ?_, ?_, ?_, trivial⟩
          · obtain ⟨h27, h28, h29, h30, h31, _⟩ := hR.out
            exact Lib.hid ⟨fun _ => rfl, fun h => h28 (by simpa using h), fun h => h29 (by simpa using h), fun _ => rfl, fun _ => rfl, trivial⟩
          · exact hX.call hb
          · intro h; obtain ⟨g, c0, c1, e, hg, hblk, hst⟩ := hA7 (by simpa using h); exact ⟨g, c0, c1, e, hg, (hb.block g (blk_lt hblk)).trans hblk, fun h => hst (by simpa using h)⟩
          · exact fun h => (by have h1 := hN7 (by simpa using h); simp [h1])
        case x2hs5 =>
          intro s a' w' hsk hdep hI K hK
          try dsimp only at hI hK
          obtain ⟨v27, v28, v29, v30, v31, v7, hact, hR, hX, hA7, hN7, _⟩ := hI
          subst hact
          have HK := Lib.hid hK
          clear hK
          have kc0 : w'.cell? ⟨w.heap.size, 0, none⟩ = some (.int .i64 X) := hX.cell (by first | (simp; done) | (simp; omega)) (by first | assumption | (go_simp; done) | (simp; done))
          have kc1 : w'.cell? ⟨w.heap.size, 1, none⟩ = some (.int .i64 Y) := hX.cell (by first | (simp; done) | (simp; omega)) (by first | assumption | (go_simp; done) | (simp; done))
          have kx0 := (show Pows w' P from (hX.block P hPw (by simp)).trans HHP.out)
          clear hdep
          refine StepG.mk rfl ?_; rw [ha0]; simp only [putL, Act.put, List.setIfInBounds_toArray, List.set_cons_zero, List.set_cons_succ]
          go_wp2_with fail
          refine HK.out _ _ ?_
          refine ⟨v27, v28, v29, v30, v31, (.pointer (some ⟨w'.heap.size, 0, none⟩)), (by rw [ha0]; simp only [putL, Act.put, List.setIfInBounds_toArray, List.set_cons_zero, List.set_cons_succ]), ?_, ?_, ?_, ?_, trivial⟩
          · obtain ⟨h27, h28, h29, h30, h31, _⟩ := hR.out
            exact Lib.hid ⟨fun h => h27 (by simpa using h), fun h => h28 (by simpa using h), fun h => h29 (by simpa using h), fun h => h30 (by simpa using h), fun h => h31 (by simpa using h), trivial⟩
          · exact hX.alloc _
          · exact fun _ => ⟨w'.heap.size, .int .i64 0, .int .i64 0, rfl, hX.size, blk_new w' _, fun h => (by have h1 := hN7 (by simpa using h); rw [h1] at hsk; cases hsk)⟩
          · exact fun _ => rfl
        case x2hs6 =>
          intro s a' w' hsk hdep hI K hK
          try dsimp only at hI hK
          obtain ⟨v27, v28, v29, v30, v31, v7, hact, hR, hX, hA7, hN7, _⟩ := hI
          subst hact
          have HK := Lib.hid hK
          clear hK
          have e31 : v31 = .agg #[.int .i64 U, .int .i64 V] := by obtain ⟨h27, h28, h29, h30, h31, _⟩ := hR.out; exact h31 (hdep ⟨4, .data⟩ (by simp) rfl)
          subst e31
          obtain ⟨g, c0, c1, ev, hg, hblk, hst⟩ := hA7 (hdep ⟨5, .data⟩ (by simp) rfl)
          subst ev
          have kc0 : w'.cell? ⟨w.heap.size, 0, none⟩ = some (.int .i64 X) := hX.cell (by first | (simp; done) | (simp; omega)) (by first | assumption | (go_simp; done) | (simp; done))
          have kc1 : w'.cell? ⟨w.heap.size, 1, none⟩ = some (.int .i64 Y) := hX.cell (by first | (simp; done) | (simp; omega)) (by first | assumption | (go_simp; done) | (simp; done))
          have kx0 := (show Pows w' P from (hX.block P hPw (by simp)).trans HHP.out)
          have kb0 : w'.cell? ⟨g, 0, none⟩ = some c0 := cell_of_row w' g 0 _ _ _ hblk
          have kb1 : w'.cell? ⟨g, 1, none⟩ = some c1 := cell_of_row w' g 1 _ _ _ hblk
          have kf : ∀ o, w'.frozen? ⟨g, o, none⟩ = false := fun o => frozen_of_row w' g o _ _ hblk
          have hBlk := Lib.hid hblk
          clear hblk
          have hdepA : s 5 = true := hdep ⟨5, .data⟩ (by simp) rfl
          clear hdep
          refine StepG.mk rfl ?_; rw [ha0]; simp only [putL, Act.put, List.setIfInBounds_toArray, List.set_cons_zero, List.set_cons_succ]
          go_wp2_with fail
          refine HK.out _ _ ?_
          refine ⟨v27, v28, v29, v30, (.agg #[.int .i64 U, .int .i64 V]), (.pointer (some ⟨g, 0, none⟩)), (by rw [ha0]; simp only [putL, Act.put, List.setIfInBounds_toArray, List.set_cons_zero, List.set_cons_succ]), ?_, ?_, ?_, ?_, trivial⟩
          · obtain ⟨h27, h28, h29, h30, h31, _⟩ := hR.out
            exact Lib.hid ⟨fun h => h27 (by simpa using h), fun h => h28 (by simpa using h), fun h => h29 (by simpa using h), fun h => h30 (by simpa using h), fun _ => rfl, trivial⟩
          · exact ((hX.setNew (p := ⟨g, 0, none⟩) hg _).setNew (p := ⟨g, 1, none⟩) hg _)
          · exact fun _ => ⟨g, _, _, rfl, hg, blk_set2 hBlk.out, fun _ => ⟨rfl, rfl⟩⟩
          · exact fun _ => (by simp [hdepA])
        intro s a' w9 hall hI
        try dsimp only at hI
        obtain ⟨v27, v28, v29, v30, v31, v7, hact, hR, hXR, hA7, hN7, _⟩ := hI
        subst hact
        obtain ⟨h27, h28, h29, h30, h31, _⟩ := hR.out
        clear hR
        have e27 := h27 (hall 0 (by decide))
        subst e27
        clear h27
        have e28 := h28 (hall 1 (by decide))
        subst e28
        clear h28
        have e29 := h29 (hall 2 (by decide))
        subst e29
        clear h29
        have e30 := h30 (hall 3 (by decide))
        subst e30
        clear h30
        have e31 := h31 (hall 4 (by decide))
        subst e31
        clear h31
        obtain ⟨g7, c0, c1, ev, hg7, hblk7, hst⟩ := hA7 (hall 5 (by decide))
        subst ev
        clear hA7 hN7
        obtain ⟨es0, es1⟩ := hst (hall 6 (by decide))
        subst es0
        subst es1
        clear hst
        clear hall
        rw [ha0]; simp only [putL, Act.put, List.setIfInBounds_toArray, List.set_cons_zero, List.set_cons_succ]
        clear ha0
        have B9 : Below w.heap.size w w9 := hXR.below (by first | assumption | exact (by repeat (first | exact Below.refl _ _ | exact Nat.le_refl _ | refine Below.alloc ?_ ?_ _ | refine Below.setCell ?_ ?_ _ | refine Below.drew ?_ | refine bl_drewN ?_ _ | (assumption) | refine bl_call ?_ (by assumption) ?_ | omega | (simp <;> omega)))) (by first | omega | (simp <;> omega)) (by simp <;> omega)
        have hp9 : Pows w9 P := (hXR.block P hPw (by simp)).trans HHP.out
        have X9 := (hXR.block _ hXw (by simp)).trans HX0.out
        have I9 := isBuilder_belX HI.out hXR (by simp)
        have hg9 : wr.heap.size ≤ g7 := by omega
        have hgs9 := blk_lt hblk7
        clear hXR HHP HX0 HI c0 c1 f0 hPw hXw HOF HTM HPL HL
        have y0 := row2_0 hblk7
        have y1 := row2_1 hblk7
        have hXg : w.heap.size ≠ g7 := by omega
        have hXg' : g7 ≠ w.heap.size := by omega
        have HBK := Lib.hid hblk7
        clear hblk7
        by_cases hsg : 0 ≤ sg
        · obtain ⟨en, ed⟩ := HX1.out hsg
          rw [en, ed] at HN
          rw [en] at HLN
          clear HX1 HX2'
          go_upto_region 13 with (first
            | (go_at_call 68; refine (HSG.out _).mono ?_; rintro e w10 ⟨rfl, hb10⟩; have hp10 : Pows w10 P := blk_call hb10 hp9; have X10 := blk_call hb10 X9; have I10 := isBuilder_belX I9 (BelX.ofBelow hb10) (by simp); have B10 := bl_call B9 hb10 (by omega); have pblk1 := X10; have hY10 := blk_call hb10 HBK.out; have z0 := row2_0 hY10; have z1 := row2_1 hY10; have hz10 := isBuilder_lt I10; have HI10 := Lib.hid I10; have HP10 := Lib.hid hp10; have HY10 := Lib.hid hY10; clear hp9 X9 I9 B9 hb10 y0 y1 HBK hgs9 X10 hY10 hp10 I10)
            | fail)
          have hXw : w.heap.size < w10.heap.size := blk_lt pblk1
          have hPw : P < w10.heap.size := by omega
          have pblk1 : w10.heap[w.heap.size]? = some (.cells #[.int .i64 X, .int .i64 Y] 23 (0, 0)) := by first | assumption | exact hblk1
          refine with_act fun a0 ha0 => ?_
          refine wp_region_inv (by kernel_rfl) (by kernel_rfl) (fun s a' w' => ∃ v35 v6 : Value, a' = putL a0 [(35, v35), (6, v6)] ∧ Hid ((s 0 = true → v35 = .agg #[.int .i64 U, .int .i64 V]) ∧ (s 1 = true → v6 = .int .u8 49) ∧ True) ∧ BelX [w.heap.size] w10 w' ∧ (∃ (c0 c1 : Value), w'.heap[w.heap.size]? = some (.cells #[c0, c1] 23 (0, 0)) ∧ (s 2 = true → c0 = .int .i64 U ∧ c1 = .int .i64 V) ∧ (s 2 = false → c0 = .int .i64 X ∧ c1 = .int .i64 Y)) ∧ (s 2 = true → s 0 = true ∧ s 1 = true ∧ True) ∧ True) ?x3hzero ⟨?x3hs0, ?x3hs1, ?x3hs2, trivial⟩ ?x3hdone
          case x3hzero =>
            refine ⟨a0.tmps.getD 35 undef, a0.tmps.getD 6 undef, ?_, ?_, ?_, ?_, ?_, trivial⟩
            · simp only [putL, put_self]
            · exact Lib.hid ⟨fun h => (by simp at h), fun h => (by simp at h), trivial⟩
            · exact BelX.start _ _
            · exact ⟨.int .i64 X, .int .i64 Y, pblk1, fun h => (by simp at h), fun _ => ⟨rfl, rfl⟩⟩
            · exact fun h => (by simp at h)
          case x3hs0 =>
            intro s a' w' hsk hdep hI K hK
            try dsimp only at hI hK
            obtain ⟨v35, v6, hact, hR, hX, hP1, hQ1, _⟩ := hI
            subst hact
            have HK := Lib.hid hK
            clear hK
            have kc0 : w'.cell? ⟨g7, 0, none⟩ = some (.int .i64 U) := hX.cell (by first | (simp; done) | (simp; omega)) (by first | assumption | (go_simp; done) | (simp; done))
            have kc1 : w'.cell? ⟨g7, 1, none⟩ = some (.int .i64 V) := hX.cell (by first | (simp; done) | (simp; omega)) (by first | assumption | (go_simp; done) | (simp; done))
            obtain ⟨b1_0, b1_1, pb1, pt1, pf1⟩ := hP1
            have hs0 : s 2 = false := Bool.eq_false_iff.2 fun h => (by have := hQ1 h; simp [hsk] at this)
            obtain ⟨q1_0, q1_1⟩ := pf1 hs0
            subst q1_0
            subst q1_1
            clear hs0
            have kp1_0 := cell_of_row w' (w.heap.size) 0 _ _ _ pb1
            have kp1_1 := cell_of_row w' (w.heap.size) 1 _ _ _ pb1
            simp only [List.getElem?_toArray, List.getElem?_cons_zero, List.getElem?_cons_succ] at kp1_0 kp1_1
            have kq1 : ∀ o, w'.frozen? ⟨w.heap.size, o, none⟩ = false := fun o => frozen_of_row w' _ o _ _ pb1
            have hPB1 := Lib.hid pb1
            clear pb1
            have hPT1 := Lib.hid pt1
            clear pt1
            have hPF1 := Lib.hid pf1
            clear pf1
            clear hdep
            refine StepG.mk rfl ?_; rw [ha0]; simp only [putL, Act.put, List.setIfInBounds_toArray, List.set_cons_zero, List.set_cons_succ]
            go_wp2_with fail
            refine HK.out _ _ ?_
            refine ⟨(.agg #[.int .i64 U, .int .i64 V]), v6, (by rw [ha0]; simp only [putL, Act.put, List.setIfInBounds_toArray, List.set_cons_zero, List.set_cons_succ]), ?_, ?_, ?_, ?_, trivial⟩
            · obtain ⟨h35, h6, _⟩ := hR.out
              exact Lib.hid ⟨fun _ => rfl, fun h => h6 (by simpa using h), trivial⟩
            · exact hX
            · exact ⟨_, _, hPB1.out, fun h => hPT1.out (by simpa using h), fun h => ⟨rfl, rfl⟩⟩
            · exact fun h => (by have h1 := hQ1 (by simpa using h); simp [h1])
          case x3hs1 =>
            intro s a' w' hsk hdep hI K hK
            try dsimp only at hI hK
            obtain ⟨v35, v6, hact, hR, hX, hP1, hQ1, _⟩ := hI
            subst hact
            have HK := Lib.hid hK
            clear hK
            have kc0 : w'.cell? ⟨g7, 0, none⟩ = some (.int .i64 U) := hX.cell (by first | (simp; done) | (simp; omega)) (by first | assumption | (go_simp; done) | (simp; done))
            have kc1 : w'.cell? ⟨g7, 1, none⟩ = some (.int .i64 V) := hX.cell (by first | (simp; done) | (simp; omega)) (by first | assumption | (go_simp; done) | (simp; done))
            obtain ⟨b1_0, b1_1, pb1, pt1, pf1⟩ := hP1
            have hs0 : s 2 = false := Bool.eq_false_iff.2 fun h => (by have := hQ1 h; simp [hsk] at this)
            obtain ⟨q1_0, q1_1⟩ := pf1 hs0
            subst q1_0
            subst q1_1
            clear hs0
            have kp1_0 := cell_of_row w' (w.heap.size) 0 _ _ _ pb1
            have kp1_1 := cell_of_row w' (w.heap.size) 1 _ _ _ pb1
            simp only [List.getElem?_toArray, List.getElem?_cons_zero, List.getElem?_cons_succ] at kp1_0 kp1_1
            have kq1 : ∀ o, w'.frozen? ⟨w.heap.size, o, none⟩ = false := fun o => frozen_of_row w' _ o _ _ pb1
            have hPB1 := Lib.hid pb1
            clear pb1
            have hPT1 := Lib.hid pt1
            clear pt1
            have hPF1 := Lib.hid pf1
            clear pf1
            clear hdep
            refine StepG.mk rfl ?_; rw [ha0]; simp only [putL, Act.put, List.setIfInBounds_toArray, List.set_cons_zero, List.set_cons_succ]
            go_wp2_with fail
            refine HK.out _ _ ?_
            refine ⟨v35, (.int .u8 49), (by rw [ha0]; simp only [putL, Act.put, List.setIfInBounds_toArray, List.set_cons_zero, List.set_cons_succ]), ?_, ?_, ?_, ?_, trivial⟩
            · obtain ⟨h35, h6, _⟩ := hR.out
              exact Lib.hid ⟨fun h => h35 (by simpa using h), fun _ => rfl, trivial⟩
            · exact hX
            · exact ⟨_, _, hPB1.out, fun h => hPT1.out (by simpa using h), fun h => ⟨rfl, rfl⟩⟩
            · exact fun h => (by have h1 := hQ1 (by simpa using h); simp [h1])
          case x3hs2 =>
            intro s a' w' hsk hdep hI K hK
            try dsimp only at hI hK
            obtain ⟨v35, v6, hact, hR, hX, hP1, hQ1, _⟩ := hI
            subst hact
            have HK := Lib.hid hK
            clear hK
            have e35 : v35 = .agg #[.int .i64 U, .int .i64 V] := by obtain ⟨h35, h6, _⟩ := hR.out; exact h35 (hdep ⟨0, .data⟩ (by simp) rfl)
            subst e35
            have kc0 : w'.cell? ⟨g7, 0, none⟩ = some (.int .i64 U) := hX.cell (by first | (simp; done) | (simp; omega)) (by first | assumption | (go_simp; done) | (simp; done))
            have kc1 : w'.cell? ⟨g7, 1, none⟩ = some (.int .i64 V) := hX.cell (by first | (simp; done) | (simp; omega)) (by first | assumption | (go_simp; done) | (simp; done))
            obtain ⟨b1_0, b1_1, pb1, pt1, pf1⟩ := hP1
            have hs0 : s 2 = false := hsk
            obtain ⟨q1_0, q1_1⟩ := pf1 hs0
            subst q1_0
            subst q1_1
            clear hs0
            have kp1_0 := cell_of_row w' (w.heap.size) 0 _ _ _ pb1
            have kp1_1 := cell_of_row w' (w.heap.size) 1 _ _ _ pb1
            simp only [List.getElem?_toArray, List.getElem?_cons_zero, List.getElem?_cons_succ] at kp1_0 kp1_1
            have kq1 : ∀ o, w'.frozen? ⟨w.heap.size, o, none⟩ = false := fun o => frozen_of_row w' _ o _ _ pb1
            have hPB1 := Lib.hid pb1
            clear pb1
            have hPT1 := Lib.hid pt1
            clear pt1
            have hPF1 := Lib.hid pf1
            clear pf1
            have hd0 : s 0 = true := hdep ⟨0, .data⟩ (by simp) rfl
            have hd1 : s 1 = true := hdep ⟨1, .chain⟩ (by simp) rfl
            clear hdep
            refine StepG.mk rfl ?_; rw [ha0]; simp only [putL, Act.put, List.setIfInBounds_toArray, List.set_cons_zero, List.set_cons_succ]
            go_wp2_with fail
            refine HK.out _ _ ?_
            refine ⟨(.agg #[.int .i64 U, .int .i64 V]), v6, (by rw [ha0]; simp only [putL, Act.put, List.setIfInBounds_toArray, List.set_cons_zero, List.set_cons_succ]), ?_, ?_, ?_, ?_, trivial⟩
            · obtain ⟨h35, h6, _⟩ := hR.out
              exact Lib.hid ⟨fun _ => rfl, fun h => h6 (by simpa using h), trivial⟩
            · exact ((hX.setOld (p := ⟨w.heap.size, 0, none⟩) (by simp) _).setOld (p := ⟨w.heap.size, 1, none⟩) (by simp) _)
            · exact ⟨_, _, blk_set2 hPB1.out, fun _ => ⟨rfl, rfl⟩, fun h => (by simp at h)⟩
            · exact fun _ => (by simp [hd0, hd1])
          intro s a' w11 hall hI
          try dsimp only at hI
          obtain ⟨v35, v6, hact, hR, hXR, hP1, hQ1, _⟩ := hI
          subst hact
          obtain ⟨h35, h6, _⟩ := hR.out
          clear hR
          have e35 := h35 (hall 0 (by decide))
          subst e35
          clear h35
          have e6 := h6 (hall 1 (by decide))
          subst e6
          clear h6
          obtain ⟨c0, c1, pblkR1, hpt, _⟩ := hP1
          clear hQ1
          obtain ⟨es0, es1⟩ := hpt (hall 2 (by decide))
          subst es0
          subst es1
          clear hpt
          try clear pblk1
          have pblk1 := pblkR1
          clear pblkR1
          clear hall
          rw [ha0]; simp only [putL, Act.put, List.setIfInBounds_toArray, List.set_cons_zero, List.set_cons_succ]
          clear ha0
          have B11 : Below w.heap.size w w11 := hXR.below (by first | assumption | exact (by repeat (first | exact Below.refl _ _ | exact Nat.le_refl _ | refine Below.alloc ?_ ?_ _ | refine Below.setCell ?_ ?_ _ | refine Below.drew ?_ | refine bl_drewN ?_ _ | (assumption) | refine bl_call ?_ (by assumption) ?_ | omega | (simp <;> omega)))) (by first | omega | (simp <;> omega)) (by simp <;> omega)
          have hpE : Pows w11 P := (hXR.block P hPw (by simp <;> omega)).trans HP10.out
          have XE := pblk1
          have IE := isBuilder_belX HI10.out hXR (by simp <;> omega)
          have BE := B11
          have hzE := isBuilder_lt IE
          clear hXR HP10 HI10 HY10 z0 z1 pblk1 B11 B10 hPw hXw
          have hlenD : (D).length ≤ 100 := by first | omega | (simp; omega)
          go_wp2_with (first
            | (go_at_call 79; refine (writeByte_any b0 b0 _ 49 _ IE (by rw [Lib.byteCells_length]; omega) (Nat.le_of_lt hzE)).mono ?_; rintro e w12 ⟨rfl, hI12, hb12⟩; have X12 := (hb12.block _ hXb).trans XE; have hp12 : Pows w12 P := (hb12.block _ hPb).trans hpE; have B12 := bl_call BE hb12 (Nat.le_of_lt hXb); have I12 : Lib.IsBuilder 83 5 b0 b0 (Lib.byteCells ((D) ++ [49])) w12 := (by rw [Lib.byteCells_append]; exact .inr hI12); have d0 := row2_0 X12; have d1 := row2_1 X12; have HX12 := Lib.hid X12; have HI12 := Lib.hid I12; have HP12 := Lib.hid hp12; have hz12 := isBuilder_lt I12; clear hI12 hb12 X12 hp12 I12 XE hpE IE BE hzE)
            | fail)
          go_roundw
          case rel => exact ⟨m, U, V, (D) ++ [49], congrArg (Value.int .i64) (by omega), by omega, fun h => absurd h (by omega), HLN, Lib.hid (by rw [← HN.out]; simp), by first | omega | (simp; omega), HX12.out, HP12.out, HI12.out, B12⟩
          case measure => first | (simp [intOf]; omega) | (simp [intOf]; done)
        · obtain ⟨en, ed⟩ := HX2'.out hsg
          rw [en, ed] at HN
          rw [en] at HLN
          clear HX1 HX2'
          go_upto_region 14 with (first
            | (go_at_call 68; refine (HSG.out _).mono ?_; rintro e w10 ⟨rfl, hb10⟩; have hpE : Pows w10 P := blk_call hb10 hp9; have XE := blk_call hb10 X9; have IE := isBuilder_belX I9 (BelX.ofBelow hb10) (by simp); have BE := bl_call B9 hb10 (by omega); have hzE := isBuilder_lt IE; clear hp9 X9 I9 B9 hb10 y0 y1 HBK hgs9)
            | fail)
          have hlenD : (D).length ≤ 100 := by first | omega | (simp; omega)
          go_wp2_with (first
            | (go_at_call 79; refine (writeByte_any b0 b0 _ 48 _ IE (by rw [Lib.byteCells_length]; omega) (Nat.le_of_lt hzE)).mono ?_; rintro e w12 ⟨rfl, hI12, hb12⟩; have X12 := (hb12.block _ hXb).trans XE; have hp12 : Pows w12 P := (hb12.block _ hPb).trans hpE; have B12 := bl_call BE hb12 (Nat.le_of_lt hXb); have I12 : Lib.IsBuilder 83 5 b0 b0 (Lib.byteCells ((D) ++ [48])) w12 := (by rw [Lib.byteCells_append]; exact .inr hI12); have d0 := row2_0 X12; have d1 := row2_1 X12; have HX12 := Lib.hid X12; have HI12 := Lib.hid I12; have HP12 := Lib.hid hp12; have hz12 := isBuilder_lt I12; clear hI12 hb12 X12 hp12 I12 XE hpE IE BE hzE)
            | fail)
          go_roundw
          case rel => exact ⟨m, X, Y, (D) ++ [48], congrArg (Value.int .i64) (by omega), by omega, fun h => absurd h (by omega), HLN, Lib.hid (by rw [← HN.out]; simp), by first | omega | (simp; omega), HX12.out, HP12.out, HI12.out, B12⟩
          case measure => first | (simp [intOf]; omega) | (simp [intOf]; done)
      · by_cases hB : m = 39
        · subst hB
          by_cases hz : X = 0 ∧ Y = 0
          · obtain ⟨rfl, rfl⟩ := hz
            have HFIN := Lib.hid (show D = ALL by rw [← HF.out, GM.fut_40]; simp)
            have hIw := HI.out
            go_wp2_with fail
            have hAL : ALL.length ≤ 1000000 := by rw [← HFIN.out]; first | omega | (simp; omega)
            have htl := fun wx => trimLeft0 ALL wx hAL
            rcases HTC.out with ⟨hT, hX⟩ | ⟨l, hT, hX⟩ | ⟨c, l, hT, hcne, hX⟩
            · rw [hT] at htl
              have HTL := Lib.hid htl
              have HTX := Lib.hid hX
              clear htl hT hX
              go_wp2_with (first
                | (go_at_call 55; refine (demand_yes _ _).mono ?_; rintro e w' ⟨rfl, rfl⟩)
                | (go_at_call 81; refine (builderString_any b0 b0 (D) _ HI.out (Nat.le_of_lt hbs)).mono ?_; rintro e w13 ⟨rfl, hb13⟩; rw [HFIN.out]; have B13 := bl_call B hb13 (Nat.le_of_lt hXb))
                | (go_at_call 80; refine (HTL.out _).mono ?_; rintro e w' ⟨rfl, rfl⟩)
                | fail)
              go_ret
              exact ⟨by rw [HTX.out]; rfl, B13⟩
            · rw [hT] at htl
              obtain ⟨t1, t2, t3, t4⟩ := str_cons 46 l
              have happ := str_nought (46 :: l)
              have tsz : (⟨(46 :: l).toArray⟩ : ByteArray).size ≤ ALL.length := by
                rw [str_size, ← hT]; exact (List.dropWhile_sublist _).length_le
              rw [← hX] at happ
              have HAPP := Lib.hid happ
              clear happ hX hT
              generalize (⟨(46 :: l).toArray⟩ : ByteArray) = t at *
              have tsz2 : ¬ 9223372036854775807 < 1 + t.size := by omega
              have t5 : (t[0]'t3).toNat = 46 := by rw [t4]; rfl
              have t6 : (((t[0]'t3).toNat : Int) == 46) = true := by rw [t5]; rfl
              have t7 : ((t[0]'t3).toNat : Int) = 46 := by rw [t5]; rfl
              have HTL := Lib.hid htl
              clear htl t4 t5
              go_wp2_with (first
                | (go_at_call 55; refine (demand_yes _ _).mono ?_; rintro e w' ⟨rfl, rfl⟩)
                | (go_at_call 81; refine (builderString_any b0 b0 (D) _ HI.out (Nat.le_of_lt hbs)).mono ?_; rintro e w13 ⟨rfl, hb13⟩; rw [HFIN.out]; have B13 := bl_call B hb13 (Nat.le_of_lt hXb))
                | (go_at_call 80; refine (HTL.out _).mono ?_; rintro e w' ⟨rfl, rfl⟩)
                | fail)
              go_ret
              exact ⟨by rw [← HAPP.out]; rfl, B13⟩
            · rw [hT] at htl
              obtain ⟨t1, t2, t3, t4⟩ := str_cons c l
              have happ : (⟨(c :: l).toArray⟩ : ByteArray) = ⟨(GM.textOf (a, b)).toArray⟩ := by rw [hX]
              have HAPP := Lib.hid happ
              clear happ hX hT
              generalize (⟨(c :: l).toArray⟩ : ByteArray) = t at *
              have t5 : ¬ ((t[0]'t3).toNat : Int) = 46 := by
                rw [t4]; intro h
                exact hcne (UInt8.toNat_inj.1 (by simpa using (by exact_mod_cast h : c.toNat = 46)))
              have t6 : (((t[0]'t3).toNat : Int) == 46) = false := by simpa using t5
              have HTL := Lib.hid htl
              clear htl t4
              go_wp2_with (first
                | (go_at_call 55; refine (demand_yes _ _).mono ?_; rintro e w' ⟨rfl, rfl⟩)
                | (go_at_call 81; refine (builderString_any b0 b0 (D) _ HI.out (Nat.le_of_lt hbs)).mono ?_; rintro e w13 ⟨rfl, hb13⟩; rw [HFIN.out]; have B13 := bl_call B hb13 (Nat.le_of_lt hXb))
                | (go_at_call 80; refine (HTL.out _).mono ?_; rintro e w' ⟨rfl, rfl⟩)
                | fail)
              go_ret
              exact ⟨by rw [← HAPP.out]; rfl, B13⟩
          · have hz0 : ¬ (X, Y) = (0, 0) := fun h => hz ⟨congrArg Prod.fst h, congrArg Prod.snd h⟩
            have HN := Lib.hid (show (D ++ [46]) ++ (GM.dgt 39 (X, Y) :: GM.frac 39 (GM.nxx 39 (X, Y))) = ALL by rw [← HF.out, GM.fut_40, if_neg hz0]; simp)
            clear hz0
            rcases (show ¬ X = 0 ∨ (X = 0 ∧ ¬ Y = 0) by omega) with hX0 | ⟨hX0, hY0⟩
            · skip
              go_upto_region 11 with (first
                | (go_at_call 79; refine (writeByte_any b0 b0 _ 46 _ HI.out (by rw [Lib.byteCells_length]; omega) (Nat.le_of_lt hbs)).mono ?_; rintro e w8 ⟨rfl, hI8, hb8⟩; have X8 := (hb8.block _ hXb).trans HX0.out; have hp8 : Pows w8 P := (hb8.block _ hPb).trans HHP.out; have B8 := bl_call B hb8 (Nat.le_of_lt hXb); have I8 : Lib.IsBuilder 83 5 b0 b0 (Lib.byteCells (D ++ [46])) w8 := (by rw [Lib.byteCells_append]; exact .inr hI8); have c0' := row2_0 X8; have c1' := row2_1 X8; have f0' := row_f X8; clear HX0 HHP HI B c0 c1 f0 hbs; have HX0 := Lib.hid X8; have HI := Lib.hid I8; have HHP := Lib.hid hp8; have hbs := isBuilder_lt I8; have B := B8; have c0 := c0'; have c1 := c1'; have f0 := f0'; clear c0' c1' f0' hI8 hb8 X8 hp8 I8 B8)
                | fail)
              clear hX0
              obtain ⟨⟨px, py⟩, hpt⟩ : ∃ p, GM.pt 39 = p := ⟨_, rfl⟩
              have hsb := GM.step_bd 39 (by omega) (X, Y) HL.out
              rw [hpt] at hsb
              dsimp only at hsb
              obtain ⟨s1, s2, s3, s4, s5, s6, s7, s8⟩ := hsb
              have hpb := pt_bd ⟨39, by omega⟩
              dsimp only at hpb
              rw [hpt] at hpb
              dsimp only at hpb
              obtain ⟨p1, p2, p3, p4⟩ := hpb
              have hof := fun wx h => of_any P (-1) 39 wx h (by omega) (by omega)
              rw [hpt] at hof
              have htm := fun wx => times_any px py (-1) wx (by omega) (by omega) (by omega) (by omega)
              obtain ⟨qx, hqx⟩ : ∃ qx, -1 * px = qx := ⟨_, rfl⟩
              obtain ⟨qy, hqy⟩ : ∃ qy, -1 * py = qy := ⟨_, rfl⟩
              rw [hqx, hqy] at htm
              have hpl := fun wx => plus_any X Y qx qy wx (by omega) (by omega) (by omega) (by omega)
              obtain ⟨U, hU⟩ : ∃ U, X + qx = U := ⟨_, rfl⟩
              obtain ⟨V, hV⟩ : ∃ V, Y + qy = V := ⟨_, rfl⟩
              rw [hU, hV] at hpl
              have eU : X - px = U := by omega
              have eV : Y - py = V := by omega
              rw [eU] at s1 s2
              rw [eV] at s3 s4
              have hsg := fun wx => sign_any U V wx s1 s2 s3 s4
              obtain ⟨sg, hsgn⟩ : ∃ sg, GM.sgn U V = sg := ⟨_, rfl⟩
              rw [hsgn] at hsg
              have hdg : GM.dgx 39 (X, Y) = decide (0 ≤ sg) := by unfold GM.dgx; rw [hpt]; dsimp only; rw [eU, eV, hsgn]
              have hnx1 : 0 ≤ sg → GM.nxx 39 (X, Y) = (U, V) ∧ GM.dgt 39 (X, Y) = 49 := by
                intro h
                have hd : GM.dgx 39 (X, Y) = true := by rw [hdg]; exact decide_eq_true h
                refine ⟨?_, ?_⟩
                · unfold GM.nxx
                  rw [hd, hpt]
                  show (X - px, Y - py) = _
                  rw [eU, eV]
                · unfold GM.dgt
                  rw [hd]; rfl
              have hnx2 : ¬ 0 ≤ sg → GM.nxx 39 (X, Y) = (X, Y) ∧ GM.dgt 39 (X, Y) = 48 := by
                intro h
                have hd : GM.dgx 39 (X, Y) = false := by rw [hdg]; exact decide_eq_false h
                refine ⟨?_, ?_⟩
                · unfold GM.nxx
                  rw [hd]; rfl
                · unfold GM.dgt
                  rw [hd]; rfl
              have hln := GM.lefts_next 39 (X, Y) HL.out
              have HLN := Lib.hid hln
              have HOF := Lib.hid hof
              have HTM := Lib.hid htm
              have HPL := Lib.hid hpl
              have HSG := Lib.hid hsg
              have HX1 := Lib.hid hnx1
              have HX2' := Lib.hid hnx2
              have hPw : P < w8.heap.size := by omega
              have hXw : w.heap.size < w8.heap.size := by omega
              clear hof htm hpl hsg hnx1 hnx2 hdg hln hpt hqx hqy hU hV eU eV hsgn s1 s2 s3 s4 s5 s6 s7 s8 p1 p2 p3 p4
              refine with_act fun a0 ha0 => ?_
              refine wp_region_inv (by kernel_rfl) (by kernel_rfl) (fun s a' w' => ∃ v27 v28 v29 v30 v31 v7 : Value, a' = putL a0 [(27, v27), (28, v28), (29, v29), (30, v30), (31, v31), (7, v7)] ∧ Hid ((s 0 = true → v27 = .agg #[.int .i64 X, .int .i64 Y]) ∧ (s 1 = true → v28 = .int .i64 (-1)) ∧ (s 2 = true → v29 = .agg #[.int .i64 px, .int .i64 py]) ∧ (s 3 = true → v30 = .agg #[.int .i64 qx, .int .i64 qy]) ∧ (s 4 = true → v31 = .agg #[.int .i64 U, .int .i64 V]) ∧ True) ∧ BelX [] w8 w' ∧ (s 5 = true → ∃ (g : Nat) (c0 c1 : Value), v7 = .pointer (some ⟨g, 0, none⟩) ∧ w8.heap.size ≤ g ∧ w'.heap[g]? = some (.cells #[c0, c1] 23 (0, 0)) ∧ (s 6 = true → c0 = .int .i64 U ∧ c1 = .int .i64 V)) ∧ (s 6 = true → s 5 = true) ∧ True) ?x4hzero ⟨?x4hs0, ?x4hs1, ?x4hs2, ?x4hs3, ?x4hs4, ?x4hs5, ?x4hs6, trivial⟩ ?x4hdone
              case x4hzero =>
                refine ⟨a0.tmps.getD 27 undef, a0.tmps.getD 28 undef, a0.tmps.getD 29 undef, a0.tmps.getD 30 undef, a0.tmps.getD 31 undef, a0.tmps.getD 7 undef, ?_, ?_, ?_, ?_, ?_, trivial⟩
                · simp only [putL, put_self]
                · exact Lib.hid ⟨fun h => (by simp at h), fun h => (by simp at h), fun h => (by simp at h), fun h => (by simp at h), fun h => (by simp at h), trivial⟩
                · exact BelX.start _ _
                · exact fun h => (by simp at h)
                · exact fun h => (by simp at h)
              case x4hs0 =>
                intro s a' w' hsk hdep hI K hK
                try dsimp only at hI hK
                obtain ⟨v27, v28, v29, v30, v31, v7, hact, hR, hX, hA7, hN7, _⟩ := hI
                subst hact
                have HK := Lib.hid hK
                clear hK
                have kc0 : w'.cell? ⟨w.heap.size, 0, none⟩ = some (.int .i64 X) := hX.cell (by first | (simp; done) | (simp; omega)) (by first | assumption | (go_simp; done) | (simp; done))
                have kc1 : w'.cell? ⟨w.heap.size, 1, none⟩ = some (.int .i64 Y) := hX.cell (by first | (simp; done) | (simp; omega)) (by first | assumption | (go_simp; done) | (simp; done))
                have kx0 := (show Pows w' P from (hX.block P hPw (by simp)).trans HHP.out)
                clear hdep
                refine StepG.mk rfl ?_; rw [ha0]; simp only [putL, Act.put, List.setIfInBounds_toArray, List.set_cons_zero, List.set_cons_succ]
                go_wp2_with fail
                refine HK.out _ _ ?_
                refine ⟨(.agg #[.int .i64 X, .int .i64 Y]), v28, v29, v30, v31, v7, (by rw [ha0]; simp only [putL, Act.put, List.setIfInBounds_toArray, List.set_cons_zero, List.set_cons_succ]), ?_, ?_, ?_, ?_, trivial⟩
                · obtain ⟨h27, h28, h29, h30, h31, _⟩ := hR.out
                  exact Lib.hid ⟨fun _ => rfl, fun h => h28 (by simpa using h), fun h => h29 (by simpa using h), fun h => h30 (by simpa using h), fun h => h31 (by simpa using h), trivial⟩
                · exact hX
                · intro h; obtain ⟨g, c0, c1, e, hg, hblk, hst⟩ := hA7 (by simpa using h); exact ⟨g, c0, c1, e, hg, hblk, fun h => hst (by simpa using h)⟩
                · exact fun h => (by have h1 := hN7 (by simpa using h); simp [h1])
              case x4hs1 =>
                intro s a' w' hsk hdep hI K hK
                try dsimp only at hI hK
                obtain ⟨v27, v28, v29, v30, v31, v7, hact, hR, hX, hA7, hN7, _⟩ := hI
                subst hact
                have HK := Lib.hid hK
                clear hK
                have kc0 : w'.cell? ⟨w.heap.size, 0, none⟩ = some (.int .i64 X) := hX.cell (by first | (simp; done) | (simp; omega)) (by first | assumption | (go_simp; done) | (simp; done))
                have kc1 : w'.cell? ⟨w.heap.size, 1, none⟩ = some (.int .i64 Y) := hX.cell (by first | (simp; done) | (simp; omega)) (by first | assumption | (go_simp; done) | (simp; done))
                have kx0 := (show Pows w' P from (hX.block P hPw (by simp)).trans HHP.out)
                clear hdep
                refine StepG.mk rfl ?_; rw [ha0]; simp only [putL, Act.put, List.setIfInBounds_toArray, List.set_cons_zero, List.set_cons_succ]
                go_wp2_with fail
                refine HK.out _ _ ?_
                refine ⟨v27, (.int .i64 (-1)), v29, v30, v31, v7, (by rw [ha0]; simp only [putL, Act.put, List.setIfInBounds_toArray, List.set_cons_zero, List.set_cons_succ]), ?_, ?_, ?_, ?_, trivial⟩
                · obtain ⟨h27, h28, h29, h30, h31, _⟩ := hR.out
                  exact Lib.hid ⟨fun h => h27 (by simpa using h), fun _ => rfl, fun h => h29 (by simpa using h), fun h => h30 (by simpa using h), fun h => h31 (by simpa using h), trivial⟩
                · exact hX
                · intro h; obtain ⟨g, c0, c1, e, hg, hblk, hst⟩ := hA7 (by simpa using h); exact ⟨g, c0, c1, e, hg, hblk, fun h => hst (by simpa using h)⟩
                · exact fun h => (by have h1 := hN7 (by simpa using h); simp [h1])
              case x4hs2 =>
                intro s a' w' hsk hdep hI K hK
                try dsimp only at hI hK
                obtain ⟨v27, v28, v29, v30, v31, v7, hact, hR, hX, hA7, hN7, _⟩ := hI
                subst hact
                have HK := Lib.hid hK
                clear hK
                have e28 : v28 = .int .i64 (-1) := by obtain ⟨h27, h28, h29, h30, h31, _⟩ := hR.out; exact h28 (hdep ⟨1, .data⟩ (by simp) rfl)
                subst e28
                have kc0 : w'.cell? ⟨w.heap.size, 0, none⟩ = some (.int .i64 X) := hX.cell (by first | (simp; done) | (simp; omega)) (by first | assumption | (go_simp; done) | (simp; done))
                have kc1 : w'.cell? ⟨w.heap.size, 1, none⟩ = some (.int .i64 Y) := hX.cell (by first | (simp; done) | (simp; omega)) (by first | assumption | (go_simp; done) | (simp; done))
                have kx0 := (show Pows w' P from (hX.block P hPw (by simp)).trans HHP.out)
                clear hdep
                refine StepG.mk rfl ?_; rw [ha0]; simp only [putL, Act.put, List.setIfInBounds_toArray, List.set_cons_zero, List.set_cons_succ]
                go_wp2_with fail
                refine ((HOF.out _ kx0)).mono ?_
                rintro e wn ⟨rfl, hb⟩
                go_wp2_with fail
                refine HK.out _ _ ?_
                refine ⟨v27, (.int .i64 (-1)), (.agg #[.int .i64 px, .int .i64 py]), v30, v31, v7, (by rw [ha0]; simp only [putL, Act.put, List.setIfInBounds_toArray, List.set_cons_zero, List.set_cons_succ]), ?_, ?_, ?_, ?_, trivial⟩
                · obtain ⟨h27, h28, h29, h30, h31, _⟩ := hR.out
                  exact Lib.hid ⟨fun h => h27 (by simpa using h), fun _ => rfl, fun _ => rfl, fun h => h30 (by simpa using h), fun h => h31 (by simpa using h), trivial⟩
                · exact hX.call hb
                · intro h; obtain ⟨g, c0, c1, e, hg, hblk, hst⟩ := hA7 (by simpa using h); exact ⟨g, c0, c1, e, hg, (hb.block g (blk_lt hblk)).trans hblk, fun h => hst (by simpa using h)⟩
                · exact fun h => (by have h1 := hN7 (by simpa using h); simp [h1])
              case x4hs3 =>
                intro s a' w' hsk hdep hI K hK
                try dsimp only at hI hK
                obtain ⟨v27, v28, v29, v30, v31, v7, hact, hR, hX, hA7, hN7, _⟩ := hI
                subst hact
                have HK := Lib.hid hK
                clear hK
                have e29 : v29 = .agg #[.int .i64 px, .int .i64 py] := by obtain ⟨h27, h28, h29, h30, h31, _⟩ := hR.out; exact h29 (hdep ⟨2, .data⟩ (by simp) rfl)
                subst e29
                have kc0 : w'.cell? ⟨w.heap.size, 0, none⟩ = some (.int .i64 X) := hX.cell (by first | (simp; done) | (simp; omega)) (by first | assumption | (go_simp; done) | (simp; done))
                have kc1 : w'.cell? ⟨w.heap.size, 1, none⟩ = some (.int .i64 Y) := hX.cell (by first | (simp; done) | (simp; omega)) (by first | assumption | (go_simp; done) | (simp; done))
                have kx0 := (show Pows w' P from (hX.block P hPw (by simp)).trans HHP.out)
                clear hdep
                refine StepG.mk rfl ?_; rw [ha0]; simp only [putL, Act.put, List.setIfInBounds_toArray, List.set_cons_zero, List.set_cons_succ]
                go_wp2_with fail
                refine ((HTM.out _)).mono ?_
                rintro e wn ⟨rfl, hb⟩
                go_wp2_with fail
                refine HK.out _ _ ?_
                refine ⟨v27, v28, (.agg #[.int .i64 px, .int .i64 py]), (.agg #[.int .i64 qx, .int .i64 qy]), v31, v7, (by rw [ha0]; simp only [putL, Act.put, List.setIfInBounds_toArray, List.set_cons_zero, List.set_cons_succ]), ?_, ?_, ?_, ?_, trivial⟩
                · obtain ⟨h27, h28, h29, h30, h31, _⟩ := hR.out
                  exact Lib.hid ⟨fun h => h27 (by simpa using h), fun h => h28 (by simpa using h), fun _ => rfl, fun _ => rfl, fun h => h31 (by simpa using h), trivial⟩
                · exact hX.call hb
                · intro h; obtain ⟨g, c0, c1, e, hg, hblk, hst⟩ := hA7 (by simpa using h); exact ⟨g, c0, c1, e, hg, (hb.block g (blk_lt hblk)).trans hblk, fun h => hst (by simpa using h)⟩
                · exact fun h => (by have h1 := hN7 (by simpa using h); simp [h1])
              case x4hs4 =>
                intro s a' w' hsk hdep hI K hK
                try dsimp only at hI hK
                obtain ⟨v27, v28, v29, v30, v31, v7, hact, hR, hX, hA7, hN7, _⟩ := hI
                subst hact
                have HK := Lib.hid hK
                clear hK
                have e27 : v27 = .agg #[.int .i64 X, .int .i64 Y] := by obtain ⟨h27, h28, h29, h30, h31, _⟩ := hR.out; exact h27 (hdep ⟨0, .data⟩ (by simp) rfl)
                subst e27
                have e30 : v30 = .agg #[.int .i64 qx, .int .i64 qy] := by obtain ⟨h27, h28, h29, h30, h31, _⟩ := hR.out; exact h30 (hdep ⟨3, .data⟩ (by simp) rfl)
                subst e30
                have kc0 : w'.cell? ⟨w.heap.size, 0, none⟩ = some (.int .i64 X) := hX.cell (by first | (simp; done) | (simp; omega)) (by first | assumption | (go_simp; done) | (simp; done))
                have kc1 : w'.cell? ⟨w.heap.size, 1, none⟩ = some (.int .i64 Y) := hX.cell (by first | (simp; done) | (simp; omega)) (by first | assumption | (go_simp; done) | (simp; done))
                have kx0 := (show Pows w' P from (hX.block P hPw (by simp)).trans HHP.out)
                clear hdep
                refine StepG.mk rfl ?_; rw [ha0]; simp only [putL, Act.put, List.setIfInBounds_toArray, List.set_cons_zero, List.set_cons_succ]
                go_wp2_with fail
                refine ((HPL.out _)).mono ?_
                rintro e wn ⟨rfl, hb⟩
                go_wp2_with fail
                refine HK.out _ _ ?_
                refine ⟨(.agg #[.int .i64 X, .int .i64 Y]), v28, v29, (.agg #[.int .i64 qx, .int .i64 qy]), (.agg #[.int .i64 U, .int .i64 V]), v7, (by rw [ha0]; simp only [putL, Act.put, List.setIfInBounds_toArray, List.set_cons_zero, List.set_cons_succ]), ?_, ?_, ?_, ?_, trivial⟩
                · obtain ⟨h27, h28, h29, h30, h31, _⟩ := hR.out
                  exact Lib.hid ⟨fun _ => rfl, fun h => h28 (by simpa using h), fun h => h29 (by simpa using h), fun _ => rfl, fun _ => rfl, trivial⟩
                · exact hX.call hb
                · intro h; obtain ⟨g, c0, c1, e, hg, hblk, hst⟩ := hA7 (by simpa using h); exact ⟨g, c0, c1, e, hg, (hb.block g (blk_lt hblk)).trans hblk, fun h => hst (by simpa using h)⟩
                · exact fun h => (by have h1 := hN7 (by simpa using h); simp [h1])
              case x4hs5 =>
                intro s a' w' hsk hdep hI K hK
                try dsimp only at hI hK
                obtain ⟨v27, v28, v29, v30, v31, v7, hact, hR, hX, hA7, hN7, _⟩ := hI
                subst hact
                have HK := Lib.hid hK
                clear hK
                have kc0 : w'.cell? ⟨w.heap.size, 0, none⟩ = some (.int .i64 X) := hX.cell (by first | (simp; done) | (simp; omega)) (by first | assumption | (go_simp; done) | (simp; done))
                have kc1 : w'.cell? ⟨w.heap.size, 1, none⟩ = some (.int .i64 Y) := hX.cell (by first | (simp; done) | (simp; omega)) (by first | assumption | (go_simp; done) | (simp; done))
                have kx0 := (show Pows w' P from (hX.block P hPw (by simp)).trans HHP.out)
                clear hdep
                refine StepG.mk rfl ?_; rw [ha0]; simp only [putL, Act.put, List.setIfInBounds_toArray, List.set_cons_zero, List.set_cons_succ]
                go_wp2_with fail
                refine HK.out _ _ ?_
                refine ⟨v27, v28, v29, v30, v31, (.pointer (some ⟨w'.heap.size, 0, none⟩)), (by rw [ha0]; simp only [putL, Act.put, List.setIfInBounds_toArray, List.set_cons_zero, List.set_cons_succ]), ?_, ?_, ?_, ?_, trivial⟩
                · obtain ⟨h27, h28, h29, h30, h31, _⟩ := hR.out
                  exact Lib.hid ⟨fun h => h27 (by simpa using h), fun h => h28 (by simpa using h), fun h => h29 (by simpa using h), fun h => h30 (by simpa using h), fun h => h31 (by simpa using h), trivial⟩
                · exact hX.alloc _
                · exact fun _ => ⟨w'.heap.size, .int .i64 0, .int .i64 0, rfl, hX.size, blk_new w' _, fun h => (by have h1 := hN7 (by simpa using h); rw [h1] at hsk; cases hsk)⟩
                · exact fun _ => rfl
              case x4hs6 =>
                intro s a' w' hsk hdep hI K hK
                try dsimp only at hI hK
                obtain ⟨v27, v28, v29, v30, v31, v7, hact, hR, hX, hA7, hN7, _⟩ := hI
                subst hact
                have HK := Lib.hid hK
                clear hK
                have e31 : v31 = .agg #[.int .i64 U, .int .i64 V] := by obtain ⟨h27, h28, h29, h30, h31, _⟩ := hR.out; exact h31 (hdep ⟨4, .data⟩ (by simp) rfl)
                subst e31
                obtain ⟨g, c0, c1, ev, hg, hblk, hst⟩ := hA7 (hdep ⟨5, .data⟩ (by simp) rfl)
                subst ev
                have kc0 : w'.cell? ⟨w.heap.size, 0, none⟩ = some (.int .i64 X) := hX.cell (by first | (simp; done) | (simp; omega)) (by first | assumption | (go_simp; done) | (simp; done))
                have kc1 : w'.cell? ⟨w.heap.size, 1, none⟩ = some (.int .i64 Y) := hX.cell (by first | (simp; done) | (simp; omega)) (by first | assumption | (go_simp; done) | (simp; done))
                have kx0 := (show Pows w' P from (hX.block P hPw (by simp)).trans HHP.out)
                have kb0 : w'.cell? ⟨g, 0, none⟩ = some c0 := cell_of_row w' g 0 _ _ _ hblk
                have kb1 : w'.cell? ⟨g, 1, none⟩ = some c1 := cell_of_row w' g 1 _ _ _ hblk
                have kf : ∀ o, w'.frozen? ⟨g, o, none⟩ = false := fun o => frozen_of_row w' g o _ _ hblk
                have hBlk := Lib.hid hblk
                clear hblk
                have hdepA : s 5 = true := hdep ⟨5, .data⟩ (by simp) rfl
                clear hdep
                refine StepG.mk rfl ?_; rw [ha0]; simp only [putL, Act.put, List.setIfInBounds_toArray, List.set_cons_zero, List.set_cons_succ]
                go_wp2_with fail
                refine HK.out _ _ ?_
                refine ⟨v27, v28, v29, v30, (.agg #[.int .i64 U, .int .i64 V]), (.pointer (some ⟨g, 0, none⟩)), (by rw [ha0]; simp only [putL, Act.put, List.setIfInBounds_toArray, List.set_cons_zero, List.set_cons_succ]), ?_, ?_, ?_, ?_, trivial⟩
                · obtain ⟨h27, h28, h29, h30, h31, _⟩ := hR.out
                  exact Lib.hid ⟨fun h => h27 (by simpa using h), fun h => h28 (by simpa using h), fun h => h29 (by simpa using h), fun h => h30 (by simpa using h), fun _ => rfl, trivial⟩
                · exact ((hX.setNew (p := ⟨g, 0, none⟩) hg _).setNew (p := ⟨g, 1, none⟩) hg _)
                · exact fun _ => ⟨g, _, _, rfl, hg, blk_set2 hBlk.out, fun _ => ⟨rfl, rfl⟩⟩
                · exact fun _ => (by simp [hdepA])
              intro s a' w9 hall hI
              try dsimp only at hI
              obtain ⟨v27, v28, v29, v30, v31, v7, hact, hR, hXR, hA7, hN7, _⟩ := hI
              subst hact
              obtain ⟨h27, h28, h29, h30, h31, _⟩ := hR.out
              clear hR
              have e27 := h27 (hall 0 (by decide))
              subst e27
              clear h27
              have e28 := h28 (hall 1 (by decide))
              subst e28
              clear h28
              have e29 := h29 (hall 2 (by decide))
              subst e29
              clear h29
              have e30 := h30 (hall 3 (by decide))
              subst e30
              clear h30
              have e31 := h31 (hall 4 (by decide))
              subst e31
              clear h31
              obtain ⟨g7, c0, c1, ev, hg7, hblk7, hst⟩ := hA7 (hall 5 (by decide))
              subst ev
              clear hA7 hN7
              obtain ⟨es0, es1⟩ := hst (hall 6 (by decide))
              subst es0
              subst es1
              clear hst
              clear hall
              rw [ha0]; simp only [putL, Act.put, List.setIfInBounds_toArray, List.set_cons_zero, List.set_cons_succ]
              clear ha0
              have B9 : Below w.heap.size w w9 := hXR.below (by first | assumption | exact (by repeat (first | exact Below.refl _ _ | exact Nat.le_refl _ | refine Below.alloc ?_ ?_ _ | refine Below.setCell ?_ ?_ _ | refine Below.drew ?_ | refine bl_drewN ?_ _ | (assumption) | refine bl_call ?_ (by assumption) ?_ | omega | (simp <;> omega)))) (by first | omega | (simp <;> omega)) (by simp <;> omega)
              have hp9 : Pows w9 P := (hXR.block P hPw (by simp)).trans HHP.out
              have X9 := (hXR.block _ hXw (by simp)).trans HX0.out
              have I9 := isBuilder_belX HI.out hXR (by simp)
              have hg9 : w8.heap.size ≤ g7 := by omega
              have hgs9 := blk_lt hblk7
              clear hXR HHP HX0 HI c0 c1 f0 hPw hXw HOF HTM HPL HL
              have y0 := row2_0 hblk7
              have y1 := row2_1 hblk7
              have hXg : w.heap.size ≠ g7 := by omega
              have hXg' : g7 ≠ w.heap.size := by omega
              have HBK := Lib.hid hblk7
              clear hblk7
              by_cases hsg : 0 ≤ sg
              · obtain ⟨en, ed⟩ := HX1.out hsg
                rw [en, ed] at HN
                rw [en] at HLN
                clear HX1 HX2'
                go_upto_region 13 with (first
                  | (go_at_call 68; refine (HSG.out _).mono ?_; rintro e w10 ⟨rfl, hb10⟩; have hp10 : Pows w10 P := blk_call hb10 hp9; have X10 := blk_call hb10 X9; have I10 := isBuilder_belX I9 (BelX.ofBelow hb10) (by simp); have B10 := bl_call B9 hb10 (by omega); have pblk1 := X10; have hY10 := blk_call hb10 HBK.out; have z0 := row2_0 hY10; have z1 := row2_1 hY10; have hz10 := isBuilder_lt I10; have HI10 := Lib.hid I10; have HP10 := Lib.hid hp10; have HY10 := Lib.hid hY10; clear hp9 X9 I9 B9 hb10 y0 y1 HBK hgs9 X10 hY10 hp10 I10)
                  | fail)
                have hXw : w.heap.size < w10.heap.size := blk_lt pblk1
                have hPw : P < w10.heap.size := by omega
                have pblk1 : w10.heap[w.heap.size]? = some (.cells #[.int .i64 X, .int .i64 Y] 23 (0, 0)) := by first | assumption | exact hblk1
                refine with_act fun a0 ha0 => ?_
                refine wp_region_inv (by kernel_rfl) (by kernel_rfl) (fun s a' w' => ∃ v35 v6 : Value, a' = putL a0 [(35, v35), (6, v6)] ∧ Hid ((s 0 = true → v35 = .agg #[.int .i64 U, .int .i64 V]) ∧ (s 1 = true → v6 = .int .u8 49) ∧ True) ∧ BelX [w.heap.size] w10 w' ∧ (∃ (c0 c1 : Value), w'.heap[w.heap.size]? = some (.cells #[c0, c1] 23 (0, 0)) ∧ (s 2 = true → c0 = .int .i64 U ∧ c1 = .int .i64 V) ∧ (s 2 = false → c0 = .int .i64 X ∧ c1 = .int .i64 Y)) ∧ (s 2 = true → s 0 = true ∧ s 1 = true ∧ True) ∧ True) ?x5hzero ⟨?x5hs0, ?x5hs1, ?x5hs2, trivial⟩ ?x5hdone
                case x5hzero =>
                  refine ⟨a0.tmps.getD 35 undef, a0.tmps.getD 6 undef, ?_, ?_, ?_, ?_, ?_, trivial⟩
                  · simp only [putL, put_self]
                  · exact Lib.hid ⟨fun h => (by simp at h), fun h => (by simp at h), trivial⟩
                  · exact BelX.start _ _
                  · exact ⟨.int .i64 X, .int .i64 Y, pblk1, fun h => (by simp at h), fun _ => ⟨rfl, rfl⟩⟩
                  · exact fun h => (by simp at h)
                case x5hs0 =>
                  intro s a' w' hsk hdep hI K hK
                  try dsimp only at hI hK
                  obtain ⟨v35, v6, hact, hR, hX, hP1, hQ1, _⟩ := hI
                  subst hact
                  have HK := Lib.hid hK
                  clear hK
                  have kc0 : w'.cell? ⟨g7, 0, none⟩ = some (.int .i64 U) := hX.cell (by first | (simp; done) | (simp; omega)) (by first | assumption | (go_simp; done) | (simp; done))
                  have kc1 : w'.cell? ⟨g7, 1, none⟩ = some (.int .i64 V) := hX.cell (by first | (simp; done) | (simp; omega)) (by first | assumption | (go_simp; done) | (simp; done))
                  obtain ⟨b1_0, b1_1, pb1, pt1, pf1⟩ := hP1
                  have hs0 : s 2 = false := Bool.eq_false_iff.2 fun h => (by have := hQ1 h; simp [hsk] at this)
                  obtain ⟨q1_0, q1_1⟩ := pf1 hs0
                  subst q1_0
                  subst q1_1
                  clear hs0
                  have kp1_0 := cell_of_row w' (w.heap.size) 0 _ _ _ pb1
                  have kp1_1 := cell_of_row w' (w.heap.size) 1 _ _ _ pb1
                  simp only [List.getElem?_toArray, List.getElem?_cons_zero, List.getElem?_cons_succ] at kp1_0 kp1_1
                  have kq1 : ∀ o, w'.frozen? ⟨w.heap.size, o, none⟩ = false := fun o => frozen_of_row w' _ o _ _ pb1
                  have hPB1 := Lib.hid pb1
                  clear pb1
                  have hPT1 := Lib.hid pt1
                  clear pt1
                  have hPF1 := Lib.hid pf1
                  clear pf1
                  clear hdep
                  refine StepG.mk rfl ?_; rw [ha0]; simp only [putL, Act.put, List.setIfInBounds_toArray, List.set_cons_zero, List.set_cons_succ]
                  go_wp2_with fail
                  refine HK.out _ _ ?_
                  refine ⟨(.agg #[.int .i64 U, .int .i64 V]), v6, (by rw [ha0]; simp only [putL, Act.put, List.setIfInBounds_toArray, List.set_cons_zero, List.set_cons_succ]), ?_, ?_, ?_, ?_, trivial⟩
                  · obtain ⟨h35, h6, _⟩ := hR.out
                    exact Lib.hid ⟨fun _ => rfl, fun h => h6 (by simpa using h), trivial⟩
                  · exact hX
                  · exact ⟨_, _, hPB1.out, fun h => hPT1.out (by simpa using h), fun h => ⟨rfl, rfl⟩⟩
                  · exact fun h => (by have h1 := hQ1 (by simpa using h); simp [h1])
                case x5hs1 =>
                  intro s a' w' hsk hdep hI K hK
                  try dsimp only at hI hK
                  obtain ⟨v35, v6, hact, hR, hX, hP1, hQ1, _⟩ := hI
                  subst hact
                  have HK := Lib.hid hK
                  clear hK
                  have kc0 : w'.cell? ⟨g7, 0, none⟩ = some (.int .i64 U) := hX.cell (by first | (simp; done) | (simp; omega)) (by first | assumption | (go_simp; done) | (simp; done))
                  have kc1 : w'.cell? ⟨g7, 1, none⟩ = some (.int .i64 V) := hX.cell (by first | (simp; done) | (simp; omega)) (by first | assumption | (go_simp; done) | (simp; done))
                  obtain ⟨b1_0, b1_1, pb1, pt1, pf1⟩ := hP1
                  have hs0 : s 2 = false := Bool.eq_false_iff.2 fun h => (by have := hQ1 h; simp [hsk] at this)
                  obtain ⟨q1_0, q1_1⟩ := pf1 hs0
                  subst q1_0
                  subst q1_1
                  clear hs0
                  have kp1_0 := cell_of_row w' (w.heap.size) 0 _ _ _ pb1
                  have kp1_1 := cell_of_row w' (w.heap.size) 1 _ _ _ pb1
                  simp only [List.getElem?_toArray, List.getElem?_cons_zero, List.getElem?_cons_succ] at kp1_0 kp1_1
                  have kq1 : ∀ o, w'.frozen? ⟨w.heap.size, o, none⟩ = false := fun o => frozen_of_row w' _ o _ _ pb1
                  have hPB1 := Lib.hid pb1
                  clear pb1
                  have hPT1 := Lib.hid pt1
                  clear pt1
                  have hPF1 := Lib.hid pf1
                  clear pf1
                  clear hdep
                  refine StepG.mk rfl ?_; rw [ha0]; simp only [putL, Act.put, List.setIfInBounds_toArray, List.set_cons_zero, List.set_cons_succ]
                  go_wp2_with fail
                  refine HK.out _ _ ?_
                  refine ⟨v35, (.int .u8 49), (by rw [ha0]; simp only [putL, Act.put, List.setIfInBounds_toArray, List.set_cons_zero, List.set_cons_succ]), ?_, ?_, ?_, ?_, trivial⟩
                  · obtain ⟨h35, h6, _⟩ := hR.out
                    exact Lib.hid ⟨fun h => h35 (by simpa using h), fun _ => rfl, trivial⟩
                  · exact hX
                  · exact ⟨_, _, hPB1.out, fun h => hPT1.out (by simpa using h), fun h => ⟨rfl, rfl⟩⟩
                  · exact fun h => (by have h1 := hQ1 (by simpa using h); simp [h1])
                case x5hs2 =>
                  intro s a' w' hsk hdep hI K hK
                  try dsimp only at hI hK
                  obtain ⟨v35, v6, hact, hR, hX, hP1, hQ1, _⟩ := hI
                  subst hact
                  have HK := Lib.hid hK
                  clear hK
                  have e35 : v35 = .agg #[.int .i64 U, .int .i64 V] := by obtain ⟨h35, h6, _⟩ := hR.out; exact h35 (hdep ⟨0, .data⟩ (by simp) rfl)
                  subst e35
                  have kc0 : w'.cell? ⟨g7, 0, none⟩ = some (.int .i64 U) := hX.cell (by first | (simp; done) | (simp; omega)) (by first | assumption | (go_simp; done) | (simp; done))
                  have kc1 : w'.cell? ⟨g7, 1, none⟩ = some (.int .i64 V) := hX.cell (by first | (simp; done) | (simp; omega)) (by first | assumption | (go_simp; done) | (simp; done))
                  obtain ⟨b1_0, b1_1, pb1, pt1, pf1⟩ := hP1
                  have hs0 : s 2 = false := hsk
                  obtain ⟨q1_0, q1_1⟩ := pf1 hs0
                  subst q1_0
                  subst q1_1
                  clear hs0
                  have kp1_0 := cell_of_row w' (w.heap.size) 0 _ _ _ pb1
                  have kp1_1 := cell_of_row w' (w.heap.size) 1 _ _ _ pb1
                  simp only [List.getElem?_toArray, List.getElem?_cons_zero, List.getElem?_cons_succ] at kp1_0 kp1_1
                  have kq1 : ∀ o, w'.frozen? ⟨w.heap.size, o, none⟩ = false := fun o => frozen_of_row w' _ o _ _ pb1
                  have hPB1 := Lib.hid pb1
                  clear pb1
                  have hPT1 := Lib.hid pt1
                  clear pt1
                  have hPF1 := Lib.hid pf1
                  clear pf1
                  have hd0 : s 0 = true := hdep ⟨0, .data⟩ (by simp) rfl
                  have hd1 : s 1 = true := hdep ⟨1, .chain⟩ (by simp) rfl
                  clear hdep
                  refine StepG.mk rfl ?_; rw [ha0]; simp only [putL, Act.put, List.setIfInBounds_toArray, List.set_cons_zero, List.set_cons_succ]
                  go_wp2_with fail
                  refine HK.out _ _ ?_
                  refine ⟨(.agg #[.int .i64 U, .int .i64 V]), v6, (by rw [ha0]; simp only [putL, Act.put, List.setIfInBounds_toArray, List.set_cons_zero, List.set_cons_succ]), ?_, ?_, ?_, ?_, trivial⟩
                  · obtain ⟨h35, h6, _⟩ := hR.out
                    exact Lib.hid ⟨fun _ => rfl, fun h => h6 (by simpa using h), trivial⟩
                  · exact ((hX.setOld (p := ⟨w.heap.size, 0, none⟩) (by simp) _).setOld (p := ⟨w.heap.size, 1, none⟩) (by simp) _)
                  · exact ⟨_, _, blk_set2 hPB1.out, fun _ => ⟨rfl, rfl⟩, fun h => (by simp at h)⟩
                  · exact fun _ => (by simp [hd0, hd1])
                intro s a' w11 hall hI
                try dsimp only at hI
                obtain ⟨v35, v6, hact, hR, hXR, hP1, hQ1, _⟩ := hI
                subst hact
                obtain ⟨h35, h6, _⟩ := hR.out
                clear hR
                have e35 := h35 (hall 0 (by decide))
                subst e35
                clear h35
                have e6 := h6 (hall 1 (by decide))
                subst e6
                clear h6
                obtain ⟨c0, c1, pblkR1, hpt, _⟩ := hP1
                clear hQ1
                obtain ⟨es0, es1⟩ := hpt (hall 2 (by decide))
                subst es0
                subst es1
                clear hpt
                try clear pblk1
                have pblk1 := pblkR1
                clear pblkR1
                clear hall
                rw [ha0]; simp only [putL, Act.put, List.setIfInBounds_toArray, List.set_cons_zero, List.set_cons_succ]
                clear ha0
                have B11 : Below w.heap.size w w11 := hXR.below (by first | assumption | exact (by repeat (first | exact Below.refl _ _ | exact Nat.le_refl _ | refine Below.alloc ?_ ?_ _ | refine Below.setCell ?_ ?_ _ | refine Below.drew ?_ | refine bl_drewN ?_ _ | (assumption) | refine bl_call ?_ (by assumption) ?_ | omega | (simp <;> omega)))) (by first | omega | (simp <;> omega)) (by simp <;> omega)
                have hpE : Pows w11 P := (hXR.block P hPw (by simp <;> omega)).trans HP10.out
                have XE := pblk1
                have IE := isBuilder_belX HI10.out hXR (by simp <;> omega)
                have BE := B11
                have hzE := isBuilder_lt IE
                clear hXR HP10 HI10 HY10 z0 z1 pblk1 B11 B10 hPw hXw
                by_cases hU : U = 0 ∧ V = 0
                · obtain ⟨rfl, rfl⟩ := hU
                  have HFIN := Lib.hid (show (D ++ [46]) ++ [49] = ALL by rw [← HN.out, GM.frac_zero])
                  have hlenD : (D ++ [46]).length ≤ 100 := by first | omega | (simp; omega)
                  go_wp2_with (first
                    | (go_at_call 79; refine (writeByte_any b0 b0 _ 49 _ IE (by rw [Lib.byteCells_length]; omega) (Nat.le_of_lt hzE)).mono ?_; rintro e w12 ⟨rfl, hI12, hb12⟩; have X12 := (hb12.block _ hXb).trans XE; have hp12 : Pows w12 P := (hb12.block _ hPb).trans hpE; have B12 := bl_call BE hb12 (Nat.le_of_lt hXb); have I12 : Lib.IsBuilder 83 5 b0 b0 (Lib.byteCells ((D ++ [46]) ++ [49])) w12 := (by rw [Lib.byteCells_append]; exact .inr hI12); have d0 := row2_0 X12; have d1 := row2_1 X12; have HX12 := Lib.hid X12; have HI12 := Lib.hid I12; have HP12 := Lib.hid hp12; have hz12 := isBuilder_lt I12; clear hI12 hb12 X12 hp12 I12 XE hpE IE BE hzE)
                    | fail)
                  have hAL : ALL.length ≤ 1000000 := by rw [← HFIN.out]; first | omega | (simp; omega)
                  have htl := fun wx => trimLeft0 ALL wx hAL
                  rcases HTC.out with ⟨hT, hX⟩ | ⟨l, hT, hX⟩ | ⟨c, l, hT, hcne, hX⟩
                  · rw [hT] at htl
                    have HTL := Lib.hid htl
                    have HTX := Lib.hid hX
                    clear htl hT hX
                    go_wp2_with (first
                      | (go_at_call 55; refine (demand_yes _ _).mono ?_; rintro e w' ⟨rfl, rfl⟩)
                      | (go_at_call 81; refine (builderString_any b0 b0 ((D ++ [46]) ++ [49]) _ HI12.out (Nat.le_of_lt hz12)).mono ?_; rintro e w13 ⟨rfl, hb13⟩; rw [HFIN.out]; have B13 := bl_call B12 hb13 (Nat.le_of_lt hXb))
                      | (go_at_call 80; refine (HTL.out _).mono ?_; rintro e w' ⟨rfl, rfl⟩)
                      | fail)
                    go_ret
                    exact ⟨by rw [HTX.out]; rfl, B13⟩
                  · rw [hT] at htl
                    obtain ⟨t1, t2, t3, t4⟩ := str_cons 46 l
                    have happ := str_nought (46 :: l)
                    have tsz : (⟨(46 :: l).toArray⟩ : ByteArray).size ≤ ALL.length := by
                      rw [str_size, ← hT]; exact (List.dropWhile_sublist _).length_le
                    rw [← hX] at happ
                    have HAPP := Lib.hid happ
                    clear happ hX hT
                    generalize (⟨(46 :: l).toArray⟩ : ByteArray) = t at *
                    have tsz2 : ¬ 9223372036854775807 < 1 + t.size := by omega
                    have t5 : (t[0]'t3).toNat = 46 := by rw [t4]; rfl
                    have t6 : (((t[0]'t3).toNat : Int) == 46) = true := by rw [t5]; rfl
                    have t7 : ((t[0]'t3).toNat : Int) = 46 := by rw [t5]; rfl
                    have HTL := Lib.hid htl
                    clear htl t4 t5
                    go_wp2_with (first
                      | (go_at_call 55; refine (demand_yes _ _).mono ?_; rintro e w' ⟨rfl, rfl⟩)
                      | (go_at_call 81; refine (builderString_any b0 b0 ((D ++ [46]) ++ [49]) _ HI12.out (Nat.le_of_lt hz12)).mono ?_; rintro e w13 ⟨rfl, hb13⟩; rw [HFIN.out]; have B13 := bl_call B12 hb13 (Nat.le_of_lt hXb))
                      | (go_at_call 80; refine (HTL.out _).mono ?_; rintro e w' ⟨rfl, rfl⟩)
                      | fail)
                    go_ret
                    exact ⟨by rw [← HAPP.out]; rfl, B13⟩
                  · rw [hT] at htl
                    obtain ⟨t1, t2, t3, t4⟩ := str_cons c l
                    have happ : (⟨(c :: l).toArray⟩ : ByteArray) = ⟨(GM.textOf (a, b)).toArray⟩ := by rw [hX]
                    have HAPP := Lib.hid happ
                    clear happ hX hT
                    generalize (⟨(c :: l).toArray⟩ : ByteArray) = t at *
                    have t5 : ¬ ((t[0]'t3).toNat : Int) = 46 := by
                      rw [t4]; intro h
                      exact hcne (UInt8.toNat_inj.1 (by simpa using (by exact_mod_cast h : c.toNat = 46)))
                    have t6 : (((t[0]'t3).toNat : Int) == 46) = false := by simpa using t5
                    have HTL := Lib.hid htl
                    clear htl t4
                    go_wp2_with (first
                      | (go_at_call 55; refine (demand_yes _ _).mono ?_; rintro e w' ⟨rfl, rfl⟩)
                      | (go_at_call 81; refine (builderString_any b0 b0 ((D ++ [46]) ++ [49]) _ HI12.out (Nat.le_of_lt hz12)).mono ?_; rintro e w13 ⟨rfl, hb13⟩; rw [HFIN.out]; have B13 := bl_call B12 hb13 (Nat.le_of_lt hXb))
                      | (go_at_call 80; refine (HTL.out _).mono ?_; rintro e w' ⟨rfl, rfl⟩)
                      | fail)
                    go_ret
                    exact ⟨by rw [← HAPP.out]; rfl, B13⟩
                · skip
                  have hlenD : (D ++ [46]).length ≤ 100 := by first | omega | (simp; omega)
                  go_wp2_with (first
                    | (go_at_call 79; refine (writeByte_any b0 b0 _ 49 _ IE (by rw [Lib.byteCells_length]; omega) (Nat.le_of_lt hzE)).mono ?_; rintro e w12 ⟨rfl, hI12, hb12⟩; have X12 := (hb12.block _ hXb).trans XE; have hp12 : Pows w12 P := (hb12.block _ hPb).trans hpE; have B12 := bl_call BE hb12 (Nat.le_of_lt hXb); have I12 : Lib.IsBuilder 83 5 b0 b0 (Lib.byteCells ((D ++ [46]) ++ [49])) w12 := (by rw [Lib.byteCells_append]; exact .inr hI12); have d0 := row2_0 X12; have d1 := row2_1 X12; have HX12 := Lib.hid X12; have HI12 := Lib.hid I12; have HP12 := Lib.hid hp12; have hz12 := isBuilder_lt I12; clear hI12 hb12 X12 hp12 I12 XE hpE IE BE hzE)
                    | fail)
                  all_goals (
                    go_roundw
                    case rel => exact ⟨39, U, V, (D ++ [46]) ++ [49], congrArg (Value.int .i64) (by omega), by omega, fun _ => hU, HLN, Lib.hid (by rw [GM.fut_lt _ _ (by omega), ← HN.out]; simp), by first | omega | (simp; omega), HX12.out, HP12.out, HI12.out, B12⟩
                    case measure => first | (simp [intOf]; omega) | (simp [intOf]; done))
              · obtain ⟨en, ed⟩ := HX2'.out hsg
                rw [en, ed] at HN
                rw [en] at HLN
                clear HX1 HX2'
                go_upto_region 14 with (first
                  | (go_at_call 68; refine (HSG.out _).mono ?_; rintro e w10 ⟨rfl, hb10⟩; have hpE : Pows w10 P := blk_call hb10 hp9; have XE := blk_call hb10 X9; have IE := isBuilder_belX I9 (BelX.ofBelow hb10) (by simp); have BE := bl_call B9 hb10 (by omega); have hzE := isBuilder_lt IE; clear hp9 X9 I9 B9 hb10 y0 y1 HBK hgs9)
                  | fail)
                have hlenD : (D ++ [46]).length ≤ 100 := by first | omega | (simp; omega)
                go_wp2_with (first
                  | (go_at_call 79; refine (writeByte_any b0 b0 _ 48 _ IE (by rw [Lib.byteCells_length]; omega) (Nat.le_of_lt hzE)).mono ?_; rintro e w12 ⟨rfl, hI12, hb12⟩; have X12 := (hb12.block _ hXb).trans XE; have hp12 : Pows w12 P := (hb12.block _ hPb).trans hpE; have B12 := bl_call BE hb12 (Nat.le_of_lt hXb); have I12 : Lib.IsBuilder 83 5 b0 b0 (Lib.byteCells ((D ++ [46]) ++ [48])) w12 := (by rw [Lib.byteCells_append]; exact .inr hI12); have d0 := row2_0 X12; have d1 := row2_1 X12; have HX12 := Lib.hid X12; have HI12 := Lib.hid I12; have HP12 := Lib.hid hp12; have hz12 := isBuilder_lt I12; clear hI12 hb12 X12 hp12 I12 XE hpE IE BE hzE)
                  | fail)
                all_goals (
                  go_roundw
                  case rel => exact ⟨39, X, Y, (D ++ [46]) ++ [48], congrArg (Value.int .i64) (by omega), by omega, fun _ => hz, HLN, Lib.hid (by rw [GM.fut_lt _ _ (by omega), ← HN.out]; simp), by first | omega | (simp; omega), HX12.out, HP12.out, HI12.out, B12⟩
                  case measure => first | (simp [intOf]; omega) | (simp [intOf]; done))
            · skip
              go_upto_region 11 with (first
                | (go_at_call 79; refine (writeByte_any b0 b0 _ 46 _ HI.out (by rw [Lib.byteCells_length]; omega) (Nat.le_of_lt hbs)).mono ?_; rintro e w8 ⟨rfl, hI8, hb8⟩; have X8 := (hb8.block _ hXb).trans HX0.out; have hp8 : Pows w8 P := (hb8.block _ hPb).trans HHP.out; have B8 := bl_call B hb8 (Nat.le_of_lt hXb); have I8 : Lib.IsBuilder 83 5 b0 b0 (Lib.byteCells (D ++ [46])) w8 := (by rw [Lib.byteCells_append]; exact .inr hI8); have c0' := row2_0 X8; have c1' := row2_1 X8; have f0' := row_f X8; clear HX0 HHP HI B c0 c1 f0 hbs; have HX0 := Lib.hid X8; have HI := Lib.hid I8; have HHP := Lib.hid hp8; have hbs := isBuilder_lt I8; have B := B8; have c0 := c0'; have c1 := c1'; have f0 := f0'; clear c0' c1' f0' hI8 hb8 X8 hp8 I8 B8)
                | fail)
              clear hX0 hY0
              obtain ⟨⟨px, py⟩, hpt⟩ : ∃ p, GM.pt 39 = p := ⟨_, rfl⟩
              have hsb := GM.step_bd 39 (by omega) (X, Y) HL.out
              rw [hpt] at hsb
              dsimp only at hsb
              obtain ⟨s1, s2, s3, s4, s5, s6, s7, s8⟩ := hsb
              have hpb := pt_bd ⟨39, by omega⟩
              dsimp only at hpb
              rw [hpt] at hpb
              dsimp only at hpb
              obtain ⟨p1, p2, p3, p4⟩ := hpb
              have hof := fun wx h => of_any P (-1) 39 wx h (by omega) (by omega)
              rw [hpt] at hof
              have htm := fun wx => times_any px py (-1) wx (by omega) (by omega) (by omega) (by omega)
              obtain ⟨qx, hqx⟩ : ∃ qx, -1 * px = qx := ⟨_, rfl⟩
              obtain ⟨qy, hqy⟩ : ∃ qy, -1 * py = qy := ⟨_, rfl⟩
              rw [hqx, hqy] at htm
              have hpl := fun wx => plus_any X Y qx qy wx (by omega) (by omega) (by omega) (by omega)
              obtain ⟨U, hU⟩ : ∃ U, X + qx = U := ⟨_, rfl⟩
              obtain ⟨V, hV⟩ : ∃ V, Y + qy = V := ⟨_, rfl⟩
              rw [hU, hV] at hpl
              have eU : X - px = U := by omega
              have eV : Y - py = V := by omega
              rw [eU] at s1 s2
              rw [eV] at s3 s4
              have hsg := fun wx => sign_any U V wx s1 s2 s3 s4
              obtain ⟨sg, hsgn⟩ : ∃ sg, GM.sgn U V = sg := ⟨_, rfl⟩
              rw [hsgn] at hsg
              have hdg : GM.dgx 39 (X, Y) = decide (0 ≤ sg) := by unfold GM.dgx; rw [hpt]; dsimp only; rw [eU, eV, hsgn]
              have hnx1 : 0 ≤ sg → GM.nxx 39 (X, Y) = (U, V) ∧ GM.dgt 39 (X, Y) = 49 := by
                intro h
                have hd : GM.dgx 39 (X, Y) = true := by rw [hdg]; exact decide_eq_true h
                refine ⟨?_, ?_⟩
                · unfold GM.nxx
                  rw [hd, hpt]
                  show (X - px, Y - py) = _
                  rw [eU, eV]
                · unfold GM.dgt
                  rw [hd]; rfl
              have hnx2 : ¬ 0 ≤ sg → GM.nxx 39 (X, Y) = (X, Y) ∧ GM.dgt 39 (X, Y) = 48 := by
                intro h
                have hd : GM.dgx 39 (X, Y) = false := by rw [hdg]; exact decide_eq_false h
                refine ⟨?_, ?_⟩
                · unfold GM.nxx
                  rw [hd]; rfl
                · unfold GM.dgt
                  rw [hd]; rfl
              have hln := GM.lefts_next 39 (X, Y) HL.out
              have HLN := Lib.hid hln
              have HOF := Lib.hid hof
              have HTM := Lib.hid htm
              have HPL := Lib.hid hpl
              have HSG := Lib.hid hsg
              have HX1 := Lib.hid hnx1
              have HX2' := Lib.hid hnx2
              have hPw : P < w8.heap.size := by omega
              have hXw : w.heap.size < w8.heap.size := by omega
              clear hof htm hpl hsg hnx1 hnx2 hdg hln hpt hqx hqy hU hV eU eV hsgn s1 s2 s3 s4 s5 s6 s7 s8 p1 p2 p3 p4
              refine with_act fun a0 ha0 => ?_
              refine wp_region_inv (by kernel_rfl) (by kernel_rfl) (fun s a' w' => ∃ v27 v28 v29 v30 v31 v7 : Value, a' = putL a0 [(27, v27), (28, v28), (29, v29), (30, v30), (31, v31), (7, v7)] ∧ Hid ((s 0 = true → v27 = .agg #[.int .i64 X, .int .i64 Y]) ∧ (s 1 = true → v28 = .int .i64 (-1)) ∧ (s 2 = true → v29 = .agg #[.int .i64 px, .int .i64 py]) ∧ (s 3 = true → v30 = .agg #[.int .i64 qx, .int .i64 qy]) ∧ (s 4 = true → v31 = .agg #[.int .i64 U, .int .i64 V]) ∧ True) ∧ BelX [] w8 w' ∧ (s 5 = true → ∃ (g : Nat) (c0 c1 : Value), v7 = .pointer (some ⟨g, 0, none⟩) ∧ w8.heap.size ≤ g ∧ w'.heap[g]? = some (.cells #[c0, c1] 23 (0, 0)) ∧ (s 6 = true → c0 = .int .i64 U ∧ c1 = .int .i64 V)) ∧ (s 6 = true → s 5 = true) ∧ True) ?x6hzero ⟨?x6hs0, ?x6hs1, ?x6hs2, ?x6hs3, ?x6hs4, ?x6hs5, ?x6hs6, trivial⟩ ?x6hdone
              case x6hzero =>
                refine ⟨a0.tmps.getD 27 undef, a0.tmps.getD 28 undef, a0.tmps.getD 29 undef, a0.tmps.getD 30 undef, a0.tmps.getD 31 undef, a0.tmps.getD 7 undef, ?_, ?_, ?_, ?_, ?_, trivial⟩
                · simp only [putL, put_self]
                · exact Lib.hid ⟨fun h => (by simp at h), fun h => (by simp at h), fun h => (by simp at h), fun h => (by simp at h), fun h => (by simp at h), trivial⟩
                · exact BelX.start _ _
                · exact fun h => (by simp at h)
                · exact fun h => (by simp at h)
              case x6hs0 =>
                intro s a' w' hsk hdep hI K hK
                try dsimp only at hI hK
                obtain ⟨v27, v28, v29, v30, v31, v7, hact, hR, hX, hA7, hN7, _⟩ := hI
                subst hact
                have HK := Lib.hid hK
                clear hK
                have kc0 : w'.cell? ⟨w.heap.size, 0, none⟩ = some (.int .i64 X) := hX.cell (by first | (simp; done) | (simp; omega)) (by first | assumption | (go_simp; done) | (simp; done))
                have kc1 : w'.cell? ⟨w.heap.size, 1, none⟩ = some (.int .i64 Y) := hX.cell (by first | (simp; done) | (simp; omega)) (by first | assumption | (go_simp; done) | (simp; done))
                have kx0 := (show Pows w' P from (hX.block P hPw (by simp)).trans HHP.out)
                clear hdep
                refine StepG.mk rfl ?_; rw [ha0]; simp only [putL, Act.put, List.setIfInBounds_toArray, List.set_cons_zero, List.set_cons_succ]
                go_wp2_with fail
                refine HK.out _ _ ?_
                refine ⟨(.agg #[.int .i64 X, .int .i64 Y]), v28, v29, v30, v31, v7, (by rw [ha0]; simp only [putL, Act.put, List.setIfInBounds_toArray, List.set_cons_zero, List.set_cons_succ]), ?_, ?_, ?_, ?_, trivial⟩
                · obtain ⟨h27, h28, h29, h30, h31, _⟩ := hR.out
                  exact Lib.hid ⟨fun _ => rfl, fun h => h28 (by simpa using h), fun h => h29 (by simpa using h), fun h => h30 (by simpa using h), fun h => h31 (by simpa using h), trivial⟩
                · exact hX
                · intro h; obtain ⟨g, c0, c1, e, hg, hblk, hst⟩ := hA7 (by simpa using h); exact ⟨g, c0, c1, e, hg, hblk, fun h => hst (by simpa using h)⟩
                · exact fun h => (by have h1 := hN7 (by simpa using h); simp [h1])
              case x6hs1 =>
                intro s a' w' hsk hdep hI K hK
                try dsimp only at hI hK
                obtain ⟨v27, v28, v29, v30, v31, v7, hact, hR, hX, hA7, hN7, _⟩ := hI
                subst hact
                have HK := Lib.hid hK
                clear hK
                have kc0 : w'.cell? ⟨w.heap.size, 0, none⟩ = some (.int .i64 X) := hX.cell (by first | (simp; done) | (simp; omega)) (by first | assumption | (go_simp; done) | (simp; done))
                have kc1 : w'.cell? ⟨w.heap.size, 1, none⟩ = some (.int .i64 Y) := hX.cell (by first | (simp; done) | (simp; omega)) (by first | assumption | (go_simp; done) | (simp; done))
                have kx0 := (show Pows w' P from (hX.block P hPw (by simp)).trans HHP.out)
                clear hdep
                refine StepG.mk rfl ?_; rw [ha0]; simp only [putL, Act.put, List.setIfInBounds_toArray, List.set_cons_zero, List.set_cons_succ]
                go_wp2_with fail
                refine HK.out _ _ ?_
                refine ⟨v27, (.int .i64 (-1)), v29, v30, v31, v7, (by rw [ha0]; simp only [putL, Act.put, List.setIfInBounds_toArray, List.set_cons_zero, List.set_cons_succ]), ?_, ?_, ?_, ?_, trivial⟩
                · obtain ⟨h27, h28, h29, h30, h31, _⟩ := hR.out
                  exact Lib.hid ⟨fun h => h27 (by simpa using h), fun _ => rfl, fun h => h29 (by simpa using h), fun h => h30 (by simpa using h), fun h => h31 (by simpa using h), trivial⟩
                · exact hX
                · intro h; obtain ⟨g, c0, c1, e, hg, hblk, hst⟩ := hA7 (by simpa using h); exact ⟨g, c0, c1, e, hg, hblk, fun h => hst (by simpa using h)⟩
                · exact fun h => (by have h1 := hN7 (by simpa using h); simp [h1])
              case x6hs2 =>
                intro s a' w' hsk hdep hI K hK
                try dsimp only at hI hK
                obtain ⟨v27, v28, v29, v30, v31, v7, hact, hR, hX, hA7, hN7, _⟩ := hI
                subst hact
                have HK := Lib.hid hK
                clear hK
                have e28 : v28 = .int .i64 (-1) := by obtain ⟨h27, h28, h29, h30, h31, _⟩ := hR.out; exact h28 (hdep ⟨1, .data⟩ (by simp) rfl)
                subst e28
                have kc0 : w'.cell? ⟨w.heap.size, 0, none⟩ = some (.int .i64 X) := hX.cell (by first | (simp; done) | (simp; omega)) (by first | assumption | (go_simp; done) | (simp; done))
                have kc1 : w'.cell? ⟨w.heap.size, 1, none⟩ = some (.int .i64 Y) := hX.cell (by first | (simp; done) | (simp; omega)) (by first | assumption | (go_simp; done) | (simp; done))
                have kx0 := (show Pows w' P from (hX.block P hPw (by simp)).trans HHP.out)
                clear hdep
                refine StepG.mk rfl ?_; rw [ha0]; simp only [putL, Act.put, List.setIfInBounds_toArray, List.set_cons_zero, List.set_cons_succ]
                go_wp2_with fail
                refine ((HOF.out _ kx0)).mono ?_
                rintro e wn ⟨rfl, hb⟩
                go_wp2_with fail
                refine HK.out _ _ ?_
                refine ⟨v27, (.int .i64 (-1)), (.agg #[.int .i64 px, .int .i64 py]), v30, v31, v7, (by rw [ha0]; simp only [putL, Act.put, List.setIfInBounds_toArray, List.set_cons_zero, List.set_cons_succ]), ?_, ?_, ?_, ?_, trivial⟩
                · obtain ⟨h27, h28, h29, h30, h31, _⟩ := hR.out
                  exact Lib.hid ⟨fun h => h27 (by simpa using h), fun _ => rfl, fun _ => rfl, fun h => h30 (by simpa using h), fun h => h31 (by simpa using h), trivial⟩
                · exact hX.call hb
                · intro h; obtain ⟨g, c0, c1, e, hg, hblk, hst⟩ := hA7 (by simpa using h); exact ⟨g, c0, c1, e, hg, (hb.block g (blk_lt hblk)).trans hblk, fun h => hst (by simpa using h)⟩
                · exact fun h => (by have h1 := hN7 (by simpa using h); simp [h1])
              case x6hs3 =>
                intro s a' w' hsk hdep hI K hK
                try dsimp only at hI hK
                obtain ⟨v27, v28, v29, v30, v31, v7, hact, hR, hX, hA7, hN7, _⟩ := hI
                subst hact
                have HK := Lib.hid hK
                clear hK
                have e29 : v29 = .agg #[.int .i64 px, .int .i64 py] := by obtain ⟨h27, h28, h29, h30, h31, _⟩ := hR.out; exact h29 (hdep ⟨2, .data⟩ (by simp) rfl)
                subst e29
                have kc0 : w'.cell? ⟨w.heap.size, 0, none⟩ = some (.int .i64 X) := hX.cell (by first | (simp; done) | (simp; omega)) (by first | assumption | (go_simp; done) | (simp; done))
                have kc1 : w'.cell? ⟨w.heap.size, 1, none⟩ = some (.int .i64 Y) := hX.cell (by first | (simp; done) | (simp; omega)) (by first | assumption | (go_simp; done) | (simp; done))
                have kx0 := (show Pows w' P from (hX.block P hPw (by simp)).trans HHP.out)
                clear hdep
                refine StepG.mk rfl ?_; rw [ha0]; simp only [putL, Act.put, List.setIfInBounds_toArray, List.set_cons_zero, List.set_cons_succ]
                go_wp2_with fail
                refine ((HTM.out _)).mono ?_
                rintro e wn ⟨rfl, hb⟩
                go_wp2_with fail
                refine HK.out _ _ ?_
                refine ⟨v27, v28, (.agg #[.int .i64 px, .int .i64 py]), (.agg #[.int .i64 qx, .int .i64 qy]), v31, v7, (by rw [ha0]; simp only [putL, Act.put, List.setIfInBounds_toArray, List.set_cons_zero, List.set_cons_succ]), ?_, ?_, ?_, ?_, trivial⟩
                · obtain ⟨h27, h28, h29, h30, h31, _⟩ := hR.out
                  exact Lib.hid ⟨fun h => h27 (by simpa using h), fun h => h28 (by simpa using h), fun _ => rfl, fun _ => rfl, fun h => h31 (by simpa using h), trivial⟩
                · exact hX.call hb
                · intro h; obtain ⟨g, c0, c1, e, hg, hblk, hst⟩ := hA7 (by simpa using h); exact ⟨g, c0, c1, e, hg, (hb.block g (blk_lt hblk)).trans hblk, fun h => hst (by simpa using h)⟩
                · exact fun h => (by have h1 := hN7 (by simpa using h); simp [h1])
              case x6hs4 =>
                intro s a' w' hsk hdep hI K hK
                try dsimp only at hI hK
                obtain ⟨v27, v28, v29, v30, v31, v7, hact, hR, hX, hA7, hN7, _⟩ := hI
                subst hact
                have HK := Lib.hid hK
                clear hK
                have e27 : v27 = .agg #[.int .i64 X, .int .i64 Y] := by obtain ⟨h27, h28, h29, h30, h31, _⟩ := hR.out; exact h27 (hdep ⟨0, .data⟩ (by simp) rfl)
                subst e27
                have e30 : v30 = .agg #[.int .i64 qx, .int .i64 qy] := by obtain ⟨h27, h28, h29, h30, h31, _⟩ := hR.out; exact h30 (hdep ⟨3, .data⟩ (by simp) rfl)
                subst e30
                have kc0 : w'.cell? ⟨w.heap.size, 0, none⟩ = some (.int .i64 X) := hX.cell (by first | (simp; done) | (simp; omega)) (by first | assumption | (go_simp; done) | (simp; done))
                have kc1 : w'.cell? ⟨w.heap.size, 1, none⟩ = some (.int .i64 Y) := hX.cell (by first | (simp; done) | (simp; omega)) (by first | assumption | (go_simp; done) | (simp; done))
                have kx0 := (show Pows w' P from (hX.block P hPw (by simp)).trans HHP.out)
                clear hdep
                refine StepG.mk rfl ?_; rw [ha0]; simp only [putL, Act.put, List.setIfInBounds_toArray, List.set_cons_zero, List.set_cons_succ]
                go_wp2_with fail
                refine ((HPL.out _)).mono ?_
                rintro e wn ⟨rfl, hb⟩
                go_wp2_with fail
                refine HK.out _ _ ?_
                refine ⟨(.agg #[.int .i64 X, .int .i64 Y]), v28, v29, (.agg #[.int .i64 qx, .int .i64 qy]), (.agg #[.int .i64 U, .int .i64 V]), v7, (by rw [ha0]; simp only [putL, Act.put, List.setIfInBounds_toArray, List.set_cons_zero, List.set_cons_succ]), ?_, ?_, ?_, ?_, trivial⟩
                · obtain ⟨h27, h28, h29, h30, h31, _⟩ := hR.out
                  exact Lib.hid ⟨fun _ => rfl, fun h => h28 (by simpa using h), fun h => h29 (by simpa using h), fun _ => rfl, fun _ => rfl, trivial⟩
                · exact hX.call hb
                · intro h; obtain ⟨g, c0, c1, e, hg, hblk, hst⟩ := hA7 (by simpa using h); exact ⟨g, c0, c1, e, hg, (hb.block g (blk_lt hblk)).trans hblk, fun h => hst (by simpa using h)⟩
                · exact fun h => (by have h1 := hN7 (by simpa using h); simp [h1])
              case x6hs5 =>
                intro s a' w' hsk hdep hI K hK
                try dsimp only at hI hK
                obtain ⟨v27, v28, v29, v30, v31, v7, hact, hR, hX, hA7, hN7, _⟩ := hI
                subst hact
                have HK := Lib.hid hK
                clear hK
                have kc0 : w'.cell? ⟨w.heap.size, 0, none⟩ = some (.int .i64 X) := hX.cell (by first | (simp; done) | (simp; omega)) (by first | assumption | (go_simp; done) | (simp; done))
                have kc1 : w'.cell? ⟨w.heap.size, 1, none⟩ = some (.int .i64 Y) := hX.cell (by first | (simp; done) | (simp; omega)) (by first | assumption | (go_simp; done) | (simp; done))
                have kx0 := (show Pows w' P from (hX.block P hPw (by simp)).trans HHP.out)
                clear hdep
                refine StepG.mk rfl ?_; rw [ha0]; simp only [putL, Act.put, List.setIfInBounds_toArray, List.set_cons_zero, List.set_cons_succ]
                go_wp2_with fail
                refine HK.out _ _ ?_
                refine ⟨v27, v28, v29, v30, v31, (.pointer (some ⟨w'.heap.size, 0, none⟩)), (by rw [ha0]; simp only [putL, Act.put, List.setIfInBounds_toArray, List.set_cons_zero, List.set_cons_succ]), ?_, ?_, ?_, ?_, trivial⟩
                · obtain ⟨h27, h28, h29, h30, h31, _⟩ := hR.out
                  exact Lib.hid ⟨fun h => h27 (by simpa using h), fun h => h28 (by simpa using h), fun h => h29 (by simpa using h), fun h => h30 (by simpa using h), fun h => h31 (by simpa using h), trivial⟩
                · exact hX.alloc _
                · exact fun _ => ⟨w'.heap.size, .int .i64 0, .int .i64 0, rfl, hX.size, blk_new w' _, fun h => (by have h1 := hN7 (by simpa using h); rw [h1] at hsk; cases hsk)⟩
                · exact fun _ => rfl
              case x6hs6 =>
                intro s a' w' hsk hdep hI K hK
                try dsimp only at hI hK
                obtain ⟨v27, v28, v29, v30, v31, v7, hact, hR, hX, hA7, hN7, _⟩ := hI
                subst hact
                have HK := Lib.hid hK
                clear hK
                have e31 : v31 = .agg #[.int .i64 U, .int .i64 V] := by obtain ⟨h27, h28, h29, h30, h31, _⟩ := hR.out; exact h31 (hdep ⟨4, .data⟩ (by simp) rfl)
                subst e31
                obtain ⟨g, c0, c1, ev, hg, hblk, hst⟩ := hA7 (hdep ⟨5, .data⟩ (by simp) rfl)
                subst ev
                have kc0 : w'.cell? ⟨w.heap.size, 0, none⟩ = some (.int .i64 X) := hX.cell (by first | (simp; done) | (simp; omega)) (by first | assumption | (go_simp; done) | (simp; done))
                have kc1 : w'.cell? ⟨w.heap.size, 1, none⟩ = some (.int .i64 Y) := hX.cell (by first | (simp; done) | (simp; omega)) (by first | assumption | (go_simp; done) | (simp; done))
                have kx0 := (show Pows w' P from (hX.block P hPw (by simp)).trans HHP.out)
                have kb0 : w'.cell? ⟨g, 0, none⟩ = some c0 := cell_of_row w' g 0 _ _ _ hblk
                have kb1 : w'.cell? ⟨g, 1, none⟩ = some c1 := cell_of_row w' g 1 _ _ _ hblk
                have kf : ∀ o, w'.frozen? ⟨g, o, none⟩ = false := fun o => frozen_of_row w' g o _ _ hblk
                have hBlk := Lib.hid hblk
                clear hblk
                have hdepA : s 5 = true := hdep ⟨5, .data⟩ (by simp) rfl
                clear hdep
                refine StepG.mk rfl ?_; rw [ha0]; simp only [putL, Act.put, List.setIfInBounds_toArray, List.set_cons_zero, List.set_cons_succ]
                go_wp2_with fail
                refine HK.out _ _ ?_
                refine ⟨v27, v28, v29, v30, (.agg #[.int .i64 U, .int .i64 V]), (.pointer (some ⟨g, 0, none⟩)), (by rw [ha0]; simp only [putL, Act.put, List.setIfInBounds_toArray, List.set_cons_zero, List.set_cons_succ]), ?_, ?_, ?_, ?_, trivial⟩
                · obtain ⟨h27, h28, h29, h30, h31, _⟩ := hR.out
                  exact Lib.hid ⟨fun h => h27 (by simpa using h), fun h => h28 (by simpa using h), fun h => h29 (by simpa using h), fun h => h30 (by simpa using h), fun _ => rfl, trivial⟩
                · exact ((hX.setNew (p := ⟨g, 0, none⟩) hg _).setNew (p := ⟨g, 1, none⟩) hg _)
                · exact fun _ => ⟨g, _, _, rfl, hg, blk_set2 hBlk.out, fun _ => ⟨rfl, rfl⟩⟩
                · exact fun _ => (by simp [hdepA])
              intro s a' w9 hall hI
              try dsimp only at hI
              obtain ⟨v27, v28, v29, v30, v31, v7, hact, hR, hXR, hA7, hN7, _⟩ := hI
              subst hact
              obtain ⟨h27, h28, h29, h30, h31, _⟩ := hR.out
              clear hR
              have e27 := h27 (hall 0 (by decide))
              subst e27
              clear h27
              have e28 := h28 (hall 1 (by decide))
              subst e28
              clear h28
              have e29 := h29 (hall 2 (by decide))
              subst e29
              clear h29
              have e30 := h30 (hall 3 (by decide))
              subst e30
              clear h30
              have e31 := h31 (hall 4 (by decide))
              subst e31
              clear h31
              obtain ⟨g7, c0, c1, ev, hg7, hblk7, hst⟩ := hA7 (hall 5 (by decide))
              subst ev
              clear hA7 hN7
              obtain ⟨es0, es1⟩ := hst (hall 6 (by decide))
              subst es0
              subst es1
              clear hst
              clear hall
              rw [ha0]; simp only [putL, Act.put, List.setIfInBounds_toArray, List.set_cons_zero, List.set_cons_succ]
              clear ha0
              have B9 : Below w.heap.size w w9 := hXR.below (by first | assumption | exact (by repeat (first | exact Below.refl _ _ | exact Nat.le_refl _ | refine Below.alloc ?_ ?_ _ | refine Below.setCell ?_ ?_ _ | refine Below.drew ?_ | refine bl_drewN ?_ _ | (assumption) | refine bl_call ?_ (by assumption) ?_ | omega | (simp <;> omega)))) (by first | omega | (simp <;> omega)) (by simp <;> omega)
              have hp9 : Pows w9 P := (hXR.block P hPw (by simp)).trans HHP.out
              have X9 := (hXR.block _ hXw (by simp)).trans HX0.out
              have I9 := isBuilder_belX HI.out hXR (by simp)
              have hg9 : w8.heap.size ≤ g7 := by omega
              have hgs9 := blk_lt hblk7
              clear hXR HHP HX0 HI c0 c1 f0 hPw hXw HOF HTM HPL HL
              have y0 := row2_0 hblk7
              have y1 := row2_1 hblk7
              have hXg : w.heap.size ≠ g7 := by omega
              have hXg' : g7 ≠ w.heap.size := by omega
              have HBK := Lib.hid hblk7
              clear hblk7
              by_cases hsg : 0 ≤ sg
              · obtain ⟨en, ed⟩ := HX1.out hsg
                rw [en, ed] at HN
                rw [en] at HLN
                clear HX1 HX2'
                go_upto_region 13 with (first
                  | (go_at_call 68; refine (HSG.out _).mono ?_; rintro e w10 ⟨rfl, hb10⟩; have hp10 : Pows w10 P := blk_call hb10 hp9; have X10 := blk_call hb10 X9; have I10 := isBuilder_belX I9 (BelX.ofBelow hb10) (by simp); have B10 := bl_call B9 hb10 (by omega); have pblk1 := X10; have hY10 := blk_call hb10 HBK.out; have z0 := row2_0 hY10; have z1 := row2_1 hY10; have hz10 := isBuilder_lt I10; have HI10 := Lib.hid I10; have HP10 := Lib.hid hp10; have HY10 := Lib.hid hY10; clear hp9 X9 I9 B9 hb10 y0 y1 HBK hgs9 X10 hY10 hp10 I10)
                  | fail)
                have hXw : w.heap.size < w10.heap.size := blk_lt pblk1
                have hPw : P < w10.heap.size := by omega
                have pblk1 : w10.heap[w.heap.size]? = some (.cells #[.int .i64 X, .int .i64 Y] 23 (0, 0)) := by first | assumption | exact hblk1
                refine with_act fun a0 ha0 => ?_
                refine wp_region_inv (by kernel_rfl) (by kernel_rfl) (fun s a' w' => ∃ v35 v6 : Value, a' = putL a0 [(35, v35), (6, v6)] ∧ Hid ((s 0 = true → v35 = .agg #[.int .i64 U, .int .i64 V]) ∧ (s 1 = true → v6 = .int .u8 49) ∧ True) ∧ BelX [w.heap.size] w10 w' ∧ (∃ (c0 c1 : Value), w'.heap[w.heap.size]? = some (.cells #[c0, c1] 23 (0, 0)) ∧ (s 2 = true → c0 = .int .i64 U ∧ c1 = .int .i64 V) ∧ (s 2 = false → c0 = .int .i64 X ∧ c1 = .int .i64 Y)) ∧ (s 2 = true → s 0 = true ∧ s 1 = true ∧ True) ∧ True) ?x7hzero ⟨?x7hs0, ?x7hs1, ?x7hs2, trivial⟩ ?x7hdone
                case x7hzero =>
                  refine ⟨a0.tmps.getD 35 undef, a0.tmps.getD 6 undef, ?_, ?_, ?_, ?_, ?_, trivial⟩
                  · simp only [putL, put_self]
                  · exact Lib.hid ⟨fun h => (by simp at h), fun h => (by simp at h), trivial⟩
                  · exact BelX.start _ _
                  · exact ⟨.int .i64 X, .int .i64 Y, pblk1, fun h => (by simp at h), fun _ => ⟨rfl, rfl⟩⟩
                  · exact fun h => (by simp at h)
                case x7hs0 =>
                  intro s a' w' hsk hdep hI K hK
                  try dsimp only at hI hK
                  obtain ⟨v35, v6, hact, hR, hX, hP1, hQ1, _⟩ := hI
                  subst hact
                  have HK := Lib.hid hK
                  clear hK
                  have kc0 : w'.cell? ⟨g7, 0, none⟩ = some (.int .i64 U) := hX.cell (by first | (simp; done) | (simp; omega)) (by first | assumption | (go_simp; done) | (simp; done))
                  have kc1 : w'.cell? ⟨g7, 1, none⟩ = some (.int .i64 V) := hX.cell (by first | (simp; done) | (simp; omega)) (by first | assumption | (go_simp; done) | (simp; done))
                  obtain ⟨b1_0, b1_1, pb1, pt1, pf1⟩ := hP1
                  have hs0 : s 2 = false := Bool.eq_false_iff.2 fun h => (by have := hQ1 h; simp [hsk] at this)
                  obtain ⟨q1_0, q1_1⟩ := pf1 hs0
                  subst q1_0
                  subst q1_1
                  clear hs0
                  have kp1_0 := cell_of_row w' (w.heap.size) 0 _ _ _ pb1
                  have kp1_1 := cell_of_row w' (w.heap.size) 1 _ _ _ pb1
                  simp only [List.getElem?_toArray, List.getElem?_cons_zero, List.getElem?_cons_succ] at kp1_0 kp1_1
                  have kq1 : ∀ o, w'.frozen? ⟨w.heap.size, o, none⟩ = false := fun o => frozen_of_row w' _ o _ _ pb1
                  have hPB1 := Lib.hid pb1
                  clear pb1
                  have hPT1 := Lib.hid pt1
                  clear pt1
                  have hPF1 := Lib.hid pf1
                  clear pf1
                  clear hdep
                  refine StepG.mk rfl ?_; rw [ha0]; simp only [putL, Act.put, List.setIfInBounds_toArray, List.set_cons_zero, List.set_cons_succ]
                  go_wp2_with fail
                  refine HK.out _ _ ?_
                  refine ⟨(.agg #[.int .i64 U, .int .i64 V]), v6, (by rw [ha0]; simp only [putL, Act.put, List.setIfInBounds_toArray, List.set_cons_zero, List.set_cons_succ]), ?_, ?_, ?_, ?_, trivial⟩
                  · obtain ⟨h35, h6, _⟩ := hR.out
                    exact Lib.hid ⟨fun _ => rfl, fun h => h6 (by simpa using h), trivial⟩
                  · exact hX
                  · exact ⟨_, _, hPB1.out, fun h => hPT1.out (by simpa using h), fun h => ⟨rfl, rfl⟩⟩
                  · exact fun h => (by have h1 := hQ1 (by simpa using h); simp [h1])
                case x7hs1 =>
                  intro s a' w' hsk hdep hI K hK
                  try dsimp only at hI hK
                  obtain ⟨v35, v6, hact, hR, hX, hP1, hQ1, _⟩ := hI
                  subst hact
                  have HK := Lib.hid hK
                  clear hK
                  have kc0 : w'.cell? ⟨g7, 0, none⟩ = some (.int .i64 U) := hX.cell (by first | (simp; done) | (simp; omega)) (by first | assumption | (go_simp; done) | (simp; done))
                  have kc1 : w'.cell? ⟨g7, 1, none⟩ = some (.int .i64 V) := hX.cell (by first | (simp; done) | (simp; omega)) (by first | assumption | (go_simp; done) | (simp; done))
                  obtain ⟨b1_0, b1_1, pb1, pt1, pf1⟩ := hP1
                  have hs0 : s 2 = false := Bool.eq_false_iff.2 fun h => (by have := hQ1 h; simp [hsk] at this)
                  obtain ⟨q1_0, q1_1⟩ := pf1 hs0
                  subst q1_0
                  subst q1_1
                  clear hs0
                  have kp1_0 := cell_of_row w' (w.heap.size) 0 _ _ _ pb1
                  have kp1_1 := cell_of_row w' (w.heap.size) 1 _ _ _ pb1
                  simp only [List.getElem?_toArray, List.getElem?_cons_zero, List.getElem?_cons_succ] at kp1_0 kp1_1
                  have kq1 : ∀ o, w'.frozen? ⟨w.heap.size, o, none⟩ = false := fun o => frozen_of_row w' _ o _ _ pb1
                  have hPB1 := Lib.hid pb1
                  clear pb1
                  have hPT1 := Lib.hid pt1
                  clear pt1
                  have hPF1 := Lib.hid pf1
                  clear pf1
                  clear hdep
                  refine StepG.mk rfl ?_; rw [ha0]; simp only [putL, Act.put, List.setIfInBounds_toArray, List.set_cons_zero, List.set_cons_succ]
                  go_wp2_with fail
                  refine HK.out _ _ ?_
                  refine ⟨v35, (.int .u8 49), (by rw [ha0]; simp only [putL, Act.put, List.setIfInBounds_toArray, List.set_cons_zero, List.set_cons_succ]), ?_, ?_, ?_, ?_, trivial⟩
                  · obtain ⟨h35, h6, _⟩ := hR.out
                    exact Lib.hid ⟨fun h => h35 (by simpa using h), fun _ => rfl, trivial⟩
                  · exact hX
                  · exact ⟨_, _, hPB1.out, fun h => hPT1.out (by simpa using h), fun h => ⟨rfl, rfl⟩⟩
                  · exact fun h => (by have h1 := hQ1 (by simpa using h); simp [h1])
                case x7hs2 =>
                  intro s a' w' hsk hdep hI K hK
                  try dsimp only at hI hK
                  obtain ⟨v35, v6, hact, hR, hX, hP1, hQ1, _⟩ := hI
                  subst hact
                  have HK := Lib.hid hK
                  clear hK
                  have e35 : v35 = .agg #[.int .i64 U, .int .i64 V] := by obtain ⟨h35, h6, _⟩ := hR.out; exact h35 (hdep ⟨0, .data⟩ (by simp) rfl)
                  subst e35
                  have kc0 : w'.cell? ⟨g7, 0, none⟩ = some (.int .i64 U) := hX.cell (by first | (simp; done) | (simp; omega)) (by first | assumption | (go_simp; done) | (simp; done))
                  have kc1 : w'.cell? ⟨g7, 1, none⟩ = some (.int .i64 V) := hX.cell (by first | (simp; done) | (simp; omega)) (by first | assumption | (go_simp; done) | (simp; done))
                  obtain ⟨b1_0, b1_1, pb1, pt1, pf1⟩ := hP1
                  have hs0 : s 2 = false := hsk
                  obtain ⟨q1_0, q1_1⟩ := pf1 hs0
                  subst q1_0
                  subst q1_1
                  clear hs0
                  have kp1_0 := cell_of_row w' (w.heap.size) 0 _ _ _ pb1
                  have kp1_1 := cell_of_row w' (w.heap.size) 1 _ _ _ pb1
                  simp only [List.getElem?_toArray, List.getElem?_cons_zero, List.getElem?_cons_succ] at kp1_0 kp1_1
                  have kq1 : ∀ o, w'.frozen? ⟨w.heap.size, o, none⟩ = false := fun o => frozen_of_row w' _ o _ _ pb1
                  have hPB1 := Lib.hid pb1
                  clear pb1
                  have hPT1 := Lib.hid pt1
                  clear pt1
                  have hPF1 := Lib.hid pf1
                  clear pf1
                  have hd0 : s 0 = true := hdep ⟨0, .data⟩ (by simp) rfl
                  have hd1 : s 1 = true := hdep ⟨1, .chain⟩ (by simp) rfl
                  clear hdep
                  refine StepG.mk rfl ?_; rw [ha0]; simp only [putL, Act.put, List.setIfInBounds_toArray, List.set_cons_zero, List.set_cons_succ]
                  go_wp2_with fail
                  refine HK.out _ _ ?_
                  refine ⟨(.agg #[.int .i64 U, .int .i64 V]), v6, (by rw [ha0]; simp only [putL, Act.put, List.setIfInBounds_toArray, List.set_cons_zero, List.set_cons_succ]), ?_, ?_, ?_, ?_, trivial⟩
                  · obtain ⟨h35, h6, _⟩ := hR.out
                    exact Lib.hid ⟨fun _ => rfl, fun h => h6 (by simpa using h), trivial⟩
                  · exact ((hX.setOld (p := ⟨w.heap.size, 0, none⟩) (by simp) _).setOld (p := ⟨w.heap.size, 1, none⟩) (by simp) _)
                  · exact ⟨_, _, blk_set2 hPB1.out, fun _ => ⟨rfl, rfl⟩, fun h => (by simp at h)⟩
                  · exact fun _ => (by simp [hd0, hd1])
                intro s a' w11 hall hI
                try dsimp only at hI
                obtain ⟨v35, v6, hact, hR, hXR, hP1, hQ1, _⟩ := hI
                subst hact
                obtain ⟨h35, h6, _⟩ := hR.out
                clear hR
                have e35 := h35 (hall 0 (by decide))
                subst e35
                clear h35
                have e6 := h6 (hall 1 (by decide))
                subst e6
                clear h6
                obtain ⟨c0, c1, pblkR1, hpt, _⟩ := hP1
                clear hQ1
                obtain ⟨es0, es1⟩ := hpt (hall 2 (by decide))
                subst es0
                subst es1
                clear hpt
                try clear pblk1
                have pblk1 := pblkR1
                clear pblkR1
                clear hall
                rw [ha0]; simp only [putL, Act.put, List.setIfInBounds_toArray, List.set_cons_zero, List.set_cons_succ]
                clear ha0
                have B11 : Below w.heap.size w w11 := hXR.below (by first | assumption | exact (by repeat (first | exact Below.refl _ _ | exact Nat.le_refl _ | refine Below.alloc ?_ ?_ _ | refine Below.setCell ?_ ?_ _ | refine Below.drew ?_ | refine bl_drewN ?_ _ | (assumption) | refine bl_call ?_ (by assumption) ?_ | omega | (simp <;> omega)))) (by first | omega | (simp <;> omega)) (by simp <;> omega)
                have hpE : Pows w11 P := (hXR.block P hPw (by simp <;> omega)).trans HP10.out
                have XE := pblk1
                have IE := isBuilder_belX HI10.out hXR (by simp <;> omega)
                have BE := B11
                have hzE := isBuilder_lt IE
                clear hXR HP10 HI10 HY10 z0 z1 pblk1 B11 B10 hPw hXw
                by_cases hU : U = 0 ∧ V = 0
                · obtain ⟨rfl, rfl⟩ := hU
                  have HFIN := Lib.hid (show (D ++ [46]) ++ [49] = ALL by rw [← HN.out, GM.frac_zero])
                  have hlenD : (D ++ [46]).length ≤ 100 := by first | omega | (simp; omega)
                  go_wp2_with (first
                    | (go_at_call 79; refine (writeByte_any b0 b0 _ 49 _ IE (by rw [Lib.byteCells_length]; omega) (Nat.le_of_lt hzE)).mono ?_; rintro e w12 ⟨rfl, hI12, hb12⟩; have X12 := (hb12.block _ hXb).trans XE; have hp12 : Pows w12 P := (hb12.block _ hPb).trans hpE; have B12 := bl_call BE hb12 (Nat.le_of_lt hXb); have I12 : Lib.IsBuilder 83 5 b0 b0 (Lib.byteCells ((D ++ [46]) ++ [49])) w12 := (by rw [Lib.byteCells_append]; exact .inr hI12); have d0 := row2_0 X12; have d1 := row2_1 X12; have HX12 := Lib.hid X12; have HI12 := Lib.hid I12; have HP12 := Lib.hid hp12; have hz12 := isBuilder_lt I12; clear hI12 hb12 X12 hp12 I12 XE hpE IE BE hzE)
                    | fail)
                  have hAL : ALL.length ≤ 1000000 := by rw [← HFIN.out]; first | omega | (simp; omega)
                  have htl := fun wx => trimLeft0 ALL wx hAL
                  rcases HTC.out with ⟨hT, hX⟩ | ⟨l, hT, hX⟩ | ⟨c, l, hT, hcne, hX⟩
                  · rw [hT] at htl
                    have HTL := Lib.hid htl
                    have HTX := Lib.hid hX
                    clear htl hT hX
                    go_wp2_with (first
                      | (go_at_call 55; refine (demand_yes _ _).mono ?_; rintro e w' ⟨rfl, rfl⟩)
                      | (go_at_call 81; refine (builderString_any b0 b0 ((D ++ [46]) ++ [49]) _ HI12.out (Nat.le_of_lt hz12)).mono ?_; rintro e w13 ⟨rfl, hb13⟩; rw [HFIN.out]; have B13 := bl_call B12 hb13 (Nat.le_of_lt hXb))
                      | (go_at_call 80; refine (HTL.out _).mono ?_; rintro e w' ⟨rfl, rfl⟩)
                      | fail)
                    go_ret
                    exact ⟨by rw [HTX.out]; rfl, B13⟩
                  · rw [hT] at htl
                    obtain ⟨t1, t2, t3, t4⟩ := str_cons 46 l
                    have happ := str_nought (46 :: l)
                    have tsz : (⟨(46 :: l).toArray⟩ : ByteArray).size ≤ ALL.length := by
                      rw [str_size, ← hT]; exact (List.dropWhile_sublist _).length_le
                    rw [← hX] at happ
                    have HAPP := Lib.hid happ
                    clear happ hX hT
                    generalize (⟨(46 :: l).toArray⟩ : ByteArray) = t at *
                    have tsz2 : ¬ 9223372036854775807 < 1 + t.size := by omega
                    have t5 : (t[0]'t3).toNat = 46 := by rw [t4]; rfl
                    have t6 : (((t[0]'t3).toNat : Int) == 46) = true := by rw [t5]; rfl
                    have t7 : ((t[0]'t3).toNat : Int) = 46 := by rw [t5]; rfl
                    have HTL := Lib.hid htl
                    clear htl t4 t5
                    go_wp2_with (first
                      | (go_at_call 55; refine (demand_yes _ _).mono ?_; rintro e w' ⟨rfl, rfl⟩)
                      | (go_at_call 81; refine (builderString_any b0 b0 ((D ++ [46]) ++ [49]) _ HI12.out (Nat.le_of_lt hz12)).mono ?_; rintro e w13 ⟨rfl, hb13⟩; rw [HFIN.out]; have B13 := bl_call B12 hb13 (Nat.le_of_lt hXb))
                      | (go_at_call 80; refine (HTL.out _).mono ?_; rintro e w' ⟨rfl, rfl⟩)
                      | fail)
                    go_ret
                    exact ⟨by rw [← HAPP.out]; rfl, B13⟩
                  · rw [hT] at htl
                    obtain ⟨t1, t2, t3, t4⟩ := str_cons c l
                    have happ : (⟨(c :: l).toArray⟩ : ByteArray) = ⟨(GM.textOf (a, b)).toArray⟩ := by rw [hX]
                    have HAPP := Lib.hid happ
                    clear happ hX hT
                    generalize (⟨(c :: l).toArray⟩ : ByteArray) = t at *
                    have t5 : ¬ ((t[0]'t3).toNat : Int) = 46 := by
                      rw [t4]; intro h
                      exact hcne (UInt8.toNat_inj.1 (by simpa using (by exact_mod_cast h : c.toNat = 46)))
                    have t6 : (((t[0]'t3).toNat : Int) == 46) = false := by simpa using t5
                    have HTL := Lib.hid htl
                    clear htl t4
                    go_wp2_with (first
                      | (go_at_call 55; refine (demand_yes _ _).mono ?_; rintro e w' ⟨rfl, rfl⟩)
                      | (go_at_call 81; refine (builderString_any b0 b0 ((D ++ [46]) ++ [49]) _ HI12.out (Nat.le_of_lt hz12)).mono ?_; rintro e w13 ⟨rfl, hb13⟩; rw [HFIN.out]; have B13 := bl_call B12 hb13 (Nat.le_of_lt hXb))
                      | (go_at_call 80; refine (HTL.out _).mono ?_; rintro e w' ⟨rfl, rfl⟩)
                      | fail)
                    go_ret
                    exact ⟨by rw [← HAPP.out]; rfl, B13⟩
                · skip
                  have hlenD : (D ++ [46]).length ≤ 100 := by first | omega | (simp; omega)
                  go_wp2_with (first
                    | (go_at_call 79; refine (writeByte_any b0 b0 _ 49 _ IE (by rw [Lib.byteCells_length]; omega) (Nat.le_of_lt hzE)).mono ?_; rintro e w12 ⟨rfl, hI12, hb12⟩; have X12 := (hb12.block _ hXb).trans XE; have hp12 : Pows w12 P := (hb12.block _ hPb).trans hpE; have B12 := bl_call BE hb12 (Nat.le_of_lt hXb); have I12 : Lib.IsBuilder 83 5 b0 b0 (Lib.byteCells ((D ++ [46]) ++ [49])) w12 := (by rw [Lib.byteCells_append]; exact .inr hI12); have d0 := row2_0 X12; have d1 := row2_1 X12; have HX12 := Lib.hid X12; have HI12 := Lib.hid I12; have HP12 := Lib.hid hp12; have hz12 := isBuilder_lt I12; clear hI12 hb12 X12 hp12 I12 XE hpE IE BE hzE)
                    | fail)
                  all_goals (
                    go_roundw
                    case rel => exact ⟨39, U, V, (D ++ [46]) ++ [49], congrArg (Value.int .i64) (by omega), by omega, fun _ => hU, HLN, Lib.hid (by rw [GM.fut_lt _ _ (by omega), ← HN.out]; simp), by first | omega | (simp; omega), HX12.out, HP12.out, HI12.out, B12⟩
                    case measure => first | (simp [intOf]; omega) | (simp [intOf]; done))
              · obtain ⟨en, ed⟩ := HX2'.out hsg
                rw [en, ed] at HN
                rw [en] at HLN
                clear HX1 HX2'
                go_upto_region 14 with (first
                  | (go_at_call 68; refine (HSG.out _).mono ?_; rintro e w10 ⟨rfl, hb10⟩; have hpE : Pows w10 P := blk_call hb10 hp9; have XE := blk_call hb10 X9; have IE := isBuilder_belX I9 (BelX.ofBelow hb10) (by simp); have BE := bl_call B9 hb10 (by omega); have hzE := isBuilder_lt IE; clear hp9 X9 I9 B9 hb10 y0 y1 HBK hgs9)
                  | fail)
                have hlenD : (D ++ [46]).length ≤ 100 := by first | omega | (simp; omega)
                go_wp2_with (first
                  | (go_at_call 79; refine (writeByte_any b0 b0 _ 48 _ IE (by rw [Lib.byteCells_length]; omega) (Nat.le_of_lt hzE)).mono ?_; rintro e w12 ⟨rfl, hI12, hb12⟩; have X12 := (hb12.block _ hXb).trans XE; have hp12 : Pows w12 P := (hb12.block _ hPb).trans hpE; have B12 := bl_call BE hb12 (Nat.le_of_lt hXb); have I12 : Lib.IsBuilder 83 5 b0 b0 (Lib.byteCells ((D ++ [46]) ++ [48])) w12 := (by rw [Lib.byteCells_append]; exact .inr hI12); have d0 := row2_0 X12; have d1 := row2_1 X12; have HX12 := Lib.hid X12; have HI12 := Lib.hid I12; have HP12 := Lib.hid hp12; have hz12 := isBuilder_lt I12; clear hI12 hb12 X12 hp12 I12 XE hpE IE BE hzE)
                  | fail)
                all_goals (
                  go_roundw
                  case rel => exact ⟨39, X, Y, (D ++ [46]) ++ [48], congrArg (Value.int .i64) (by omega), by omega, fun _ => hz, HLN, Lib.hid (by rw [GM.fut_lt _ _ (by omega), ← HN.out]; simp), by first | omega | (simp; omega), HX12.out, HP12.out, HI12.out, B12⟩
                  case measure => first | (simp [intOf]; omega) | (simp [intOf]; done))
        · have hz : ¬ (X = 0 ∧ Y = 0) := l2 (by omega)
          have hz0 : ¬ (X, Y) = (0, 0) := fun h => hz ⟨congrArg Prod.fst h, congrArg Prod.snd h⟩
          have HN := Lib.hid (show D ++ (GM.dgt m (X, Y) :: GM.frac m (GM.nxx m (X, Y))) = ALL by rw [← GM.fut_frac m _ (by omega) hz0]; exact HF.out)
          have hm1 : ¬ ((m : Int) - 40 = -1) := by omega
          have hm2 : ((m : Int) - 40 == -1) = false := by simpa using hm1
          clear hz0
          go_upto_region 11 with fail
          obtain ⟨⟨px, py⟩, hpt⟩ : ∃ p, GM.pt m = p := ⟨_, rfl⟩
          have hsb := GM.step_bd m (by omega) (X, Y) HL.out
          rw [hpt] at hsb
          dsimp only at hsb
          obtain ⟨s1, s2, s3, s4, s5, s6, s7, s8⟩ := hsb
          have hpb := pt_bd ⟨m, by omega⟩
          dsimp only at hpb
          rw [hpt] at hpb
          dsimp only at hpb
          obtain ⟨p1, p2, p3, p4⟩ := hpb
          have hof := fun wx h => of_any P ((m : Int) - 40) m wx h (by omega) (by omega)
          rw [hpt] at hof
          have htm := fun wx => times_any px py (-1) wx (by omega) (by omega) (by omega) (by omega)
          obtain ⟨qx, hqx⟩ : ∃ qx, -1 * px = qx := ⟨_, rfl⟩
          obtain ⟨qy, hqy⟩ : ∃ qy, -1 * py = qy := ⟨_, rfl⟩
          rw [hqx, hqy] at htm
          have hpl := fun wx => plus_any X Y qx qy wx (by omega) (by omega) (by omega) (by omega)
          obtain ⟨U, hU⟩ : ∃ U, X + qx = U := ⟨_, rfl⟩
          obtain ⟨V, hV⟩ : ∃ V, Y + qy = V := ⟨_, rfl⟩
          rw [hU, hV] at hpl
          have eU : X - px = U := by omega
          have eV : Y - py = V := by omega
          rw [eU] at s1 s2
          rw [eV] at s3 s4
          have hsg := fun wx => sign_any U V wx s1 s2 s3 s4
          obtain ⟨sg, hsgn⟩ : ∃ sg, GM.sgn U V = sg := ⟨_, rfl⟩
          rw [hsgn] at hsg
          have hdg : GM.dgx m (X, Y) = decide (0 ≤ sg) := by unfold GM.dgx; rw [hpt]; dsimp only; rw [eU, eV, hsgn]
          have hnx1 : 0 ≤ sg → GM.nxx m (X, Y) = (U, V) ∧ GM.dgt m (X, Y) = 49 := by
            intro h
            have hd : GM.dgx m (X, Y) = true := by rw [hdg]; exact decide_eq_true h
            refine ⟨?_, ?_⟩
            · unfold GM.nxx
              rw [hd, hpt]
              show (X - px, Y - py) = _
              rw [eU, eV]
            · unfold GM.dgt
              rw [hd]; rfl
          have hnx2 : ¬ 0 ≤ sg → GM.nxx m (X, Y) = (X, Y) ∧ GM.dgt m (X, Y) = 48 := by
            intro h
            have hd : GM.dgx m (X, Y) = false := by rw [hdg]; exact decide_eq_false h
            refine ⟨?_, ?_⟩
            · unfold GM.nxx
              rw [hd]; rfl
            · unfold GM.dgt
              rw [hd]; rfl
          have hln := GM.lefts_next m (X, Y) HL.out
          have HLN := Lib.hid hln
          have HOF := Lib.hid hof
          have HTM := Lib.hid htm
          have HPL := Lib.hid hpl
          have HSG := Lib.hid hsg
          have HX1 := Lib.hid hnx1
          have HX2' := Lib.hid hnx2
          have hPw : P < wr.heap.size := by omega
          have hXw : w.heap.size < wr.heap.size := by omega
          clear hof htm hpl hsg hnx1 hnx2 hdg hln hpt hqx hqy hU hV eU eV hsgn s1 s2 s3 s4 s5 s6 s7 s8 p1 p2 p3 p4
          refine with_act fun a0 ha0 => ?_
          refine wp_region_inv (by kernel_rfl) (by kernel_rfl) (fun s a' w' => ∃ v27 v28 v29 v30 v31 v7 : Value, a' = putL a0 [(27, v27), (28, v28), (29, v29), (30, v30), (31, v31), (7, v7)] ∧ Hid ((s 0 = true → v27 = .agg #[.int .i64 X, .int .i64 Y]) ∧ (s 1 = true → v28 = .int .i64 ((m : Int) - 40)) ∧ (s 2 = true → v29 = .agg #[.int .i64 px, .int .i64 py]) ∧ (s 3 = true → v30 = .agg #[.int .i64 qx, .int .i64 qy]) ∧ (s 4 = true → v31 = .agg #[.int .i64 U, .int .i64 V]) ∧ True) ∧ BelX [] wr w' ∧ (s 5 = true → ∃ (g : Nat) (c0 c1 : Value), v7 = .pointer (some ⟨g, 0, none⟩) ∧ wr.heap.size ≤ g ∧ w'.heap[g]? = some (.cells #[c0, c1] 23 (0, 0)) ∧ (s 6 = true → c0 = .int .i64 U ∧ c1 = .int .i64 V)) ∧ (s 6 = true → s 5 = true) ∧ True) ?x8hzero ⟨?x8hs0, ?x8hs1, ?x8hs2, ?x8hs3, ?x8hs4, ?x8hs5, ?x8hs6, trivial⟩ ?x8hdone
          case x8hzero =>
            refine ⟨a0.tmps.getD 27 undef, a0.tmps.getD 28 undef, a0.tmps.getD 29 undef, a0.tmps.getD 30 undef, a0.tmps.getD 31 undef, a0.tmps.getD 7 undef, ?_, ?_, ?_, ?_, ?_, trivial⟩
            · simp only [putL, put_self]
            · exact Lib.hid ⟨fun h => (by simp at h), fun h => (by simp at h), fun h => (by simp at h), fun h => (by simp at h), fun h => (by simp at h), trivial⟩
            · exact BelX.start _ _
            · exact fun h => (by simp at h)
            · exact fun h => (by simp at h)
          case x8hs0 =>
            intro s a' w' hsk hdep hI K hK
            try dsimp only at hI hK
            obtain ⟨v27, v28, v29, v30, v31, v7, hact, hR, hX, hA7, hN7, _⟩ := hI
            subst hact
            have HK := Lib.hid hK
            clear hK
            have kc0 : w'.cell? ⟨w.heap.size, 0, none⟩ = some (.int .i64 X) := hX.cell (by first | (simp; done) | (simp; omega)) (by first | assumption | (go_simp; done) | (simp; done))
            have kc1 : w'.cell? ⟨w.heap.size, 1, none⟩ = some (.int .i64 Y) := hX.cell (by first | (simp; done) | (simp; omega)) (by first | assumption | (go_simp; done) | (simp; done))
            have kx0 := (show Pows w' P from (hX.block P hPw (by simp)).trans HHP.out)
            clear hdep
            refine StepG.mk rfl ?_; rw [ha0]; simp only [putL, Act.put, List.setIfInBounds_toArray, List.set_cons_zero, List.set_cons_succ]
            go_wp2_with fail
            refine HK.out _ _ ?_
            refine ⟨(.agg #[.int .i64 X, .int .i64 Y]), v28, v29, v30, v31, v7, (by rw [ha0]; simp only [putL, Act.put, List.setIfInBounds_toArray, List.set_cons_zero, List.set_cons_succ]), ?_, ?_, ?_, ?_, trivial⟩
            · obtain ⟨h27, h28, h29, h30, h31, _⟩ := hR.out
              exact Lib.hid ⟨fun _ => rfl, fun h => h28 (by simpa using h), fun h => h29 (by simpa using h), fun h => h30 (by simpa using h), fun h => h31 (by simpa using h), trivial⟩
            · exact hX
            · intro h; obtain ⟨g, c0, c1, e, hg, hblk, hst⟩ := hA7 (by simpa using h); exact ⟨g, c0, c1, e, hg, hblk, fun h => hst (by simpa using h)⟩
            · exact fun h => (by have h1 := hN7 (by simpa using h); simp [h1])
          case x8hs1 =>
            intro s a' w' hsk hdep hI K hK
            try dsimp only at hI hK
            obtain ⟨v27, v28, v29, v30, v31, v7, hact, hR, hX, hA7, hN7, _⟩ := hI
            subst hact
            have HK := Lib.hid hK
            clear hK
            have kc0 : w'.cell? ⟨w.heap.size, 0, none⟩ = some (.int .i64 X) := hX.cell (by first | (simp; done) | (simp; omega)) (by first | assumption | (go_simp; done) | (simp; done))
            have kc1 : w'.cell? ⟨w.heap.size, 1, none⟩ = some (.int .i64 Y) := hX.cell (by first | (simp; done) | (simp; omega)) (by first | assumption | (go_simp; done) | (simp; done))
            have kx0 := (show Pows w' P from (hX.block P hPw (by simp)).trans HHP.out)
            clear hdep
            refine StepG.mk rfl ?_; rw [ha0]; simp only [putL, Act.put, List.setIfInBounds_toArray, List.set_cons_zero, List.set_cons_succ]
            go_wp2_with fail
            refine HK.out _ _ ?_
            refine ⟨v27, (.int .i64 ((m : Int) - 40)), v29, v30, v31, v7, (by rw [ha0]; simp only [putL, Act.put, List.setIfInBounds_toArray, List.set_cons_zero, List.set_cons_succ]), ?_, ?_, ?_, ?_, trivial⟩
            · obtain ⟨h27, h28, h29, h30, h31, _⟩ := hR.out
              exact Lib.hid ⟨fun h => h27 (by simpa using h), fun _ => rfl, fun h => h29 (by simpa using h), fun h => h30 (by simpa using h), fun h => h31 (by simpa using h), trivial⟩
            · exact hX
            · intro h; obtain ⟨g, c0, c1, e, hg, hblk, hst⟩ := hA7 (by simpa using h); exact ⟨g, c0, c1, e, hg, hblk, fun h => hst (by simpa using h)⟩
            · exact fun h => (by have h1 := hN7 (by simpa using h); simp [h1])
          case x8hs2 =>
            intro s a' w' hsk hdep hI K hK
            try dsimp only at hI hK
            obtain ⟨v27, v28, v29, v30, v31, v7, hact, hR, hX, hA7, hN7, _⟩ := hI
            subst hact
            have HK := Lib.hid hK
            clear hK
            have e28 : v28 = .int .i64 ((m : Int) - 40) := by obtain ⟨h27, h28, h29, h30, h31, _⟩ := hR.out; exact h28 (hdep ⟨1, .data⟩ (by simp) rfl)
            subst e28
            have kc0 : w'.cell? ⟨w.heap.size, 0, none⟩ = some (.int .i64 X) := hX.cell (by first | (simp; done) | (simp; omega)) (by first | assumption | (go_simp; done) | (simp; done))
            have kc1 : w'.cell? ⟨w.heap.size, 1, none⟩ = some (.int .i64 Y) := hX.cell (by first | (simp; done) | (simp; omega)) (by first | assumption | (go_simp; done) | (simp; done))
            have kx0 := (show Pows w' P from (hX.block P hPw (by simp)).trans HHP.out)
            clear hdep
            refine StepG.mk rfl ?_; rw [ha0]; simp only [putL, Act.put, List.setIfInBounds_toArray, List.set_cons_zero, List.set_cons_succ]
            go_wp2_with fail
            refine ((HOF.out _ kx0)).mono ?_
            rintro e wn ⟨rfl, hb⟩
            go_wp2_with fail
            refine HK.out _ _ ?_
            refine ⟨v27, (.int .i64 ((m : Int) - 40)), (.agg #[.int .i64 px, .int .i64 py]), v30, v31, v7, (by rw [ha0]; simp only [putL, Act.put, List.setIfInBounds_toArray, List.set_cons_zero, List.set_cons_succ]), ?_, ?_, ?_, ?_, trivial⟩
            · obtain ⟨h27, h28, h29, h30, h31, _⟩ := hR.out
              exact Lib.hid ⟨fun h => h27 (by simpa using h), fun _ => rfl, fun _ => rfl, fun h => h30 (by simpa using h), fun h => h31 (by simpa using h), trivial⟩
            · exact hX.call hb
            · intro h; obtain ⟨g, c0, c1, e, hg, hblk, hst⟩ := hA7 (by simpa using h); exact ⟨g, c0, c1, e, hg, (hb.block g (blk_lt hblk)).trans hblk, fun h => hst (by simpa using h)⟩
            · exact fun h => (by have h1 := hN7 (by simpa using h); simp [h1])
          case x8hs3 =>
            intro s a' w' hsk hdep hI K hK
            try dsimp only at hI hK
            obtain ⟨v27, v28, v29, v30, v31, v7, hact, hR, hX, hA7, hN7, _⟩ := hI
            subst hact
            have HK := Lib.hid hK
            clear hK
            have e29 : v29 = .agg #[.int .i64 px, .int .i64 py] := by obtain ⟨h27, h28, h29, h30, h31, _⟩ := hR.out; exact h29 (hdep ⟨2, .data⟩ (by simp) rfl)
            subst e29
            have kc0 : w'.cell? ⟨w.heap.size, 0, none⟩ = some (.int .i64 X) := hX.cell (by first | (simp; done) | (simp; omega)) (by first | assumption | (go_simp; done) | (simp; done))
            have kc1 : w'.cell? ⟨w.heap.size, 1, none⟩ = some (.int .i64 Y) := hX.cell (by first | (simp; done) | (simp; omega)) (by first | assumption | (go_simp; done) | (simp; done))
            have kx0 := (show Pows w' P from (hX.block P hPw (by simp)).trans HHP.out)
            clear hdep
            refine StepG.mk rfl ?_; rw [ha0]; simp only [putL, Act.put, List.setIfInBounds_toArray, List.set_cons_zero, List.set_cons_succ]
            go_wp2_with fail
            refine ((HTM.out _)).mono ?_
            rintro e wn ⟨rfl, hb⟩
            go_wp2_with fail
            refine HK.out _ _ ?_
            refine ⟨v27, v28, (.agg #[.int .i64 px, .int .i64 py]), (.agg #[.int .i64 qx, .int .i64 qy]), v31, v7, (by rw [ha0]; simp only [putL, Act.put, List.setIfInBounds_toArray, List.set_cons_zero, List.set_cons_succ]), ?_, ?_, ?_, ?_, trivial⟩
            · obtain ⟨h27, h28, h29, h30, h31, _⟩ := hR.out
              exact Lib.hid ⟨fun h => h27 (by simpa using h), fun h => h28 (by simpa using h), fun _ => rfl, fun _ => rfl, fun h => h31 (by simpa using h), trivial⟩
            · exact hX.call hb
            · intro h; obtain ⟨g, c0, c1, e, hg, hblk, hst⟩ := hA7 (by simpa using h); exact ⟨g, c0, c1, e, hg, (hb.block g (blk_lt hblk)).trans hblk, fun h => hst (by simpa using h)⟩
            · exact fun h => (by have h1 := hN7 (by simpa using h); simp [h1])
          case x8hs4 =>
            intro s a' w' hsk hdep hI K hK
            try dsimp only at hI hK
            obtain ⟨v27, v28, v29, v30, v31, v7, hact, hR, hX, hA7, hN7, _⟩ := hI
            subst hact
            have HK := Lib.hid hK
            clear hK
            have e27 : v27 = .agg #[.int .i64 X, .int .i64 Y] := by obtain ⟨h27, h28, h29, h30, h31, _⟩ := hR.out; exact h27 (hdep ⟨0, .data⟩ (by simp) rfl)
            subst e27
            have e30 : v30 = .agg #[.int .i64 qx, .int .i64 qy] := by obtain ⟨h27, h28, h29, h30, h31, _⟩ := hR.out; exact h30 (hdep ⟨3, .data⟩ (by simp) rfl)
            subst e30
            have kc0 : w'.cell? ⟨w.heap.size, 0, none⟩ = some (.int .i64 X) := hX.cell (by first | (simp; done) | (simp; omega)) (by first | assumption | (go_simp; done) | (simp; done))
            have kc1 : w'.cell? ⟨w.heap.size, 1, none⟩ = some (.int .i64 Y) := hX.cell (by first | (simp; done) | (simp; omega)) (by first | assumption | (go_simp; done) | (simp; done))
            have kx0 := (show Pows w' P from (hX.block P hPw (by simp)).trans HHP.out)
            clear hdep
            refine StepG.mk rfl ?_; rw [ha0]; simp only [putL, Act.put, List.setIfInBounds_toArray, List.set_cons_zero, List.set_cons_succ]
            go_wp2_with fail
            refine ((HPL.out _)).mono ?_
            rintro e wn ⟨rfl, hb⟩
            go_wp2_with fail
            refine HK.out _ _ ?_
            refine ⟨(.agg #[.int .i64 X, .int .i64 Y]), v28, v29, (.agg #[.int .i64 qx, .int .i64 qy]), (.agg #[.int .i64 U, .int .i64 V]), v7, (by rw [ha0]; simp only [putL, Act.put, List.setIfInBounds_toArray, List.set_cons_zero, List.set_cons_succ]), ?_, ?_, ?_, ?_, trivial⟩
            · obtain ⟨h27, h28, h29, h30, h31, _⟩ := hR.out
              exact Lib.hid ⟨fun _ => rfl, fun h => h28 (by simpa using h), fun h => h29 (by simpa using h), fun _ => rfl, fun _ => rfl, trivial⟩
            · exact hX.call hb
            · intro h; obtain ⟨g, c0, c1, e, hg, hblk, hst⟩ := hA7 (by simpa using h); exact ⟨g, c0, c1, e, hg, (hb.block g (blk_lt hblk)).trans hblk, fun h => hst (by simpa using h)⟩
            · exact fun h => (by have h1 := hN7 (by simpa using h); simp [h1])
          case x8hs5 =>
            intro s a' w' hsk hdep hI K hK
            try dsimp only at hI hK
            obtain ⟨v27, v28, v29, v30, v31, v7, hact, hR, hX, hA7, hN7, _⟩ := hI
            subst hact
            have HK := Lib.hid hK
            clear hK
            have kc0 : w'.cell? ⟨w.heap.size, 0, none⟩ = some (.int .i64 X) := hX.cell (by first | (simp; done) | (simp; omega)) (by first | assumption | (go_simp; done) | (simp; done))
            have kc1 : w'.cell? ⟨w.heap.size, 1, none⟩ = some (.int .i64 Y) := hX.cell (by first | (simp; done) | (simp; omega)) (by first | assumption | (go_simp; done) | (simp; done))
            have kx0 := (show Pows w' P from (hX.block P hPw (by simp)).trans HHP.out)
            clear hdep
            refine StepG.mk rfl ?_; rw [ha0]; simp only [putL, Act.put, List.setIfInBounds_toArray, List.set_cons_zero, List.set_cons_succ]
            go_wp2_with fail
            refine HK.out _ _ ?_
            refine ⟨v27, v28, v29, v30, v31, (.pointer (some ⟨w'.heap.size, 0, none⟩)), (by rw [ha0]; simp only [putL, Act.put, List.setIfInBounds_toArray, List.set_cons_zero, List.set_cons_succ]), ?_, ?_, ?_, ?_, trivial⟩
            · obtain ⟨h27, h28, h29, h30, h31, _⟩ := hR.out
              exact Lib.hid ⟨fun h => h27 (by simpa using h), fun h => h28 (by simpa using h), fun h => h29 (by simpa using h), fun h => h30 (by simpa using h), fun h => h31 (by simpa using h), trivial⟩
            · exact hX.alloc _
            · exact fun _ => ⟨w'.heap.size, .int .i64 0, .int .i64 0, rfl, hX.size, blk_new w' _, fun h => (by have h1 := hN7 (by simpa using h); rw [h1] at hsk; cases hsk)⟩
            · exact fun _ => rfl
          case x8hs6 =>
            intro s a' w' hsk hdep hI K hK
            try dsimp only at hI hK
            obtain ⟨v27, v28, v29, v30, v31, v7, hact, hR, hX, hA7, hN7, _⟩ := hI
            subst hact
            have HK := Lib.hid hK
            clear hK
            have e31 : v31 = .agg #[.int .i64 U, .int .i64 V] := by obtain ⟨h27, h28, h29, h30, h31, _⟩ := hR.out; exact h31 (hdep ⟨4, .data⟩ (by simp) rfl)
            subst e31
            obtain ⟨g, c0, c1, ev, hg, hblk, hst⟩ := hA7 (hdep ⟨5, .data⟩ (by simp) rfl)
            subst ev
            have kc0 : w'.cell? ⟨w.heap.size, 0, none⟩ = some (.int .i64 X) := hX.cell (by first | (simp; done) | (simp; omega)) (by first | assumption | (go_simp; done) | (simp; done))
            have kc1 : w'.cell? ⟨w.heap.size, 1, none⟩ = some (.int .i64 Y) := hX.cell (by first | (simp; done) | (simp; omega)) (by first | assumption | (go_simp; done) | (simp; done))
            have kx0 := (show Pows w' P from (hX.block P hPw (by simp)).trans HHP.out)
            have kb0 : w'.cell? ⟨g, 0, none⟩ = some c0 := cell_of_row w' g 0 _ _ _ hblk
            have kb1 : w'.cell? ⟨g, 1, none⟩ = some c1 := cell_of_row w' g 1 _ _ _ hblk
            have kf : ∀ o, w'.frozen? ⟨g, o, none⟩ = false := fun o => frozen_of_row w' g o _ _ hblk
            have hBlk := Lib.hid hblk
            clear hblk
            have hdepA : s 5 = true := hdep ⟨5, .data⟩ (by simp) rfl
            clear hdep
            refine StepG.mk rfl ?_; rw [ha0]; simp only [putL, Act.put, List.setIfInBounds_toArray, List.set_cons_zero, List.set_cons_succ]
            go_wp2_with fail
            refine HK.out _ _ ?_
            refine ⟨v27, v28, v29, v30, (.agg #[.int .i64 U, .int .i64 V]), (.pointer (some ⟨g, 0, none⟩)), (by rw [ha0]; simp only [putL, Act.put, List.setIfInBounds_toArray, List.set_cons_zero, List.set_cons_succ]), ?_, ?_, ?_, ?_, trivial⟩
            · obtain ⟨h27, h28, h29, h30, h31, _⟩ := hR.out
              exact Lib.hid ⟨fun h => h27 (by simpa using h), fun h => h28 (by simpa using h), fun h => h29 (by simpa using h), fun h => h30 (by simpa using h), fun _ => rfl, trivial⟩
            · exact ((hX.setNew (p := ⟨g, 0, none⟩) hg _).setNew (p := ⟨g, 1, none⟩) hg _)
            · exact fun _ => ⟨g, _, _, rfl, hg, blk_set2 hBlk.out, fun _ => ⟨rfl, rfl⟩⟩
            · exact fun _ => (by simp [hdepA])
          intro s a' w9 hall hI
          try dsimp only at hI
          obtain ⟨v27, v28, v29, v30, v31, v7, hact, hR, hXR, hA7, hN7, _⟩ := hI
          subst hact
          obtain ⟨h27, h28, h29, h30, h31, _⟩ := hR.out
          clear hR
          have e27 := h27 (hall 0 (by decide))
          subst e27
          clear h27
          have e28 := h28 (hall 1 (by decide))
          subst e28
          clear h28
          have e29 := h29 (hall 2 (by decide))
          subst e29
          clear h29
          have e30 := h30 (hall 3 (by decide))
          subst e30
          clear h30
          have e31 := h31 (hall 4 (by decide))
          subst e31
          clear h31
          obtain ⟨g7, c0, c1, ev, hg7, hblk7, hst⟩ := hA7 (hall 5 (by decide))
          subst ev
          clear hA7 hN7
          obtain ⟨es0, es1⟩ := hst (hall 6 (by decide))
          subst es0
          subst es1
          clear hst
          clear hall
          rw [ha0]; simp only [putL, Act.put, List.setIfInBounds_toArray, List.set_cons_zero, List.set_cons_succ]
          clear ha0
          have B9 : Below w.heap.size w w9 := hXR.below (by first | assumption | exact (by repeat (first | exact Below.refl _ _ | exact Nat.le_refl _ | refine Below.alloc ?_ ?_ _ | refine Below.setCell ?_ ?_ _ | refine Below.drew ?_ | refine bl_drewN ?_ _ | (assumption) | refine bl_call ?_ (by assumption) ?_ | omega | (simp <;> omega)))) (by first | omega | (simp <;> omega)) (by simp <;> omega)
          have hp9 : Pows w9 P := (hXR.block P hPw (by simp)).trans HHP.out
          have X9 := (hXR.block _ hXw (by simp)).trans HX0.out
          have I9 := isBuilder_belX HI.out hXR (by simp)
          have hg9 : wr.heap.size ≤ g7 := by omega
          have hgs9 := blk_lt hblk7
          clear hXR HHP HX0 HI c0 c1 f0 hPw hXw HOF HTM HPL HL
          have y0 := row2_0 hblk7
          have y1 := row2_1 hblk7
          have hXg : w.heap.size ≠ g7 := by omega
          have hXg' : g7 ≠ w.heap.size := by omega
          have HBK := Lib.hid hblk7
          clear hblk7
          by_cases hsg : 0 ≤ sg
          · obtain ⟨en, ed⟩ := HX1.out hsg
            rw [en, ed] at HN
            rw [en] at HLN
            clear HX1 HX2'
            go_upto_region 13 with (first
              | (go_at_call 68; refine (HSG.out _).mono ?_; rintro e w10 ⟨rfl, hb10⟩; have hp10 : Pows w10 P := blk_call hb10 hp9; have X10 := blk_call hb10 X9; have I10 := isBuilder_belX I9 (BelX.ofBelow hb10) (by simp); have B10 := bl_call B9 hb10 (by omega); have pblk1 := X10; have hY10 := blk_call hb10 HBK.out; have z0 := row2_0 hY10; have z1 := row2_1 hY10; have hz10 := isBuilder_lt I10; have HI10 := Lib.hid I10; have HP10 := Lib.hid hp10; have HY10 := Lib.hid hY10; clear hp9 X9 I9 B9 hb10 y0 y1 HBK hgs9 X10 hY10 hp10 I10)
              | fail)
            have hXw : w.heap.size < w10.heap.size := blk_lt pblk1
            have hPw : P < w10.heap.size := by omega
            have pblk1 : w10.heap[w.heap.size]? = some (.cells #[.int .i64 X, .int .i64 Y] 23 (0, 0)) := by first | assumption | exact hblk1
            refine with_act fun a0 ha0 => ?_
            refine wp_region_inv (by kernel_rfl) (by kernel_rfl) (fun s a' w' => ∃ v35 v6 : Value, a' = putL a0 [(35, v35), (6, v6)] ∧ Hid ((s 0 = true → v35 = .agg #[.int .i64 U, .int .i64 V]) ∧ (s 1 = true → v6 = .int .u8 49) ∧ True) ∧ BelX [w.heap.size] w10 w' ∧ (∃ (c0 c1 : Value), w'.heap[w.heap.size]? = some (.cells #[c0, c1] 23 (0, 0)) ∧ (s 2 = true → c0 = .int .i64 U ∧ c1 = .int .i64 V) ∧ (s 2 = false → c0 = .int .i64 X ∧ c1 = .int .i64 Y)) ∧ (s 2 = true → s 0 = true ∧ s 1 = true ∧ True) ∧ True) ?x9hzero ⟨?x9hs0, ?x9hs1, ?x9hs2, trivial⟩ ?x9hdone
            case x9hzero =>
              refine ⟨a0.tmps.getD 35 undef, a0.tmps.getD 6 undef, ?_, ?_, ?_, ?_, ?_, trivial⟩
              · simp only [putL, put_self]
              · exact Lib.hid ⟨fun h => (by simp at h), fun h => (by simp at h), trivial⟩
              · exact BelX.start _ _
              · exact ⟨.int .i64 X, .int .i64 Y, pblk1, fun h => (by simp at h), fun _ => ⟨rfl, rfl⟩⟩
              · exact fun h => (by simp at h)
            case x9hs0 =>
              intro s a' w' hsk hdep hI K hK
              try dsimp only at hI hK
              obtain ⟨v35, v6, hact, hR, hX, hP1, hQ1, _⟩ := hI
              subst hact
              have HK := Lib.hid hK
              clear hK
              have kc0 : w'.cell? ⟨g7, 0, none⟩ = some (.int .i64 U) := hX.cell (by first | (simp; done) | (simp; omega)) (by first | assumption | (go_simp; done) | (simp; done))
              have kc1 : w'.cell? ⟨g7, 1, none⟩ = some (.int .i64 V) := hX.cell (by first | (simp; done) | (simp; omega)) (by first | assumption | (go_simp; done) | (simp; done))
              obtain ⟨b1_0, b1_1, pb1, pt1, pf1⟩ := hP1
              have hs0 : s 2 = false := Bool.eq_false_iff.2 fun h => (by have := hQ1 h; simp [hsk] at this)
              obtain ⟨q1_0, q1_1⟩ := pf1 hs0
              subst q1_0
              subst q1_1
              clear hs0
              have kp1_0 := cell_of_row w' (w.heap.size) 0 _ _ _ pb1
              have kp1_1 := cell_of_row w' (w.heap.size) 1 _ _ _ pb1
              simp only [List.getElem?_toArray, List.getElem?_cons_zero, List.getElem?_cons_succ] at kp1_0 kp1_1
              have kq1 : ∀ o, w'.frozen? ⟨w.heap.size, o, none⟩ = false := fun o => frozen_of_row w' _ o _ _ pb1
              have hPB1 := Lib.hid pb1
              clear pb1
              have hPT1 := Lib.hid pt1
              clear pt1
              have hPF1 := Lib.hid pf1
              clear pf1
              clear hdep
              refine StepG.mk rfl ?_; rw [ha0]; simp only [putL, Act.put, List.setIfInBounds_toArray, List.set_cons_zero, List.set_cons_succ]
              go_wp2_with fail
              refine HK.out _ _ ?_
              refine ⟨(.agg #[.int .i64 U, .int .i64 V]), v6, (by rw [ha0]; simp only [putL, Act.put, List.setIfInBounds_toArray, List.set_cons_zero, List.set_cons_succ]), ?_, ?_, ?_, ?_, trivial⟩
              · obtain ⟨h35, h6, _⟩ := hR.out
                exact Lib.hid ⟨fun _ => rfl, fun h => h6 (by simpa using h), trivial⟩
              · exact hX
              · exact ⟨_, _, hPB1.out, fun h => hPT1.out (by simpa using h), fun h => ⟨rfl, rfl⟩⟩
              · exact fun h => (by have h1 := hQ1 (by simpa using h); simp [h1])
            case x9hs1 =>
              intro s a' w' hsk hdep hI K hK
              try dsimp only at hI hK
              obtain ⟨v35, v6, hact, hR, hX, hP1, hQ1, _⟩ := hI
              subst hact
              have HK := Lib.hid hK
              clear hK
              have kc0 : w'.cell? ⟨g7, 0, none⟩ = some (.int .i64 U) := hX.cell (by first | (simp; done) | (simp; omega)) (by first | assumption | (go_simp; done) | (simp; done))
              have kc1 : w'.cell? ⟨g7, 1, none⟩ = some (.int .i64 V) := hX.cell (by first | (simp; done) | (simp; omega)) (by first | assumption | (go_simp; done) | (simp; done))
              obtain ⟨b1_0, b1_1, pb1, pt1, pf1⟩ := hP1
              have hs0 : s 2 = false := Bool.eq_false_iff.2 fun h => (by have := hQ1 h; simp [hsk] at this)
              obtain ⟨q1_0, q1_1⟩ := pf1 hs0
              subst q1_0
              subst q1_1
              clear hs0
              have kp1_0 := cell_of_row w' (w.heap.size) 0 _ _ _ pb1
              have kp1_1 := cell_of_row w' (w.heap.size) 1 _ _ _ pb1
              simp only [List.getElem?_toArray, List.getElem?_cons_zero, List.getElem?_cons_succ] at kp1_0 kp1_1
              have kq1 : ∀ o, w'.frozen? ⟨w.heap.size, o, none⟩ = false := fun o => frozen_of_row w' _ o _ _ pb1
              have hPB1 := Lib.hid pb1
              clear pb1
              have hPT1 := Lib.hid pt1
              clear pt1
              have hPF1 := Lib.hid pf1
              clear pf1
              clear hdep
              refine StepG.mk rfl ?_; rw [ha0]; simp only [putL, Act.put, List.setIfInBounds_toArray, List.set_cons_zero, List.set_cons_succ]
              go_wp2_with fail
              refine HK.out _ _ ?_
              refine ⟨v35, (.int .u8 49), (by rw [ha0]; simp only [putL, Act.put, List.setIfInBounds_toArray, List.set_cons_zero, List.set_cons_succ]), ?_, ?_, ?_, ?_, trivial⟩
              · obtain ⟨h35, h6, _⟩ := hR.out
                exact Lib.hid ⟨fun h => h35 (by simpa using h), fun _ => rfl, trivial⟩
              · exact hX
              · exact ⟨_, _, hPB1.out, fun h => hPT1.out (by simpa using h), fun h => ⟨rfl, rfl⟩⟩
              · exact fun h => (by have h1 := hQ1 (by simpa using h); simp [h1])
            case x9hs2 =>
              intro s a' w' hsk hdep hI K hK
              try dsimp only at hI hK
              obtain ⟨v35, v6, hact, hR, hX, hP1, hQ1, _⟩ := hI
              subst hact
              have HK := Lib.hid hK
              clear hK
              have e35 : v35 = .agg #[.int .i64 U, .int .i64 V] := by obtain ⟨h35, h6, _⟩ := hR.out; exact h35 (hdep ⟨0, .data⟩ (by simp) rfl)
              subst e35
              have kc0 : w'.cell? ⟨g7, 0, none⟩ = some (.int .i64 U) := hX.cell (by first | (simp; done) | (simp; omega)) (by first | assumption | (go_simp; done) | (simp; done))
              have kc1 : w'.cell? ⟨g7, 1, none⟩ = some (.int .i64 V) := hX.cell (by first | (simp; done) | (simp; omega)) (by first | assumption | (go_simp; done) | (simp; done))
              obtain ⟨b1_0, b1_1, pb1, pt1, pf1⟩ := hP1
              have hs0 : s 2 = false := hsk
              obtain ⟨q1_0, q1_1⟩ := pf1 hs0
              subst q1_0
              subst q1_1
              clear hs0
              have kp1_0 := cell_of_row w' (w.heap.size) 0 _ _ _ pb1
              have kp1_1 := cell_of_row w' (w.heap.size) 1 _ _ _ pb1
              simp only [List.getElem?_toArray, List.getElem?_cons_zero, List.getElem?_cons_succ] at kp1_0 kp1_1
              have kq1 : ∀ o, w'.frozen? ⟨w.heap.size, o, none⟩ = false := fun o => frozen_of_row w' _ o _ _ pb1
              have hPB1 := Lib.hid pb1
              clear pb1
              have hPT1 := Lib.hid pt1
              clear pt1
              have hPF1 := Lib.hid pf1
              clear pf1
              have hd0 : s 0 = true := hdep ⟨0, .data⟩ (by simp) rfl
              have hd1 : s 1 = true := hdep ⟨1, .chain⟩ (by simp) rfl
              clear hdep
              refine StepG.mk rfl ?_; rw [ha0]; simp only [putL, Act.put, List.setIfInBounds_toArray, List.set_cons_zero, List.set_cons_succ]
              go_wp2_with fail
              refine HK.out _ _ ?_
              refine ⟨(.agg #[.int .i64 U, .int .i64 V]), v6, (by rw [ha0]; simp only [putL, Act.put, List.setIfInBounds_toArray, List.set_cons_zero, List.set_cons_succ]), ?_, ?_, ?_, ?_, trivial⟩
              · obtain ⟨h35, h6, _⟩ := hR.out
                exact Lib.hid ⟨fun _ => rfl, fun h => h6 (by simpa using h), trivial⟩
              · exact ((hX.setOld (p := ⟨w.heap.size, 0, none⟩) (by simp) _).setOld (p := ⟨w.heap.size, 1, none⟩) (by simp) _)
              · exact ⟨_, _, blk_set2 hPB1.out, fun _ => ⟨rfl, rfl⟩, fun h => (by simp at h)⟩
              · exact fun _ => (by simp [hd0, hd1])
            intro s a' w11 hall hI
            try dsimp only at hI
            obtain ⟨v35, v6, hact, hR, hXR, hP1, hQ1, _⟩ := hI
            subst hact
            obtain ⟨h35, h6, _⟩ := hR.out
            clear hR
            have e35 := h35 (hall 0 (by decide))
            subst e35
            clear h35
            have e6 := h6 (hall 1 (by decide))
            subst e6
            clear h6
            obtain ⟨c0, c1, pblkR1, hpt, _⟩ := hP1
            clear hQ1
            obtain ⟨es0, es1⟩ := hpt (hall 2 (by decide))
            subst es0
            subst es1
            clear hpt
            try clear pblk1
            have pblk1 := pblkR1
            clear pblkR1
            clear hall
            rw [ha0]; simp only [putL, Act.put, List.setIfInBounds_toArray, List.set_cons_zero, List.set_cons_succ]
            clear ha0
            have B11 : Below w.heap.size w w11 := hXR.below (by first | assumption | exact (by repeat (first | exact Below.refl _ _ | exact Nat.le_refl _ | refine Below.alloc ?_ ?_ _ | refine Below.setCell ?_ ?_ _ | refine Below.drew ?_ | refine bl_drewN ?_ _ | (assumption) | refine bl_call ?_ (by assumption) ?_ | omega | (simp <;> omega)))) (by first | omega | (simp <;> omega)) (by simp <;> omega)
            have hpE : Pows w11 P := (hXR.block P hPw (by simp <;> omega)).trans HP10.out
            have XE := pblk1
            have IE := isBuilder_belX HI10.out hXR (by simp <;> omega)
            have BE := B11
            have hzE := isBuilder_lt IE
            clear hXR HP10 HI10 HY10 z0 z1 pblk1 B11 B10 hPw hXw
            by_cases hU : U = 0 ∧ V = 0
            · obtain ⟨rfl, rfl⟩ := hU
              have HFIN := Lib.hid (show (D) ++ [49] = ALL by rw [← HN.out, GM.frac_zero])
              have hlenD : (D).length ≤ 100 := by first | omega | (simp; omega)
              go_wp2_with (first
                | (go_at_call 79; refine (writeByte_any b0 b0 _ 49 _ IE (by rw [Lib.byteCells_length]; omega) (Nat.le_of_lt hzE)).mono ?_; rintro e w12 ⟨rfl, hI12, hb12⟩; have X12 := (hb12.block _ hXb).trans XE; have hp12 : Pows w12 P := (hb12.block _ hPb).trans hpE; have B12 := bl_call BE hb12 (Nat.le_of_lt hXb); have I12 : Lib.IsBuilder 83 5 b0 b0 (Lib.byteCells ((D) ++ [49])) w12 := (by rw [Lib.byteCells_append]; exact .inr hI12); have d0 := row2_0 X12; have d1 := row2_1 X12; have HX12 := Lib.hid X12; have HI12 := Lib.hid I12; have HP12 := Lib.hid hp12; have hz12 := isBuilder_lt I12; clear hI12 hb12 X12 hp12 I12 XE hpE IE BE hzE)
                | fail)
              have hAL : ALL.length ≤ 1000000 := by rw [← HFIN.out]; first | omega | (simp; omega)
              have htl := fun wx => trimLeft0 ALL wx hAL
              rcases HTC.out with ⟨hT, hX⟩ | ⟨l, hT, hX⟩ | ⟨c, l, hT, hcne, hX⟩
              · rw [hT] at htl
                have HTL := Lib.hid htl
                have HTX := Lib.hid hX
                clear htl hT hX
                go_wp2_with (first
                  | (go_at_call 55; refine (demand_yes _ _).mono ?_; rintro e w' ⟨rfl, rfl⟩)
                  | (go_at_call 81; refine (builderString_any b0 b0 ((D) ++ [49]) _ HI12.out (Nat.le_of_lt hz12)).mono ?_; rintro e w13 ⟨rfl, hb13⟩; rw [HFIN.out]; have B13 := bl_call B12 hb13 (Nat.le_of_lt hXb))
                  | (go_at_call 80; refine (HTL.out _).mono ?_; rintro e w' ⟨rfl, rfl⟩)
                  | fail)
                go_ret
                exact ⟨by rw [HTX.out]; rfl, B13⟩
              · rw [hT] at htl
                obtain ⟨t1, t2, t3, t4⟩ := str_cons 46 l
                have happ := str_nought (46 :: l)
                have tsz : (⟨(46 :: l).toArray⟩ : ByteArray).size ≤ ALL.length := by
                  rw [str_size, ← hT]; exact (List.dropWhile_sublist _).length_le
                rw [← hX] at happ
                have HAPP := Lib.hid happ
                clear happ hX hT
                generalize (⟨(46 :: l).toArray⟩ : ByteArray) = t at *
                have tsz2 : ¬ 9223372036854775807 < 1 + t.size := by omega
                have t5 : (t[0]'t3).toNat = 46 := by rw [t4]; rfl
                have t6 : (((t[0]'t3).toNat : Int) == 46) = true := by rw [t5]; rfl
                have t7 : ((t[0]'t3).toNat : Int) = 46 := by rw [t5]; rfl
                have HTL := Lib.hid htl
                clear htl t4 t5
                go_wp2_with (first
                  | (go_at_call 55; refine (demand_yes _ _).mono ?_; rintro e w' ⟨rfl, rfl⟩)
                  | (go_at_call 81; refine (builderString_any b0 b0 ((D) ++ [49]) _ HI12.out (Nat.le_of_lt hz12)).mono ?_; rintro e w13 ⟨rfl, hb13⟩; rw [HFIN.out]; have B13 := bl_call B12 hb13 (Nat.le_of_lt hXb))
                  | (go_at_call 80; refine (HTL.out _).mono ?_; rintro e w' ⟨rfl, rfl⟩)
                  | fail)
                go_ret
                exact ⟨by rw [← HAPP.out]; rfl, B13⟩
              · rw [hT] at htl
                obtain ⟨t1, t2, t3, t4⟩ := str_cons c l
                have happ : (⟨(c :: l).toArray⟩ : ByteArray) = ⟨(GM.textOf (a, b)).toArray⟩ := by rw [hX]
                have HAPP := Lib.hid happ
                clear happ hX hT
                generalize (⟨(c :: l).toArray⟩ : ByteArray) = t at *
                have t5 : ¬ ((t[0]'t3).toNat : Int) = 46 := by
                  rw [t4]; intro h
                  exact hcne (UInt8.toNat_inj.1 (by simpa using (by exact_mod_cast h : c.toNat = 46)))
                have t6 : (((t[0]'t3).toNat : Int) == 46) = false := by simpa using t5
                have HTL := Lib.hid htl
                clear htl t4
                go_wp2_with (first
                  | (go_at_call 55; refine (demand_yes _ _).mono ?_; rintro e w' ⟨rfl, rfl⟩)
                  | (go_at_call 81; refine (builderString_any b0 b0 ((D) ++ [49]) _ HI12.out (Nat.le_of_lt hz12)).mono ?_; rintro e w13 ⟨rfl, hb13⟩; rw [HFIN.out]; have B13 := bl_call B12 hb13 (Nat.le_of_lt hXb))
                  | (go_at_call 80; refine (HTL.out _).mono ?_; rintro e w' ⟨rfl, rfl⟩)
                  | fail)
                go_ret
                exact ⟨by rw [← HAPP.out]; rfl, B13⟩
            · skip
              have hlenD : (D).length ≤ 100 := by first | omega | (simp; omega)
              go_wp2_with (first
                | (go_at_call 79; refine (writeByte_any b0 b0 _ 49 _ IE (by rw [Lib.byteCells_length]; omega) (Nat.le_of_lt hzE)).mono ?_; rintro e w12 ⟨rfl, hI12, hb12⟩; have X12 := (hb12.block _ hXb).trans XE; have hp12 : Pows w12 P := (hb12.block _ hPb).trans hpE; have B12 := bl_call BE hb12 (Nat.le_of_lt hXb); have I12 : Lib.IsBuilder 83 5 b0 b0 (Lib.byteCells ((D) ++ [49])) w12 := (by rw [Lib.byteCells_append]; exact .inr hI12); have d0 := row2_0 X12; have d1 := row2_1 X12; have HX12 := Lib.hid X12; have HI12 := Lib.hid I12; have HP12 := Lib.hid hp12; have hz12 := isBuilder_lt I12; clear hI12 hb12 X12 hp12 I12 XE hpE IE BE hzE)
                | fail)
              all_goals (
                go_roundw
                case rel => exact ⟨m, U, V, (D) ++ [49], congrArg (Value.int .i64) (by omega), by omega, fun _ => hU, HLN, Lib.hid (by rw [GM.fut_lt _ _ (by omega), ← HN.out]; simp), by first | omega | (simp; omega), HX12.out, HP12.out, HI12.out, B12⟩
                case measure => first | (simp [intOf]; omega) | (simp [intOf]; done))
          · obtain ⟨en, ed⟩ := HX2'.out hsg
            rw [en, ed] at HN
            rw [en] at HLN
            clear HX1 HX2'
            go_upto_region 14 with (first
              | (go_at_call 68; refine (HSG.out _).mono ?_; rintro e w10 ⟨rfl, hb10⟩; have hpE : Pows w10 P := blk_call hb10 hp9; have XE := blk_call hb10 X9; have IE := isBuilder_belX I9 (BelX.ofBelow hb10) (by simp); have BE := bl_call B9 hb10 (by omega); have hzE := isBuilder_lt IE; clear hp9 X9 I9 B9 hb10 y0 y1 HBK hgs9)
              | fail)
            have hlenD : (D).length ≤ 100 := by first | omega | (simp; omega)
            go_wp2_with (first
              | (go_at_call 79; refine (writeByte_any b0 b0 _ 48 _ IE (by rw [Lib.byteCells_length]; omega) (Nat.le_of_lt hzE)).mono ?_; rintro e w12 ⟨rfl, hI12, hb12⟩; have X12 := (hb12.block _ hXb).trans XE; have hp12 : Pows w12 P := (hb12.block _ hPb).trans hpE; have B12 := bl_call BE hb12 (Nat.le_of_lt hXb); have I12 : Lib.IsBuilder 83 5 b0 b0 (Lib.byteCells ((D) ++ [48])) w12 := (by rw [Lib.byteCells_append]; exact .inr hI12); have d0 := row2_0 X12; have d1 := row2_1 X12; have HX12 := Lib.hid X12; have HI12 := Lib.hid I12; have HP12 := Lib.hid hp12; have hz12 := isBuilder_lt I12; clear hI12 hb12 X12 hp12 I12 XE hpE IE BE hzE)
              | fail)
            all_goals (
              go_roundw
              case rel => exact ⟨m, X, Y, (D) ++ [48], congrArg (Value.int .i64) (by omega), by omega, fun _ => hz, HLN, Lib.hid (by rw [GM.fut_lt _ _ (by omega), ← HN.out]; simp), by first | omega | (simp; omega), HX12.out, HP12.out, HI12.out, B12⟩
              case measure => first | (simp [intOf]; omega) | (simp [intOf]; done))
end Go.Proofs.YtgocloilagcfoabDoor
