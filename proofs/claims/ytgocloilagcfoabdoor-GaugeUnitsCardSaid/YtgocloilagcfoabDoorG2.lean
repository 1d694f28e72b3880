/- demand returns where something is so, and panics with an error where it is not. -/
import Derived.Test.YtgocloilagcfoabDoorG1
import Derived.Test.YtgocloilagcfoabDoorS2
import Derived.WalkLawsBesides
namespace Go.Proofs.YtgocloilagcfoabDoor
open Go.RowKit
attribute [local go_sem ↓] Go.wp_at_zero Go.wp_at_succ

theorem demand_yes (c : Int) (w : World) : Calls Tryd.prog 55 #[.bool true, .int .i64 c] w fun e w' => e = .returned (.tuple #[]) ∧ w = w' := by
  go_enter Tryd.func55, Tryd.ntmps55
  go_wp2
  go_end0
  exact ⟨rfl, rfl⟩

theorem demand_no (c : Int) (w : World) : Calls Tryd.prog 55 #[.bool false, .int .i64 c] w fun e w' => e = .panicked [{ v := .iface 76 (.agg #[.int .i64 c]), recovered := false }] ∧ w = w' := by
  go_enter Tryd.func55, Tryd.ntmps55
  go_wp2
  exact ⟨rfl, rfl, rfl⟩

/-- the powers lie in a block -/
def Pows (w : World) (g : Nat) : Prop := w.heap[g]? = some (.cells (fl ((List.range 81).map GM.pt)).toArray 58 (0, 0))
theorem Pows.cells {w : World} {g : Nat} (h : Pows w g) {m : Nat} (hm : m < 81) :
    w.cell? ⟨g, m * 2, none⟩ = some (.int .i64 (GM.pt m).1) ∧ w.cell? ⟨g, m * 2 + 1, none⟩ = some (.int .i64 (GM.pt m).2) := by
  have hl : ((List.range 81).map GM.pt)[m]? = some (GM.pt m) := by simp [hm]
  unfold Pows at h
  rw [row_n h, row_n h]
  exact ⟨fl_get0 _ m _ hl, fl_get1 _ m _ hl⟩

set_option maxHeartbeats 1000000 in
theorem of_any (g : Nat) (k : Int) (m : Nat) (w : World) (h : Pows w g) (hk : 40 + k = m) (hm : m < 81) :
    Calls Tryd.prog 48 #[.pointer (some ⟨g, 0, none⟩), .int .i64 k] w fun e w' => e = .returned (.agg #[.int .i64 (GM.pt m).1, .int .i64 (GM.pt m).2]) ∧ Below w.heap.size w w' := by
  obtain ⟨c0, c1⟩ := h.cells hm
  have hg := blk_lt h
  clear h
  have hne : ¬ g = w.heap.size := by omega
  have hne' : ¬ w.heap.size = g := by omega
  go_enter Tryd.func48, Tryd.ntmps48
  go_wp2
  exact bodyPost_ret (v := .agg #[.int .i64 (GM.pt m).1, .int .i64 (GM.pt m).2]) (by simp [results, Tryd.results48, go_sem, *]) rfl ⟨rfl, (by repeat (first | exact Below.refl _ _ | exact Nat.le_refl _ | refine Below.alloc ?_ ?_ _ | refine Below.setCell ?_ ?_ _ | refine Below.drew ?_ | refine bl_drewN ?_ _ | (assumption) | refine bl_call ?_ (by assumption) ?_ | omega | (simp <;> omega)))⟩

theorem pows_size : (fl ((List.range 81).map GM.pt)).toArray.size = 162 := by simp [fl_length]
theorem pows_one : (fl ((List.range 81).map GM.pt)).toArray.all (·.oneCell') = true := by
  rw [Array.all_eq_true_iff_forall_mem]
  intro u hu
  exact fl_one _ u (by simpa using hu)

theorem wpList_store_pows {ops : Array Oper} {rest : List Oper} {o : Oper} {a : Act} {w1 : World} {Q : Exit → Act → World → Prop} (hgd : o.guard = none) (x y : Operand) (ho : o.op = .store 58 x y)
    (hx : a.eval x = .pointer (some ⟨w1.heap.size, 0, none⟩)) (hy : a.eval y = .agg (fl ((List.range 81).map GM.pt)).toArray)
    (h : ∀ w2, Pows w2 w1.heap.size → Below w1.heap.size w1 w2 → w1.heap.size < w2.heap.size → wpList Tryd.prog ops Q rest (a.put o.dst undef) w2) :
    wpList Tryd.prog ops Q (o :: rest) a (w1.alloc (.cells Tryd.zeroCells58 58)) := by
  refine wpList_store_row hgd 58 x y ho w1.heap.size _ hx hy 58 Tryd.zeroCells58 (blk_new _ _) (by rw [pows_size]; exact size75) (by rw [pows_size, zero75]; simp [fl_length]) pows_one ?_
  refine h _ (setRow_heap _ _ _ _ _ _ (blk_new _ _)) (below_setRow ((Below.refl _ _).alloc (Nat.le_refl _) _) (Nat.le_refl _) _) (by simp)

set_option maxRecDepth 100000 in
set_option maxHeartbeats 1000000 in
theorem Power_yes (k : Int) (m : Nat) (w : World) (h1 : -25 ≤ k) (h2 : k ≤ 25) (hk : 40 + k = m) :
    Calls Tryd.prog 14 #[.int .i64 k] w fun e w' => e = .returned (.tuple #[.agg #[.int .i64 (GM.pt m).1, .int .i64 (GM.pt m).2], .int .i64 0]) ∧ Below w.heap.size w w' := by
  have hm : m < 81 := by omega
  go_enter Tryd.func14, Tryd.ntmps14
  go_wp2_with (first | (go_at_call 46; refine (within_any _ _ _ _).mono ?_; rintro e w' ⟨rfl, rfl⟩) | fail)
  refine (newPowers_any _).mono ?_
  rintro e w1 ⟨rfl, hb1⟩
  have R1 : w1.heap[w.heap.size]? = some (.cells #[.int .i64 0, .int .i64 0] 23 (0, 0)) := blk_call hb1 (by repeat (first | assumption | (with_reducible apply blk_set2) | (with_reducible apply blk_set1) | (with_reducible refine blk_far2 ?_ ?_; (first | omega | (simp; done) | (simp; omega))) | (with_reducible refine blk_far1 ?_ ?_; (first | omega | (simp; done) | (simp; omega))) | (with_reducible refine blk_new' _ _ ?_; (first | omega | (simp; done) | (simp; omega))) | (with_reducible refine blk_old ?_) | (with_reducible refine blk_drew ?_)))
  have B1 : Below w.heap.size w w1 := bl_call (by repeat (first | exact Below.refl _ _ | exact Nat.le_refl _ | refine Below.alloc ?_ ?_ _ | refine Below.setCell ?_ ?_ _ | refine Below.drew ?_ | refine bl_drewN ?_ _ | (assumption) | refine bl_call ?_ (by assumption) ?_ | omega | (simp <;> omega))) hb1 (by simp)
  clear hb1
  generalize hR : (fl ((List.range 81).map GM.pt)).toArray = R
  have HR := Lib.hid hR
  clear hR
  go_wp2_with (refine wpList_store_pows rfl (.tmp 4) (.tmp 9) rfl rfl (by rw [HR.out]; rfl) ?_)
  intro w2 hp hb hs
  have R2 := blk_call hb R1
  have B2 := bl_call B1 hb (by have := blk_lt R1; omega)
  have hP := blk_lt R1
  generalize w1.heap.size = P at hp hb hs hP ⊢
  clear R1 B1 hb
  go_wp2_with (first | (go_at_call 48; refine (of_any P _ m _ hp hk hm).mono ?_; rintro e w3 ⟨rfl, hb⟩; have R3 := blk_call hb R2; have B3 := bl_call B2 hb (by omega); have c0 := row2_0 R3; have c1 := row2_1 R3; have f0 := row_f R3; have HR3 := Lib.hid R3; clear R2 R3 hb hp) | fail)
  exact bodyPost_ret (v := .tuple #[.agg #[.int .i64 (GM.pt m).1, .int .i64 (GM.pt m).2], .int .i64 0]) (by simp [results, Tryd.results14, go_sem, *]) rfl ⟨rfl, (by repeat (first | exact Below.refl _ _ | exact Nat.le_refl _ | refine Below.alloc ?_ ?_ _ | refine Below.setCell ?_ ?_ _ | refine Below.drew ?_ | refine bl_drewN ?_ _ | (assumption) | refine bl_call ?_ (by assumption) ?_ | omega | (simp <;> omega)))⟩
theorem Power_no (k : Int) (w : World) (h : ¬ (-25 ≤ k ∧ k ≤ 25)) :
    Calls Tryd.prog 14 #[.int .i64 k] w fun e w' => e = .returned (.tuple #[.agg #[.int .i64 0, .int .i64 0], .int .i64 2]) ∧ Below w.heap.size w w' := by
  have hw : (decide (-25 ≤ k) && decide (k ≤ 25)) = false := by
    by_cases h1 : -25 ≤ k <;> by_cases h2 : k ≤ 25 <;> simp [h1, h2] <;> omega
  have HW := Lib.hid hw
  clear hw h
  go_enter Tryd.func14, Tryd.ntmps14
  go_wp2_with (first | (go_at_call 46; refine (within_any _ _ _ _).mono ?_; rintro e w' ⟨rfl, rfl⟩; rw [HW.out]) | fail)
  exact bodyPost_ret (v := .tuple #[.agg #[.int .i64 0, .int .i64 0], .int .i64 2]) (by simp [results, Tryd.results14, go_sem, *]) rfl ⟨rfl, (by repeat (first | exact Below.refl _ _ | exact Nat.le_refl _ | refine Below.alloc ?_ ?_ _ | refine Below.setCell ?_ ?_ _ | refine Below.drew ?_ | refine bl_drewN ?_ _ | (assumption) | refine bl_call ?_ (by assumption) ?_ | omega | (simp <;> omega)))⟩
end Go.Proofs.YtgocloilagcfoabDoor
