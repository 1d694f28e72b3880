/- demand returns where something is so, and panics with an error where it is not. -/
import Derived.Test.YtgocloilagcfoaaDoorG1
import Derived.Test.YtgocloilagcfoaaDoorS2
import Derived.WalkLawsBesides
namespace Go.Proofs.YtgocloilagcfoaaDoor
open Go.RowKit
attribute [local go_sem ↓] Go.wp_at_zero Go.wp_at_succ

theorem demand_yes (c : Int) (w : World) : Calls Tryd.prog 44 #[.bool true, .int .i64 c] w fun e w' => e = .returned (.tuple #[]) ∧ w = w' := by
  go_enter Tryd.func44, Tryd.ntmps44
  go_wp2
  go_end0
  exact ⟨rfl, rfl⟩

theorem demand_no (c : Int) (w : World) : Calls Tryd.prog 44 #[.bool false, .int .i64 c] w fun e w' => e = .panicked [{ v := .iface 69 (.agg #[.int .i64 c]), recovered := false }] ∧ w = w' := by
  go_enter Tryd.func44, Tryd.ntmps44
  go_wp2
  exact ⟨rfl, rfl, rfl⟩

/-- the powers lie in a block -/
def Pows (w : World) (g : Nat) : Prop := w.heap[g]? = some (.cells (fl ((List.range 81).map GM.pt)).toArray 71 (0, 0))
theorem Pows.cells {w : World} {g : Nat} (h : Pows w g) {m : Nat} (hm : m < 81) :
    w.cell? ⟨g, m * 2, none⟩ = some (.int .i64 (GM.pt m).1) ∧ w.cell? ⟨g, m * 2 + 1, none⟩ = some (.int .i64 (GM.pt m).2) := by
  have hl : ((List.range 81).map GM.pt)[m]? = some (GM.pt m) := by simp [hm]
  unfold Pows at h
  rw [row_n h, row_n h]
  exact ⟨fl_get0 _ m _ hl, fl_get1 _ m _ hl⟩

set_option maxHeartbeats 1000000 in
theorem of_any (g : Nat) (k : Int) (m : Nat) (w : World) (h : Pows w g) (hk : 40 + k = m) (hm : m < 81) :
    Calls Tryd.prog 67 #[.pointer (some ⟨g, 0, none⟩), .int .i64 k] w fun e w' => e = .returned (.agg #[.int .i64 (GM.pt m).1, .int .i64 (GM.pt m).2]) ∧ Below w.heap.size w w' := by
  obtain ⟨c0, c1⟩ := h.cells hm
  have hg := blk_lt h
  clear h
  have hne : ¬ g = w.heap.size := by omega
  have hne' : ¬ w.heap.size = g := by omega
  go_enter Tryd.func67, Tryd.ntmps67
  go_wp2
  exact bodyPost_ret (v := .agg #[.int .i64 (GM.pt m).1, .int .i64 (GM.pt m).2]) (by simp [results, Tryd.results67, go_sem, *]) rfl ⟨rfl, (by repeat (first | exact Below.refl _ _ | exact Nat.le_refl _ | refine Below.alloc ?_ ?_ _ | refine Below.setCell ?_ ?_ _ | refine Below.drew ?_ | refine bl_drewN ?_ _ | (assumption) | refine bl_call ?_ (by assumption) ?_ | omega | (simp <;> omega)))⟩

theorem pows_size : (fl ((List.range 81).map GM.pt)).toArray.size = 162 := by simp [fl_length]
theorem pows_one : (fl ((List.range 81).map GM.pt)).toArray.all (·.oneCell') = true := by
  rw [Array.all_eq_true_iff_forall_mem]
  intro u hu
  exact fl_one _ u (by simpa using hu)

theorem wpList_store_pows {ops : Array Oper} {rest : List Oper} {o : Oper} {a : Act} {w1 : World} {Q : Exit → Act → World → Prop} (hgd : o.guard = none) (x y : Operand) (ho : o.op = .store 71 x y)
    (hx : a.eval x = .pointer (some ⟨w1.heap.size, 0, none⟩)) (hy : a.eval y = .agg (fl ((List.range 81).map GM.pt)).toArray)
    (h : ∀ w2, Pows w2 w1.heap.size → Below w1.heap.size w1 w2 → w1.heap.size < w2.heap.size → wpList Tryd.prog ops Q rest (a.put o.dst undef) w2) :
    wpList Tryd.prog ops Q (o :: rest) a (w1.alloc (.cells Tryd.zeroCells71 71)) := by
  refine wpList_store_row hgd 71 x y ho w1.heap.size _ hx hy 71 Tryd.zeroCells71 (blk_new _ _) (by rw [pows_size]; exact size75) (by rw [pows_size, zero75]; simp [fl_length]) pows_one ?_
  refine h _ (setRow_heap _ _ _ _ _ _ (blk_new _ _)) (below_setRow ((Below.refl _ _).alloc (Nat.le_refl _) _) (Nat.le_refl _) _) (by simp)

end Go.Proofs.YtgocloilagcfoaaDoor
