/- Text returns the plain text of a number, or ErrArg. -/
import Derived.Test.YtgocloilagcfoabDoorG8
namespace Go.Proofs.YtgocloilagcfoabDoor
open Go.RowKit
attribute [local go_sem ↓] Go.wp_at_zero Go.wp_at_succ

theorem enter_text1 (x y : Value) : ∀ w, (callFunc 67 #[x, y]).run Tryd.prog w = .ok (.enter 67 #[x, y]) w := fun w => by kernel_rfl

set_option maxRecDepth 100000 in
set_option maxHeartbeats 1000000 in
theorem Text_yes (a b : Int) (w : World) (hn : isN a b = true) (h0 : 0 ≤ GM.sgn a b) :
    Calls Tryd.prog 36 #[.agg #[.int .i64 a, .int .i64 b]] w fun e w' => e = .returned (.tuple #[.string ⟨(GM.textOf (a, b)).toArray⟩, .int .i64 0]) ∧ Below w.heap.size w w' := by
  have hmf : ∀ (fn : Fn) (first cap : Array Value) (w : World), (Instr.makeFunc fn first cap).run Tryd.prog w = .ok (.func fn first cap) w := fun _ _ _ _ => rfl
  obtain ⟨S, hS⟩ : ∃ S : ByteArray, ⟨(GM.textOf (a, b)).toArray⟩ = S := ⟨_, rfl⟩
  have HT := fun (wx : World) gx gs s0 h1 h2 h3 => text1_yes a b gx gs s0 wx hn h0 h1 h2 h3
  rw [hS] at HT ⊢
  have HTT := Lib.hid HT
  clear hn h0 hS HT
  go_enter Tryd.func36, Tryd.ntmps36
  go_wp2_with fail
  obtain ⟨w2, h2⟩ : ∃ w2, w2 = (w.alloc (.cells #[.int .i64 a, .int .i64 b] 23)).alloc (.cells #[.string ⟨#[]⟩] 9) := ⟨_, rfl⟩
  rw [← h2]
  have X2 : w2.heap[w.heap.size]? = some (.cells #[.int .i64 a, .int .i64 b] 23 (0, 0)) := by rw [h2]; exact (by repeat (first | assumption | (with_reducible apply blk_set2) | (with_reducible apply blk_set1) | (with_reducible refine blk_far2 ?_ ?_; (first | omega | (simp; done) | (simp; omega))) | (with_reducible refine blk_far1 ?_ ?_; (first | omega | (simp; done) | (simp; omega))) | (with_reducible refine blk_new' _ _ ?_; (first | omega | (simp; done) | (simp; omega))) | (with_reducible refine blk_old ?_) | (with_reducible refine blk_drew ?_)))
  have S2 : w2.heap[w.heap.size + 1]? = some (.cells #[.string ⟨#[]⟩] 9 (0, 0)) := by rw [h2]; exact (by repeat (first | assumption | (with_reducible apply blk_set2) | (with_reducible apply blk_set1) | (with_reducible refine blk_far2 ?_ ?_; (first | omega | (simp; done) | (simp; omega))) | (with_reducible refine blk_far1 ?_ ?_; (first | omega | (simp; done) | (simp; omega))) | (with_reducible refine blk_new' _ _ ?_; (first | omega | (simp; done) | (simp; omega))) | (with_reducible refine blk_old ?_) | (with_reducible refine blk_drew ?_)))
  have B2 : Below w.heap.size w w2 := by rw [h2]; exact (by repeat (first | exact Below.refl _ _ | exact Nat.le_refl _ | refine Below.alloc ?_ ?_ _ | refine Below.setCell ?_ ?_ _ | refine Below.drew ?_ | refine bl_drewN ?_ _ | (assumption) | refine bl_call ?_ (by assumption) ?_ | omega | (simp <;> omega)))
  have hz := blk_lt S2
  clear h2
  refine (guard_ok 67 _ [w.heap.size + 1] w2 (fun w' => w'.heap[w.heap.size + 1]? = some (.cells #[.string S] 9 (0, 0))) (by simp; omega) (enter_text1 _ _) ?_ ?_).mono ?_
  · refine (HTT.out _ _ _ _ (by omega) (blk_old X2) (blk_old S2)).mono ?_
    exact fun e w' h => h
  · intro u v hu huv
    exact (huv.block _ (blk_lt hu) (by simp; omega)).trans hu
  · rintro e w3 ⟨rfl, hX, hS3⟩
    have B3 : Below w.heap.size w w3 := hX.below B2 (by omega) (by simp)
    have c0 := row1_0 hS3
    have f0 := row_f hS3
    clear hX X2 S2 B2
    go_wp2_with fail
    exact bodyPost_ret (v := .tuple #[.string S, .int .i64 0]) (by simp [results, Tryd.results36, go_sem, *]) rfl ⟨rfl, (by repeat (first | exact Below.refl _ _ | exact Nat.le_refl _ | refine Below.alloc ?_ ?_ _ | refine Below.setCell ?_ ?_ _ | refine Below.drew ?_ | refine bl_drewN ?_ _ | (assumption) | refine bl_call ?_ (by assumption) ?_ | omega | (simp <;> omega)))⟩

set_option maxRecDepth 100000 in
set_option maxHeartbeats 1000000 in
theorem Text_no (a b : Int) (w : World) (hn : ¬ (isN a b = true ∧ 0 ≤ GM.sgn a b)) :
    Calls Tryd.prog 36 #[.agg #[.int .i64 a, .int .i64 b]] w fun e w' => e = .returned (.tuple #[.string ⟨#[]⟩, .int .i64 2]) ∧ Below w.heap.size w w' := by
  have hmf : ∀ (fn : Fn) (first cap : Array Value) (w : World), (Instr.makeFunc fn first cap).run Tryd.prog w = .ok (.func fn first cap) w := fun _ _ _ _ => rfl
  have HTT := Lib.hid (fun (wx : World) gx gs h2 => text1_no a b gx gs wx hn h2)
  clear hn
  go_enter Tryd.func36, Tryd.ntmps36
  go_wp2_with fail
  obtain ⟨w2, h2⟩ : ∃ w2, w2 = (w.alloc (.cells #[.int .i64 a, .int .i64 b] 23)).alloc (.cells #[.string ⟨#[]⟩] 9) := ⟨_, rfl⟩
  rw [← h2]
  have X2 : w2.heap[w.heap.size]? = some (.cells #[.int .i64 a, .int .i64 b] 23 (0, 0)) := by rw [h2]; exact (by repeat (first | assumption | (with_reducible apply blk_set2) | (with_reducible apply blk_set1) | (with_reducible refine blk_far2 ?_ ?_; (first | omega | (simp; done) | (simp; omega))) | (with_reducible refine blk_far1 ?_ ?_; (first | omega | (simp; done) | (simp; omega))) | (with_reducible refine blk_new' _ _ ?_; (first | omega | (simp; done) | (simp; omega))) | (with_reducible refine blk_old ?_) | (with_reducible refine blk_drew ?_)))
  have S2 : w2.heap[w.heap.size + 1]? = some (.cells #[.string ⟨#[]⟩] 9 (0, 0)) := by rw [h2]; exact (by repeat (first | assumption | (with_reducible apply blk_set2) | (with_reducible apply blk_set1) | (with_reducible refine blk_far2 ?_ ?_; (first | omega | (simp; done) | (simp; omega))) | (with_reducible refine blk_far1 ?_ ?_; (first | omega | (simp; done) | (simp; omega))) | (with_reducible refine blk_new' _ _ ?_; (first | omega | (simp; done) | (simp; omega))) | (with_reducible refine blk_old ?_) | (with_reducible refine blk_drew ?_)))
  have B2 : Below w.heap.size w w2 := by rw [h2]; exact (by repeat (first | exact Below.refl _ _ | exact Nat.le_refl _ | refine Below.alloc ?_ ?_ _ | refine Below.setCell ?_ ?_ _ | refine Below.drew ?_ | refine bl_drewN ?_ _ | (assumption) | refine bl_call ?_ (by assumption) ?_ | omega | (simp <;> omega)))
  have hz := blk_lt S2
  clear h2
  refine (guard_panic 67 _ [] 2 w2 (fun w' => w'.heap[w.heap.size + 1]? = some (.cells #[.string ⟨#[]⟩] 9 (0, 0))) (by simp) (enter_text1 _ _) ?_ ?_).mono ?_
  · refine (HTT.out _ _ _ (blk_old X2)).mono ?_
    rintro e w' ⟨rfl, hX⟩
    exact ⟨rfl, hX, (hX.block _ (by simp; omega) (by simp)).trans (blk_old S2)⟩
  · intro u v hu huv
    exact (huv.block _ (blk_lt hu) (by simp; omega)).trans hu
  · rintro e w3 ⟨rfl, hX, hS3⟩
    have B3 : Below w.heap.size w w3 := hX.below B2 (by omega) (by simp)
    have c0 := row1_0 hS3
    have f0 := row_f hS3
    clear hX X2 S2 B2
    go_wp2_with fail
    exact bodyPost_ret (v := .tuple #[.string ⟨#[]⟩, .int .i64 2]) (by simp [results, Tryd.results36, go_sem, *]) rfl ⟨rfl, (by repeat (first | exact Below.refl _ _ | exact Nat.le_refl _ | refine Below.alloc ?_ ?_ _ | refine Below.setCell ?_ ?_ _ | refine Below.drew ?_ | refine bl_drewN ?_ _ | (assumption) | refine bl_call ?_ (by assumption) ?_ | omega | (simp <;> omega)))⟩
end Go.Proofs.YtgocloilagcfoabDoor
