/- number reads the value of a text, which must be a number. -/
import Derived.Test.YtgocloilagcfoabDoorG4
namespace Go.Proofs.YtgocloilagcfoabDoor
open Go.RowKit
attribute [local go_sem ↓] Go.wp_at_zero Go.wp_at_succ

theorem read_yes (l : List UInt8) (w : World) (hl : l.length ≤ 1000) (h : textOK l = true) :
    Calls Tryd.prog 53 #[.string ⟨l.toArray⟩] w fun e w' => e = .returned (.agg #[.int .i64 (valOf l).1, .int .i64 (valOf l).2]) ∧ Below w.heap.size w w' := by
  refine (read_any l w hl).mono ?_
  rintro e w' ⟨⟨_, rfl⟩ | ⟨h2, _⟩, hb⟩
  · exact ⟨rfl, hb⟩
  · rw [h] at h2; cases h2
theorem read_no (l : List UInt8) (w : World) (hl : l.length ≤ 1000) (h : textOK l = false) :
    Calls Tryd.prog 53 #[.string ⟨l.toArray⟩] w fun e w' => e = trouble 4 ∧ Below w.heap.size w w' := by
  refine (read_any l w hl).mono ?_
  rintro e w' ⟨⟨h2, _⟩ | ⟨_, rfl⟩, hb⟩
  · rw [h] at h2; cases h2
  · exact ⟨rfl, hb⟩

set_option maxRecDepth 100000 in
set_option maxHeartbeats 1000000 in
theorem number_yes (l : List UInt8) (w : World) (hl : l.length ≤ 1000) (h : textOK l = true) (hn : isN (valOf l).1 (valOf l).2 = true) :
    Calls Tryd.prog 62 #[.string ⟨l.toArray⟩] w fun e w' => e = .returned (.agg #[.int .i64 (valOf l).1, .int .i64 (valOf l).2]) ∧ Below w.heap.size w w' := by
  have HR := Lib.hid (fun wx => read_yes l wx hl h)
  generalize valOf l = v at *
  obtain ⟨X, Y⟩ := v
  dsimp only at *
  have HN := Lib.hid hn
  clear hn h hl
  generalize (⟨l.toArray⟩ : ByteArray) = t at *
  go_enter Tryd.func62, Tryd.ntmps62
  go_wp2_with (first
    | (go_at_call 53; refine (HR.out _).mono ?_; rintro e w1 ⟨rfl, hb1⟩; have R1 : w1.heap[w.heap.size]? = some (.cells #[.int .i64 0, .int .i64 0] 23 (0, 0)) := blk_call hb1 (by repeat (first | assumption | (with_reducible apply blk_set2) | (with_reducible apply blk_set1) | (with_reducible refine blk_far2 ?_ ?_; (first | omega | (simp; done) | (simp; omega))) | (with_reducible refine blk_far1 ?_ ?_; (first | omega | (simp; done) | (simp; omega))) | (with_reducible refine blk_new' _ _ ?_; (first | omega | (simp; done) | (simp; omega))) | (with_reducible refine blk_old ?_) | (with_reducible refine blk_drew ?_))); have B1 : Below w.heap.size w w1 := bl_call (by repeat (first | exact Below.refl _ _ | exact Nat.le_refl _ | refine Below.alloc ?_ ?_ _ | refine Below.setCell ?_ ?_ _ | refine Below.drew ?_ | refine bl_drewN ?_ _ | (assumption) | refine bl_call ?_ (by assumption) ?_ | omega | (simp <;> omega))) hb1 (by simp); have hz1 := blk_lt R1; clear hb1)
    | (go_at_call 56; refine (isNum _ _ _).mono ?_; rintro e w2 ⟨rfl, hb2⟩; rw [HN.out]; have R2 : w2.heap[w.heap.size]? = some (.cells #[.int .i64 0, .int .i64 0] 23 (0, 0)) := blk_call hb2 (by repeat (first | assumption | (with_reducible apply blk_set2) | (with_reducible apply blk_set1) | (with_reducible refine blk_far2 ?_ ?_; (first | omega | (simp; done) | (simp; omega))) | (with_reducible refine blk_far1 ?_ ?_; (first | omega | (simp; done) | (simp; omega))) | (with_reducible refine blk_new' _ _ ?_; (first | omega | (simp; done) | (simp; omega))) | (with_reducible refine blk_old ?_) | (with_reducible refine blk_drew ?_))); have X2 : w2.heap[w1.heap.size]? = some (.cells #[.int .i64 X, .int .i64 Y] 23 (0, 0)) := blk_call hb2 (by repeat (first | assumption | (with_reducible apply blk_set2) | (with_reducible apply blk_set1) | (with_reducible refine blk_far2 ?_ ?_; (first | omega | (simp; done) | (simp; omega))) | (with_reducible refine blk_far1 ?_ ?_; (first | omega | (simp; done) | (simp; omega))) | (with_reducible refine blk_new' _ _ ?_; (first | omega | (simp; done) | (simp; omega))) | (with_reducible refine blk_old ?_) | (with_reducible refine blk_drew ?_))); have B2 : Below w.heap.size w w2 := bl_call (B1.alloc (by omega) _) hb2 (by simp; omega); clear hb2 B1 R1; generalize w1.heap.size = O at X2 hz1 ⊢; have c0 := row2_0 X2; have c1 := row2_1 X2; have d0 := row2_0 R2; have d1 := row2_1 R2; have f1 := row_f R2; clear X2 R2)
    | (go_at_call 55; refine (demand_yes _ _).mono ?_; rintro e w' ⟨rfl, rfl⟩)
    | fail)
  exact bodyPost_ret (v := .agg #[.int .i64 X, .int .i64 Y]) (by simp [results, Tryd.results62, go_sem, *]) rfl ⟨rfl, (by repeat (first | exact Below.refl _ _ | exact Nat.le_refl _ | refine Below.alloc ?_ ?_ _ | refine Below.setCell ?_ ?_ _ | refine Below.drew ?_ | refine bl_drewN ?_ _ | (assumption) | refine bl_call ?_ (by assumption) ?_ | omega | (simp <;> omega)))⟩

set_option maxRecDepth 100000 in
set_option maxHeartbeats 1000000 in
theorem number_no (l : List UInt8) (w : World) (hl : l.length ≤ 1000) (h : textOK l = false) :
    Calls Tryd.prog 62 #[.string ⟨l.toArray⟩] w fun e w' => e = trouble 4 ∧ Below w.heap.size w w' := by
  have HR := Lib.hid (fun wx => read_no l wx hl h)
  clear h hl
  generalize (⟨l.toArray⟩ : ByteArray) = t at *
  go_enter Tryd.func62, Tryd.ntmps62
  go_wp2_with (first
    | (go_at_call 53; refine (HR.out _).mono ?_; rintro e w1 ⟨rfl, hb1⟩)
    | fail)
  exact ⟨rfl, rfl, bl_call (by repeat (first | exact Below.refl _ _ | exact Nat.le_refl _ | refine Below.alloc ?_ ?_ _ | refine Below.setCell ?_ ?_ _ | refine Below.drew ?_ | refine bl_drewN ?_ _ | (assumption) | refine bl_call ?_ (by assumption) ?_ | omega | (simp <;> omega))) hb1 (by simp)⟩

set_option maxRecDepth 100000 in
set_option maxHeartbeats 1000000 in
theorem number_full (l : List UInt8) (w : World) (hl : l.length ≤ 1000) (h : textOK l = true) (hn : isN (valOf l).1 (valOf l).2 = false) :
    Calls Tryd.prog 62 #[.string ⟨l.toArray⟩] w fun e w' => e = trouble 5 ∧ Below w.heap.size w w' := by
  have HR := Lib.hid (fun wx => read_yes l wx hl h)
  generalize valOf l = v at *
  obtain ⟨X, Y⟩ := v
  dsimp only at *
  have HN := Lib.hid hn
  clear hn h hl
  generalize (⟨l.toArray⟩ : ByteArray) = t at *
  go_enter Tryd.func62, Tryd.ntmps62
  go_wp2_with (first
    | (go_at_call 53; refine (HR.out _).mono ?_; rintro e w1 ⟨rfl, hb1⟩; have B1 : Below w.heap.size w w1 := bl_call (by repeat (first | exact Below.refl _ _ | exact Nat.le_refl _ | refine Below.alloc ?_ ?_ _ | refine Below.setCell ?_ ?_ _ | refine Below.drew ?_ | refine bl_drewN ?_ _ | (assumption) | refine bl_call ?_ (by assumption) ?_ | omega | (simp <;> omega))) hb1 (by simp); clear hb1)
    | (go_at_call 56; refine (isNum _ _ _).mono ?_; rintro e w2 ⟨rfl, hb2⟩; rw [HN.out]; have B2 : Below w.heap.size w w2 := bl_call (B1.alloc (by have := B1.size; omega) _) hb2 (by have := B1.size; simp; omega); clear hb2 B1)
    | (go_at_call 55; refine (demand_no _ _).mono ?_; rintro e w' ⟨rfl, rfl⟩)
    | fail)
  exact ⟨rfl, rfl, B2⟩
end Go.Proofs.YtgocloilagcfoabDoor
