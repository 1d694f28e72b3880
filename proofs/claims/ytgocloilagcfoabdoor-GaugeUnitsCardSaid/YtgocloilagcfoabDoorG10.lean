/- Value returns the value of a text; Plain its plain text; or the error. -/
import Derived.Test.YtgocloilagcfoabDoorG9
namespace Go.Proofs.YtgocloilagcfoabDoor
open Go.RowKit
attribute [local go_sem ↓] Go.wp_at_zero Go.wp_at_succ

/-- what the panics of number are -/
def numErr (l : List UInt8) : Int := if textOK l = true then 5 else 4
theorem number_err (l : List UInt8) (w : World) (hl : l.length ≤ 1000) (h : ¬ (textOK l = true ∧ isN (valOf l).1 (valOf l).2 = true)) :
    Calls Tryd.prog 62 #[.string ⟨l.toArray⟩] w fun e w' => e = trouble (numErr l) ∧ Below w.heap.size w w' := by
  unfold numErr
  by_cases h1 : textOK l = true
  · have h2 : isN (valOf l).1 (valOf l).2 = false := by
      cases e : isN (valOf l).1 (valOf l).2
      · rfl
      · exact absurd ⟨h1, e⟩ h
    rw [if_pos h1]
    exact number_full l w hl h1 h2
  · rw [if_neg h1]
    exact number_no l w hl (by simpa using h1)

set_option maxRecDepth 100000 in
set_option maxHeartbeats 1000000 in
theorem value1_yes (l : List UInt8) (gt gx : Nat) (u v : Value) (w : World) (hl : l.length ≤ 1000) (h1 : textOK l = true) (h2 : isN (valOf l).1 (valOf l).2 = true)
    (ht : w.heap[gt]? = some (.cells #[.string ⟨l.toArray⟩] 9 (0, 0))) (hx : w.heap[gx]? = some (.cells #[u, v] 23 (0, 0))) :
    Calls Tryd.prog 63 #[.pointer (some ⟨gt, 0, none⟩), .pointer (some ⟨gx, 0, none⟩)] w fun e w' => e = .returned (.tuple #[]) ∧ BelX [gx] w w' ∧ w'.heap[gx]? = some (.cells #[.int .i64 (valOf l).1, .int .i64 (valOf l).2] 23 (0, 0)) := by
  have HN := Lib.hid (fun wx => number_yes l wx hl h1 h2)
  generalize valOf l = x at *
  obtain ⟨X, Y⟩ := x
  dsimp only at *
  have c0 := row1_0 ht
  have HX := Lib.hid hx
  clear ht hx h1 h2 hl
  generalize (⟨l.toArray⟩ : ByteArray) = t at *
  go_enter Tryd.func63, Tryd.ntmps63
  go_wp2_with (first
    | (go_at_call 62; refine (HN.out _).mono ?_; rintro e w1 ⟨rfl, hb1⟩; have X1 := blk_call hb1 HX.out; have B1 := BelX.ofBelow hb1; have d0 := row2_0 X1; have d1 := row2_1 X1; have d2 := row_f X1; have HX1 := Lib.hid X1; clear hb1 X1)
    | fail)
  go_end0
  exact ⟨rfl, ((B1.wider (bs' := [gx]) (by simp)).setOld (p := ⟨gx, 0, none⟩) (by simp) _).setOld (p := ⟨gx, 1, none⟩) (by simp) _, blk_set2 HX1.out⟩
set_option maxRecDepth 100000 in
set_option maxHeartbeats 1000000 in
theorem value1_no (l : List UInt8) (gt gx : Nat) (w : World) (hl : l.length ≤ 1000) (h : ¬ (textOK l = true ∧ isN (valOf l).1 (valOf l).2 = true))
    (ht : w.heap[gt]? = some (.cells #[.string ⟨l.toArray⟩] 9 (0, 0))) :
    Calls Tryd.prog 63 #[.pointer (some ⟨gt, 0, none⟩), .pointer (some ⟨gx, 0, none⟩)] w fun e w' => e = trouble (numErr l) ∧ BelX [] w w' := by
  have HN := Lib.hid (fun wx => number_err l wx hl h)
  generalize numErr l = c at *
  have c0 := row1_0 ht
  clear ht h hl
  generalize (⟨l.toArray⟩ : ByteArray) = t at *
  go_enter Tryd.func63, Tryd.ntmps63
  go_wp2_with (first
    | (go_at_call 62; refine (HN.out _).mono ?_; rintro e w1 ⟨rfl, hb1⟩)
    | fail)
  exact ⟨rfl, rfl, BelX.ofBelow hb1⟩

theorem enter_value1 (x y : Value) : ∀ w, (callFunc 63 #[x, y]).run Tryd.prog w = .ok (.enter 63 #[x, y]) w := fun w => by kernel_rfl

set_option maxRecDepth 100000 in
set_option maxHeartbeats 1000000 in
theorem Value_yes (l : List UInt8) (w : World) (hl : l.length ≤ 1000) (h1 : textOK l = true) (h2 : isN (valOf l).1 (valOf l).2 = true) :
    Calls Tryd.prog 28 #[.string ⟨l.toArray⟩] w fun e w' => e = .returned (.tuple #[.agg #[.int .i64 (valOf l).1, .int .i64 (valOf l).2], .int .i64 0]) ∧ Below w.heap.size w w' := by
  have HV := Lib.hid (fun (wx : World) gt gx u v ht hx => value1_yes l gt gx u v wx hl h1 h2 ht hx)
  clear h1 h2 hl
  obtain ⟨⟨X, Y⟩, hXY⟩ : ∃ p, valOf l = p := ⟨_, rfl⟩
  rw [hXY] at HV ⊢
  dsimp only at HV ⊢
  clear hXY
  have hmf : ∀ (fn : Fn) (first cap : Array Value) (w : World), (Instr.makeFunc fn first cap).run Tryd.prog w = .ok (.func fn first cap) w := fun _ _ _ _ => rfl
  go_enter Tryd.func28, Tryd.ntmps28
  go_wp2_with fail
  obtain ⟨w2, h2⟩ : ∃ w2, w2 = (w.alloc (.cells #[.string ⟨l.toArray⟩] 9)).alloc (.cells #[.int .i64 0, .int .i64 0] 23) := ⟨_, rfl⟩
  rw [← h2]
  have X2 : w2.heap[w.heap.size]? = some (.cells #[.string ⟨l.toArray⟩] 9 (0, 0)) := by rw [h2]; exact (by repeat (first | assumption | (with_reducible apply blk_set2) | (with_reducible apply blk_set1) | (with_reducible refine blk_far2 ?_ ?_; (first | omega | (simp; done) | (simp; omega))) | (with_reducible refine blk_far1 ?_ ?_; (first | omega | (simp; done) | (simp; omega))) | (with_reducible refine blk_new' _ _ ?_; (first | omega | (simp; done) | (simp; omega))) | (with_reducible refine blk_old ?_) | (with_reducible refine blk_drew ?_)))
  have S2 : w2.heap[w.heap.size + 1]? = some (.cells #[.int .i64 0, .int .i64 0] 23 (0, 0)) := by rw [h2]; exact (by repeat (first | assumption | (with_reducible apply blk_set2) | (with_reducible apply blk_set1) | (with_reducible refine blk_far2 ?_ ?_; (first | omega | (simp; done) | (simp; omega))) | (with_reducible refine blk_far1 ?_ ?_; (first | omega | (simp; done) | (simp; omega))) | (with_reducible refine blk_new' _ _ ?_; (first | omega | (simp; done) | (simp; omega))) | (with_reducible refine blk_old ?_) | (with_reducible refine blk_drew ?_)))
  have B2 : Below w.heap.size w w2 := by rw [h2]; exact (by repeat (first | exact Below.refl _ _ | exact Nat.le_refl _ | refine Below.alloc ?_ ?_ _ | refine Below.setCell ?_ ?_ _ | refine Below.drew ?_ | refine bl_drewN ?_ _ | (assumption) | refine bl_call ?_ (by assumption) ?_ | omega | (simp <;> omega)))
  have hz := blk_lt S2
  clear h2
  refine (guard_ok 63 _ [w.heap.size + 1] w2 (fun w' => w'.heap[w.heap.size + 1]? = some (.cells #[.int .i64 X, .int .i64 Y] 23 (0, 0))) (by simp; omega) (enter_value1 _ _) ?_ ?_).mono ?_
  · refine (HV.out _ _ _ _ _ (blk_old X2) (blk_old S2)).mono ?_
    exact fun e w' h => h
  · intro u v hu huv
    exact (huv.block _ (blk_lt hu) (by simp; omega)).trans hu
  · rintro e w3 ⟨rfl, hX, hS3⟩
    have B3 : Below w.heap.size w w3 := hX.below B2 (by omega) (by simp)
    have c0 := row2_0 hS3
    have c1 := row2_1 hS3
    have f0 := row_f hS3
    clear hX X2 S2 B2
    go_wp2_with fail
    exact bodyPost_ret (v := .tuple #[.agg #[.int .i64 X, .int .i64 Y], .int .i64 (0)]) (by simp [results, Tryd.results28, go_sem, *]) rfl ⟨rfl, (by repeat (first | exact Below.refl _ _ | exact Nat.le_refl _ | refine Below.alloc ?_ ?_ _ | refine Below.setCell ?_ ?_ _ | refine Below.drew ?_ | refine bl_drewN ?_ _ | (assumption) | refine bl_call ?_ (by assumption) ?_ | omega | (simp <;> omega)))⟩

set_option maxRecDepth 100000 in
set_option maxHeartbeats 1000000 in
theorem Value_no (l : List UInt8) (w : World) (hl : l.length ≤ 1000) (h : ¬ (textOK l = true ∧ isN (valOf l).1 (valOf l).2 = true)) :
    Calls Tryd.prog 28 #[.string ⟨l.toArray⟩] w fun e w' => e = .returned (.tuple #[.agg #[.int .i64 0, .int .i64 0], .int .i64 (numErr l)]) ∧ Below w.heap.size w w' := by
  have HV := Lib.hid (fun (wx : World) gt gx ht => value1_no l gt gx wx hl h ht)
  clear h hl
  obtain ⟨c, hc⟩ : ∃ c, numErr l = c := ⟨_, rfl⟩
  rw [hc] at HV ⊢
  clear hc
  have hmf : ∀ (fn : Fn) (first cap : Array Value) (w : World), (Instr.makeFunc fn first cap).run Tryd.prog w = .ok (.func fn first cap) w := fun _ _ _ _ => rfl
  go_enter Tryd.func28, Tryd.ntmps28
  go_wp2_with fail
  obtain ⟨w2, h2⟩ : ∃ w2, w2 = (w.alloc (.cells #[.string ⟨l.toArray⟩] 9)).alloc (.cells #[.int .i64 0, .int .i64 0] 23) := ⟨_, rfl⟩
  rw [← h2]
  have X2 : w2.heap[w.heap.size]? = some (.cells #[.string ⟨l.toArray⟩] 9 (0, 0)) := by rw [h2]; exact (by repeat (first | assumption | (with_reducible apply blk_set2) | (with_reducible apply blk_set1) | (with_reducible refine blk_far2 ?_ ?_; (first | omega | (simp; done) | (simp; omega))) | (with_reducible refine blk_far1 ?_ ?_; (first | omega | (simp; done) | (simp; omega))) | (with_reducible refine blk_new' _ _ ?_; (first | omega | (simp; done) | (simp; omega))) | (with_reducible refine blk_old ?_) | (with_reducible refine blk_drew ?_)))
  have S2 : w2.heap[w.heap.size + 1]? = some (.cells #[.int .i64 0, .int .i64 0] 23 (0, 0)) := by rw [h2]; exact (by repeat (first | assumption | (with_reducible apply blk_set2) | (with_reducible apply blk_set1) | (with_reducible refine blk_far2 ?_ ?_; (first | omega | (simp; done) | (simp; omega))) | (with_reducible refine blk_far1 ?_ ?_; (first | omega | (simp; done) | (simp; omega))) | (with_reducible refine blk_new' _ _ ?_; (first | omega | (simp; done) | (simp; omega))) | (with_reducible refine blk_old ?_) | (with_reducible refine blk_drew ?_)))
  have B2 : Below w.heap.size w w2 := by rw [h2]; exact (by repeat (first | exact Below.refl _ _ | exact Nat.le_refl _ | refine Below.alloc ?_ ?_ _ | refine Below.setCell ?_ ?_ _ | refine Below.drew ?_ | refine bl_drewN ?_ _ | (assumption) | refine bl_call ?_ (by assumption) ?_ | omega | (simp <;> omega)))
  have hz := blk_lt S2
  clear h2
  refine (guard_panic 63 _ [] c w2 (fun w' => w'.heap[w.heap.size + 1]? = some (.cells #[.int .i64 0, .int .i64 0] 23 (0, 0))) (by simp) (enter_value1 _ _) ?_ ?_).mono ?_
  · refine (HV.out _ _ _ (blk_old X2)).mono ?_
    rintro e w' ⟨rfl, hX⟩
    exact ⟨rfl, hX, (hX.block _ (by simp; omega) (by simp)).trans (blk_old S2)⟩
  · intro u v hu huv
    exact (huv.block _ (blk_lt hu) (by simp; omega)).trans hu
  · rintro e w3 ⟨rfl, hX, hS3⟩
    have B3 : Below w.heap.size w w3 := hX.below B2 (by omega) (by simp)
    have c0 := row2_0 hS3
    have c1 := row2_1 hS3
    have f0 := row_f hS3
    clear hX X2 S2 B2
    go_wp2_with fail
    exact bodyPost_ret (v := .tuple #[.agg #[.int .i64 0, .int .i64 0], .int .i64 (c)]) (by simp [results, Tryd.results28, go_sem, *]) rfl ⟨rfl, (by repeat (first | exact Below.refl _ _ | exact Nat.le_refl _ | refine Below.alloc ?_ ?_ _ | refine Below.setCell ?_ ?_ _ | refine Below.drew ?_ | refine bl_drewN ?_ _ | (assumption) | refine bl_call ?_ (by assumption) ?_ | omega | (simp <;> omega)))⟩
theorem sg_times (p : GM.G) (h : 0 ≤ GM.sg p) (d : Nat) : 0 ≤ GM.sg ((d : Int) * p.1, (d : Int) * p.2) := by
  induction d with
  | zero => simp; decide
  | succ d ih =>
    have := (GM.sg_add _ _).1 ih h
    unfold GM.add at this
    rw [show ((d + 1 : Nat) : Int) * p.1 = (d : Int) * p.1 + p.1 by grind, show ((d + 1 : Nat) : Int) * p.2 = (d : Int) * p.2 + p.2 by grind]
    exact this
theorem vl_nonneg (l : List UInt8) : ∀ i, (∀ c ∈ l, 48 ≤ c.toNat) → 0 ≤ GM.sg (GM.vl i l) := by
  induction l with
  | nil => intro i _; show 0 ≤ GM.sg (0, 0); decide
  | cons c l ih =>
    intro i h
    have h1 := h c List.mem_cons_self
    have h2 := sg_times (GM.pt (i - 1)) (Int.le_of_lt (GM.pt_pos _)) (c.toNat - 48)
    rw [show ((c.toNat - 48 : Nat) : Int) = (c.toNat : Int) - 48 by omega] at h2
    exact (GM.sg_add _ _).1 h2 (ih (i - 1) (fun d hd => h d (List.mem_cons_of_mem _ hd)))
theorem num_nonneg (l : List UInt8) (h : textOK l = true) : 0 ≤ GM.sgn (valOf l).1 (valOf l).2 := by
  unfold textOK at h
  simp only [Bool.and_eq_true] at h
  obtain ⟨h1, h2⟩ := h
  refine vl_nonneg _ _ ?_
  intro c hc
  rcases List.mem_append.1 hc with hc | hc
  · exact ((partOK_len1 h1).2.2 c hc).1
  · split at hc
    · rename_i hp
      rw [hp] at h2
      simp at h2
      exact ((partOK_len1 h2).2.2 c hc).1
    · cases hc

set_option maxRecDepth 100000 in
set_option maxHeartbeats 1000000 in
theorem plain1_yes (l : List UInt8) (gt gx : Nat) (u : Value) (w : World) (hl : l.length ≤ 1000) (h1 : textOK l = true) (h2 : isN (valOf l).1 (valOf l).2 = true) (h0 : 0 ≤ GM.sgn (valOf l).1 (valOf l).2)
    (ht : w.heap[gt]? = some (.cells #[.string ⟨l.toArray⟩] 9 (0, 0))) (hx : w.heap[gx]? = some (.cells #[u] 9 (0, 0))) :
    Calls Tryd.prog 61 #[.pointer (some ⟨gt, 0, none⟩), .pointer (some ⟨gx, 0, none⟩)] w fun e w' => e = .returned (.tuple #[]) ∧ BelX [gx] w w' ∧ w'.heap[gx]? = some (.cells #[.string ⟨(GM.textOf (valOf l)).toArray⟩] 9 (0, 0)) := by
  have HN := Lib.hid (fun wx => number_yes l wx hl h1 h2)
  have HW := Lib.hid (fun wx => write_any (valOf l).1 (valOf l).2 wx ((isN_iff _ _).1 h2) h0)
  generalize valOf l = x at *
  obtain ⟨X, Y⟩ := x
  dsimp only at *
  obtain ⟨S, hS⟩ : ∃ S : ByteArray, ⟨(GM.textOf (X, Y)).toArray⟩ = S := ⟨_, rfl⟩
  rw [hS] at HW ⊢
  have c0 := row1_0 ht
  have HX := Lib.hid hx
  clear ht hx h1 h2 hl h0 hS
  generalize (⟨l.toArray⟩ : ByteArray) = t at *
  go_enter Tryd.func61, Tryd.ntmps61
  go_wp2_with (first
    | (go_at_call 62; refine (HN.out _).mono ?_; rintro e w1 ⟨rfl, hb1⟩; have HX1 := Lib.hid (blk_call hb1 HX.out); have B1 := BelX.ofBelow hb1; clear hb1)
    | (go_at_call 57; refine (HW.out _).mono ?_; rintro e w2 ⟨rfl, hb2⟩; have X2 := blk_call hb2 HX1.out; have B2 := B1.call hb2; have d0 := row1_0 X2; have d2 := row_f X2; have HX2 := Lib.hid X2; clear hb2 X2)
    | fail)
  go_end0
  exact ⟨rfl, (B2.wider (bs' := [gx]) (by simp)).setOld (p := ⟨gx, 0, none⟩) (by simp) _, blk_set1 HX2.out⟩
set_option maxRecDepth 100000 in
set_option maxHeartbeats 1000000 in
theorem plain1_no (l : List UInt8) (gt gx : Nat) (w : World) (hl : l.length ≤ 1000) (h : ¬ (textOK l = true ∧ isN (valOf l).1 (valOf l).2 = true))
    (ht : w.heap[gt]? = some (.cells #[.string ⟨l.toArray⟩] 9 (0, 0))) :
    Calls Tryd.prog 61 #[.pointer (some ⟨gt, 0, none⟩), .pointer (some ⟨gx, 0, none⟩)] w fun e w' => e = trouble (numErr l) ∧ BelX [] w w' := by
  have HN := Lib.hid (fun wx => number_err l wx hl h)
  generalize numErr l = c at *
  have c0 := row1_0 ht
  clear ht h hl
  generalize (⟨l.toArray⟩ : ByteArray) = t at *
  go_enter Tryd.func61, Tryd.ntmps61
  go_wp2_with (first
    | (go_at_call 62; refine (HN.out _).mono ?_; rintro e w1 ⟨rfl, hb1⟩)
    | fail)
  exact ⟨rfl, rfl, BelX.ofBelow hb1⟩
theorem enter_plain1 (x y : Value) : ∀ w, (callFunc 61 #[x, y]).run Tryd.prog w = .ok (.enter 61 #[x, y]) w := fun w => by kernel_rfl

set_option maxRecDepth 100000 in
set_option maxHeartbeats 1000000 in
theorem Plain_yes (l : List UInt8) (w : World) (hl : l.length ≤ 1000) (h1 : textOK l = true) (h2 : isN (valOf l).1 (valOf l).2 = true) :
    Calls Tryd.prog 27 #[.string ⟨l.toArray⟩] w fun e w' => e = .returned (.tuple #[.string ⟨(GM.textOf (valOf l)).toArray⟩, .int .i64 0]) ∧ Below w.heap.size w w' := by
  have HV := Lib.hid (fun (wx : World) gt gx u ht hx => plain1_yes l gt gx u wx hl h1 h2 (num_nonneg l h1) ht hx)
  clear h1 h2 hl
  obtain ⟨S, hS⟩ : ∃ S : ByteArray, ⟨(GM.textOf (valOf l)).toArray⟩ = S := ⟨_, rfl⟩
  rw [hS] at HV ⊢
  clear hS
  have hmf : ∀ (fn : Fn) (first cap : Array Value) (w : World), (Instr.makeFunc fn first cap).run Tryd.prog w = .ok (.func fn first cap) w := fun _ _ _ _ => rfl
  go_enter Tryd.func27, Tryd.ntmps27
  go_wp2_with fail
  obtain ⟨w2, h2⟩ : ∃ w2, w2 = (w.alloc (.cells #[.string ⟨l.toArray⟩] 9)).alloc (.cells #[.string ⟨#[]⟩] 9) := ⟨_, rfl⟩
  rw [← h2]
  have X2 : w2.heap[w.heap.size]? = some (.cells #[.string ⟨l.toArray⟩] 9 (0, 0)) := by rw [h2]; exact (by repeat (first | assumption | (with_reducible apply blk_set2) | (with_reducible apply blk_set1) | (with_reducible refine blk_far2 ?_ ?_; (first | omega | (simp; done) | (simp; omega))) | (with_reducible refine blk_far1 ?_ ?_; (first | omega | (simp; done) | (simp; omega))) | (with_reducible refine blk_new' _ _ ?_; (first | omega | (simp; done) | (simp; omega))) | (with_reducible refine blk_old ?_) | (with_reducible refine blk_drew ?_)))
  have S2 : w2.heap[w.heap.size + 1]? = some (.cells #[.string ⟨#[]⟩] 9 (0, 0)) := by rw [h2]; exact (by repeat (first | assumption | (with_reducible apply blk_set2) | (with_reducible apply blk_set1) | (with_reducible refine blk_far2 ?_ ?_; (first | omega | (simp; done) | (simp; omega))) | (with_reducible refine blk_far1 ?_ ?_; (first | omega | (simp; done) | (simp; omega))) | (with_reducible refine blk_new' _ _ ?_; (first | omega | (simp; done) | (simp; omega))) | (with_reducible refine blk_old ?_) | (with_reducible refine blk_drew ?_)))
  have B2 : Below w.heap.size w w2 := by rw [h2]; exact (by repeat (first | exact Below.refl _ _ | exact Nat.le_refl _ | refine Below.alloc ?_ ?_ _ | refine Below.setCell ?_ ?_ _ | refine Below.drew ?_ | refine bl_drewN ?_ _ | (assumption) | refine bl_call ?_ (by assumption) ?_ | omega | (simp <;> omega)))
  have hz := blk_lt S2
  clear h2
  refine (guard_ok 61 _ [w.heap.size + 1] w2 (fun w' => w'.heap[w.heap.size + 1]? = some (.cells #[.string S] 9 (0, 0))) (by simp; omega) (enter_plain1 _ _) ?_ ?_).mono ?_
  · refine (HV.out _ _ _ _ (blk_old X2) (blk_old S2)).mono ?_
    exact fun e w' h => h
  · intro u v hu huv
    exact (huv.block _ (blk_lt hu) (by simp; omega)).trans hu
  · rintro e w3 ⟨rfl, hX, hS3⟩
    have B3 : Below w.heap.size w w3 := hX.below B2 (by omega) (by simp)
    have c0 := row1_0 hS3
    have c1 := row1_0 hS3
    have f0 := row_f hS3
    clear hX X2 S2 B2
    go_wp2_with fail
    exact bodyPost_ret (v := .tuple #[.string S, .int .i64 (0)]) (by simp [results, Tryd.results27, go_sem, *]) rfl ⟨rfl, (by repeat (first | exact Below.refl _ _ | exact Nat.le_refl _ | refine Below.alloc ?_ ?_ _ | refine Below.setCell ?_ ?_ _ | refine Below.drew ?_ | refine bl_drewN ?_ _ | (assumption) | refine bl_call ?_ (by assumption) ?_ | omega | (simp <;> omega)))⟩

set_option maxRecDepth 100000 in
set_option maxHeartbeats 1000000 in
theorem Plain_no (l : List UInt8) (w : World) (hl : l.length ≤ 1000) (h : ¬ (textOK l = true ∧ isN (valOf l).1 (valOf l).2 = true)) :
    Calls Tryd.prog 27 #[.string ⟨l.toArray⟩] w fun e w' => e = .returned (.tuple #[.string ⟨#[]⟩, .int .i64 (numErr l)]) ∧ Below w.heap.size w w' := by
  have HV := Lib.hid (fun (wx : World) gt gx ht => plain1_no l gt gx wx hl h ht)
  clear h hl
  obtain ⟨c, hc⟩ : ∃ c, numErr l = c := ⟨_, rfl⟩
  rw [hc] at HV ⊢
  clear hc
  have hmf : ∀ (fn : Fn) (first cap : Array Value) (w : World), (Instr.makeFunc fn first cap).run Tryd.prog w = .ok (.func fn first cap) w := fun _ _ _ _ => rfl
  go_enter Tryd.func27, Tryd.ntmps27
  go_wp2_with fail
  obtain ⟨w2, h2⟩ : ∃ w2, w2 = (w.alloc (.cells #[.string ⟨l.toArray⟩] 9)).alloc (.cells #[.string ⟨#[]⟩] 9) := ⟨_, rfl⟩
  rw [← h2]
  have X2 : w2.heap[w.heap.size]? = some (.cells #[.string ⟨l.toArray⟩] 9 (0, 0)) := by rw [h2]; exact (by repeat (first | assumption | (with_reducible apply blk_set2) | (with_reducible apply blk_set1) | (with_reducible refine blk_far2 ?_ ?_; (first | omega | (simp; done) | (simp; omega))) | (with_reducible refine blk_far1 ?_ ?_; (first | omega | (simp; done) | (simp; omega))) | (with_reducible refine blk_new' _ _ ?_; (first | omega | (simp; done) | (simp; omega))) | (with_reducible refine blk_old ?_) | (with_reducible refine blk_drew ?_)))
  have S2 : w2.heap[w.heap.size + 1]? = some (.cells #[.string ⟨#[]⟩] 9 (0, 0)) := by rw [h2]; exact (by repeat (first | assumption | (with_reducible apply blk_set2) | (with_reducible apply blk_set1) | (with_reducible refine blk_far2 ?_ ?_; (first | omega | (simp; done) | (simp; omega))) | (with_reducible refine blk_far1 ?_ ?_; (first | omega | (simp; done) | (simp; omega))) | (with_reducible refine blk_new' _ _ ?_; (first | omega | (simp; done) | (simp; omega))) | (with_reducible refine blk_old ?_) | (with_reducible refine blk_drew ?_)))
  have B2 : Below w.heap.size w w2 := by rw [h2]; exact (by repeat (first | exact Below.refl _ _ | exact Nat.le_refl _ | refine Below.alloc ?_ ?_ _ | refine Below.setCell ?_ ?_ _ | refine Below.drew ?_ | refine bl_drewN ?_ _ | (assumption) | refine bl_call ?_ (by assumption) ?_ | omega | (simp <;> omega)))
  have hz := blk_lt S2
  clear h2
  refine (guard_panic 61 _ [] c w2 (fun w' => w'.heap[w.heap.size + 1]? = some (.cells #[.string ⟨#[]⟩] 9 (0, 0))) (by simp) (enter_plain1 _ _) ?_ ?_).mono ?_
  · refine (HV.out _ _ _ (blk_old X2)).mono ?_
    rintro e w' ⟨rfl, hX⟩
    exact ⟨rfl, hX, (hX.block _ (by simp; omega) (by simp)).trans (blk_old S2)⟩
  · intro u v hu huv
    exact (huv.block _ (blk_lt hu) (by simp; omega)).trans hu
  · rintro e w3 ⟨rfl, hX, hS3⟩
    have B3 : Below w.heap.size w w3 := hX.below B2 (by omega) (by simp)
    have c0 := row1_0 hS3
    have c1 := row1_0 hS3
    have f0 := row_f hS3
    clear hX X2 S2 B2
    go_wp2_with fail
    exact bodyPost_ret (v := .tuple #[.string ⟨#[]⟩, .int .i64 (c)]) (by simp [results, Tryd.results27, go_sem, *]) rfl ⟨rfl, (by repeat (first | exact Below.refl _ _ | exact Nat.le_refl _ | refine Below.alloc ?_ ?_ _ | refine Below.setCell ?_ ?_ _ | refine Below.drew ?_ | refine bl_drewN ?_ _ | (assumption) | refine bl_call ?_ (by assumption) ?_ | omega | (simp <;> omega)))⟩
end Go.Proofs.YtgocloilagcfoabDoor
