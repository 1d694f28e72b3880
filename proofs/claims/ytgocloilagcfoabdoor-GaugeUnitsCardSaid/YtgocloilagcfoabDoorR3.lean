/- The reference's Power is the power of w. -/
import Derived.Test.YtgocloilagcfoabDoorM1
import Derived.Test.YtgocloilagcfoabDoorC1
import Derived.Test.YtgocloilagcfoabDoorC3
import Derived.Test.YtgocloilagcfoabDoorD1
namespace Go.Proofs.YtgocloilagcfoabDoor
open Go.RowKit
attribute [local go_sem ↓] Go.wp_at_zero Go.wp_at_succ

/-- the power of w with an exponent -/
def pw (k : Int) : Int × Int := if 0 ≤ k then GM.pu k.toNat else GM.pd (-k).toNat
theorem pw_up (n : Nat) : pw n = GM.pu n := by unfold pw; rw [if_pos (by omega)]; simp
theorem pw_down (n : Nat) : pw (-n) = GM.pd n := by
  unfold pw
  by_cases h : 0 ≤ -(n : Int)
  · obtain rfl : n = 0 := by omega
    rfl
  · rw [if_neg h]; simp
theorem pw_pt (i : Nat) : pw ((i : Int) - 40) = GM.pt i := by
  unfold GM.pt
  by_cases h : i < 40
  · rw [if_pos h, show (i : Int) - 40 = -((40 - i : Nat) : Int) by omega, pw_down]
  · rw [if_neg h, show (i : Int) - 40 = ((i - 40 : Nat) : Int) by omega, pw_up]
theorem pu_bd : ∀ n : Fin 43, 0 ≤ (GM.pu n).1 ∧ (GM.pu n).1 ≤ 1000000000 ∧ 0 ≤ (GM.pu n).2 ∧ (GM.pu n).2 ≤ 1000000000 := by decide +kernel
theorem pd_bd : ∀ n : Fin 43, -1000000000 ≤ (GM.pd n).1 ∧ (GM.pd n).1 ≤ 1000000000 ∧ -1000000000 ≤ (GM.pd n).2 ∧ (GM.pd n).2 ≤ 1000000000 := by decide +kernel

set_option maxHeartbeats 1000000 in
theorem refPower (k : Int) (w : World) (h1 : -41 ≤ k) (h2 : k ≤ 41) :
    Calls Tryd.prog 16 #[.int .i64 k] w fun e w' => e = .returned (.agg #[.int .i64 (pw k).1, .int .i64 (pw k).2]) ∧ Below w.heap.size w w' := by
  by_cases hk : 0 ≤ k
  · obtain ⟨n, rfl⟩ : ∃ n : Nat, k = n := ⟨k.toNat, by omega⟩
    rw [pw_up]
    go_enter Tryd.func16, Tryd.ntmps16
    go_wp2_with fail
    go_loopw [4] (fun x wr => ∃ j : Nat, x = .int .i64 j ∧ j ≤ n ∧ wr.heap[w.heap.size + 1]? = some (.cells #[.int .i64 (GM.pu j).1, .int .i64 (GM.pu j).2] 23 (0, 0)) ∧ (∃ v0 v1, wr.heap[w.heap.size]? = some (.cells #[v0, v1] 23 (0, 0))) ∧ Below w.heap.size w wr) (fun x _ => n - (intOf x).toNat)
    case atStart => refine ⟨0, rfl, by omega, ?_⟩; rw [show GM.pu 0 = (1, 0) from rfl]; dsimp only; exact ⟨(by repeat (first | assumption | (with_reducible apply blk_set2) | (with_reducible apply blk_set1) | (with_reducible refine blk_far2 ?_ ?_; (first | omega | (simp; done) | (simp; omega))) | (with_reducible refine blk_far1 ?_ ?_; (first | omega | (simp; done) | (simp; omega))) | (with_reducible refine blk_new' _ _ ?_; (first | omega | (simp; done) | (simp; omega))) | (with_reducible refine blk_old ?_) | (with_reducible refine blk_drew ?_))), ⟨_, _, (by repeat (first | assumption | (with_reducible apply blk_set2) | (with_reducible apply blk_set1) | (with_reducible refine blk_far2 ?_ ?_; (first | omega | (simp; done) | (simp; omega))) | (with_reducible refine blk_far1 ?_ ?_; (first | omega | (simp; done) | (simp; omega))) | (with_reducible refine blk_new' _ _ ?_; (first | omega | (simp; done) | (simp; omega))) | (with_reducible refine blk_old ?_) | (with_reducible refine blk_drew ?_)))⟩, by first | assumption | exact (by repeat (first | exact Below.refl _ _ | exact Nat.le_refl _ | refine Below.alloc ?_ ?_ _ | refine Below.setCell ?_ ?_ _ | refine Below.drew ?_ | refine bl_drewN ?_ _ | (assumption) | refine bl_call ?_ (by assumption) ?_ | omega | (simp <;> omega)))⟩
    case round =>
      obtain ⟨j, rfl, l1, X, ⟨v0, v1, R⟩, B0⟩ := hrel
      have c0 := row2_0 X
      have c1 := row2_1 X
      have f1 := row_f X
      have d0 := row2_0 R
      have d1 := row2_1 R
      have f0 := row_f R
      have HX := Lib.hid X
      have HR := Lib.hid R
      clear X R
      by_cases hlt : j < n
      · clear h1 hk
        have hb := pu_bd ⟨j, by omega⟩
        have hs : GM.pu (j + 1) = ((GM.pu j).2, (GM.pu j).1 + (GM.pu j).2) := rfl
        have HS := Lib.hid hs
        clear hs
        dsimp only at hb
        generalize GM.pu j = p at c0 c1 hb HS HX
        obtain ⟨p1, p2⟩ := p
        dsimp only at c0 c1 hb HS HX
        obtain ⟨b1, b2, b3, b4⟩ := hb
        go_wp2_with fail
        go_roundw
        case rel =>
          refine ⟨j + 1, by simp <;> omega, by omega, ?_⟩
          rw [HS.out]
          dsimp only
          have X := HX.out
          have R := HR.out
          exact ⟨(by repeat (first | assumption | (with_reducible apply blk_set2) | (with_reducible apply blk_set1) | (with_reducible refine blk_far2 ?_ ?_; (first | omega | (simp; done) | (simp; omega))) | (with_reducible refine blk_far1 ?_ ?_; (first | omega | (simp; done) | (simp; omega))) | (with_reducible refine blk_new' _ _ ?_; (first | omega | (simp; done) | (simp; omega))) | (with_reducible refine blk_old ?_) | (with_reducible refine blk_drew ?_))), ⟨_, _, (by repeat (first | assumption | (with_reducible apply blk_set2) | (with_reducible apply blk_set1) | (with_reducible refine blk_far2 ?_ ?_; (first | omega | (simp; done) | (simp; omega))) | (with_reducible refine blk_far1 ?_ ?_; (first | omega | (simp; done) | (simp; omega))) | (with_reducible refine blk_new' _ _ ?_; (first | omega | (simp; done) | (simp; omega))) | (with_reducible refine blk_old ?_) | (with_reducible refine blk_drew ?_)))⟩, (by repeat (first | exact Below.refl _ _ | exact Nat.le_refl _ | refine Below.alloc ?_ ?_ _ | refine Below.setCell ?_ ?_ _ | refine Below.drew ?_ | refine bl_drewN ?_ _ | (assumption) | refine bl_call ?_ (by assumption) ?_ | omega | (simp <;> omega)))⟩
        case measure => simp [intOf]; omega
      · obtain rfl : j = n := by omega
        go_wp2_with fail
        have X := HX.out
        have R := HR.out
        go_loopw [5] (fun x wr => x = .int .i64 0 ∧ wr.heap[w.heap.size + 1]? = some (.cells #[.int .i64 (GM.pu j).1, .int .i64 (GM.pu j).2] 23 (0, 0)) ∧ (∃ v0 v1, wr.heap[w.heap.size]? = some (.cells #[v0, v1] 23 (0, 0))) ∧ Below w.heap.size w wr) (fun x _ => 0)
        case atStart => exact ⟨rfl, (by repeat (first | assumption | (with_reducible apply blk_set2) | (with_reducible apply blk_set1) | (with_reducible refine blk_far2 ?_ ?_; (first | omega | (simp; done) | (simp; omega))) | (with_reducible refine blk_far1 ?_ ?_; (first | omega | (simp; done) | (simp; omega))) | (with_reducible refine blk_new' _ _ ?_; (first | omega | (simp; done) | (simp; omega))) | (with_reducible refine blk_old ?_) | (with_reducible refine blk_drew ?_))), ⟨_, _, (by repeat (first | assumption | (with_reducible apply blk_set2) | (with_reducible apply blk_set1) | (with_reducible refine blk_far2 ?_ ?_; (first | omega | (simp; done) | (simp; omega))) | (with_reducible refine blk_far1 ?_ ?_; (first | omega | (simp; done) | (simp; omega))) | (with_reducible refine blk_new' _ _ ?_; (first | omega | (simp; done) | (simp; omega))) | (with_reducible refine blk_old ?_) | (with_reducible refine blk_drew ?_)))⟩, by first | assumption | exact (by repeat (first | exact Below.refl _ _ | exact Nat.le_refl _ | refine Below.alloc ?_ ?_ _ | refine Below.setCell ?_ ?_ _ | refine Below.drew ?_ | refine bl_drewN ?_ _ | (assumption) | refine bl_call ?_ (by assumption) ?_ | omega | (simp <;> omega)))⟩
        case round =>
          clear c0 c1 f1 d0 d1 f0 HX HR X R B0
          obtain ⟨rfl, X, ⟨v0, v1, R⟩, B0⟩ := hrel
          have c0 := row2_0 X
          have c1 := row2_1 X
          have f1 := row_f X
          have d0 := row2_0 R
          have d1 := row2_1 R
          have f0 := row_f R
          have HX := Lib.hid X
          have HR := Lib.hid R
          clear X R
          go_wp2_with fail
          exact bodyPost_ret (v := .agg #[.int .i64 (GM.pu j).1, .int .i64 (GM.pu j).2]) (by simp [results, Tryd.results16, go_sem, *]) rfl ⟨rfl, (by repeat (first | exact Below.refl _ _ | exact Nat.le_refl _ | refine Below.alloc ?_ ?_ _ | refine Below.setCell ?_ ?_ _ | refine Below.drew ?_ | refine bl_drewN ?_ _ | (assumption) | refine bl_call ?_ (by assumption) ?_ | omega | (simp <;> omega)))⟩
  · obtain ⟨n, rfl⟩ : ∃ n : Nat, k = -(n : Int) := ⟨(-k).toNat, by omega⟩
    have hn : 0 < n := by omega
    rw [pw_down]
    go_enter Tryd.func16, Tryd.ntmps16
    go_wp2_with fail
    go_loopw [4] (fun x wr => x = .int .i64 0 ∧ wr.heap[w.heap.size + 1]? = some (.cells #[.int .i64 (GM.pd 0).1, .int .i64 (GM.pd 0).2] 23 (0, 0)) ∧ (∃ v0 v1, wr.heap[w.heap.size]? = some (.cells #[v0, v1] 23 (0, 0))) ∧ Below w.heap.size w wr) (fun x _ => 0)
    case atStart => refine ⟨rfl, ?_⟩; rw [show GM.pd 0 = (1, 0) from rfl]; dsimp only; exact ⟨(by repeat (first | assumption | (with_reducible apply blk_set2) | (with_reducible apply blk_set1) | (with_reducible refine blk_far2 ?_ ?_; (first | omega | (simp; done) | (simp; omega))) | (with_reducible refine blk_far1 ?_ ?_; (first | omega | (simp; done) | (simp; omega))) | (with_reducible refine blk_new' _ _ ?_; (first | omega | (simp; done) | (simp; omega))) | (with_reducible refine blk_old ?_) | (with_reducible refine blk_drew ?_))), ⟨_, _, (by repeat (first | assumption | (with_reducible apply blk_set2) | (with_reducible apply blk_set1) | (with_reducible refine blk_far2 ?_ ?_; (first | omega | (simp; done) | (simp; omega))) | (with_reducible refine blk_far1 ?_ ?_; (first | omega | (simp; done) | (simp; omega))) | (with_reducible refine blk_new' _ _ ?_; (first | omega | (simp; done) | (simp; omega))) | (with_reducible refine blk_old ?_) | (with_reducible refine blk_drew ?_)))⟩, by first | assumption | exact (by repeat (first | exact Below.refl _ _ | exact Nat.le_refl _ | refine Below.alloc ?_ ?_ _ | refine Below.setCell ?_ ?_ _ | refine Below.drew ?_ | refine bl_drewN ?_ _ | (assumption) | refine bl_call ?_ (by assumption) ?_ | omega | (simp <;> omega)))⟩
    case round =>
      obtain ⟨rfl, X, ⟨v0, v1, R⟩, B0⟩ := hrel
      have c0 := row2_0 X
      have c1 := row2_1 X
      have f1 := row_f X
      have d0 := row2_0 R
      have d1 := row2_1 R
      have f0 := row_f R
      have HX := Lib.hid X
      have HR := Lib.hid R
      clear X R
      go_wp2_with fail
      have X := HX.out
      have R := HR.out
      go_loopw [5] (fun x wr => ∃ j : Nat, x = .int .i64 (-(j : Int)) ∧ j ≤ n ∧ wr.heap[w.heap.size + 1]? = some (.cells #[.int .i64 (GM.pd j).1, .int .i64 (GM.pd j).2] 23 (0, 0)) ∧ (∃ v0 v1, wr.heap[w.heap.size]? = some (.cells #[v0, v1] 23 (0, 0))) ∧ Below w.heap.size w wr) (fun x _ => n - (-(intOf x)).toNat)
      case atStart => refine ⟨0, rfl, by omega, ?_⟩; rw [show GM.pd 0 = (1, 0) from rfl]; dsimp only; exact ⟨(by repeat (first | assumption | (with_reducible apply blk_set2) | (with_reducible apply blk_set1) | (with_reducible refine blk_far2 ?_ ?_; (first | omega | (simp; done) | (simp; omega))) | (with_reducible refine blk_far1 ?_ ?_; (first | omega | (simp; done) | (simp; omega))) | (with_reducible refine blk_new' _ _ ?_; (first | omega | (simp; done) | (simp; omega))) | (with_reducible refine blk_old ?_) | (with_reducible refine blk_drew ?_))), ⟨_, _, (by repeat (first | assumption | (with_reducible apply blk_set2) | (with_reducible apply blk_set1) | (with_reducible refine blk_far2 ?_ ?_; (first | omega | (simp; done) | (simp; omega))) | (with_reducible refine blk_far1 ?_ ?_; (first | omega | (simp; done) | (simp; omega))) | (with_reducible refine blk_new' _ _ ?_; (first | omega | (simp; done) | (simp; omega))) | (with_reducible refine blk_old ?_) | (with_reducible refine blk_drew ?_)))⟩, by first | assumption | exact (by repeat (first | exact Below.refl _ _ | exact Nat.le_refl _ | refine Below.alloc ?_ ?_ _ | refine Below.setCell ?_ ?_ _ | refine Below.drew ?_ | refine bl_drewN ?_ _ | (assumption) | refine bl_call ?_ (by assumption) ?_ | omega | (simp <;> omega)))⟩
      case round =>
        clear c0 c1 f1 d0 d1 f0 HX HR X R B0
        obtain ⟨j, rfl, l1, X, ⟨v0, v1, R⟩, B0⟩ := hrel
        have c0 := row2_0 X
        have c1 := row2_1 X
        have f1 := row_f X
        have d0 := row2_0 R
        have d1 := row2_1 R
        have f0 := row_f R
        have HX := Lib.hid X
        have HR := Lib.hid R
        clear X R
        by_cases hlt : j < n
        · clear h2 hk
          have hb := pd_bd ⟨j, by omega⟩
          have hs : GM.pd (j + 1) = ((GM.pd j).2 - (GM.pd j).1, (GM.pd j).1) := rfl
          have HS := Lib.hid hs
          clear hs
          dsimp only at hb
          generalize GM.pd j = p at c0 c1 hb HS HX
          obtain ⟨p1, p2⟩ := p
          dsimp only at c0 c1 hb HS HX
          obtain ⟨b1, b2, b3, b4⟩ := hb
          go_wp2_with fail
          go_roundw
          case rel =>
            refine ⟨j + 1, by simp <;> omega, by omega, ?_⟩
            rw [HS.out]
            dsimp only
            have X := HX.out
            have R := HR.out
            exact ⟨(by repeat (first | assumption | (with_reducible apply blk_set2) | (with_reducible apply blk_set1) | (with_reducible refine blk_far2 ?_ ?_; (first | omega | (simp; done) | (simp; omega))) | (with_reducible refine blk_far1 ?_ ?_; (first | omega | (simp; done) | (simp; omega))) | (with_reducible refine blk_new' _ _ ?_; (first | omega | (simp; done) | (simp; omega))) | (with_reducible refine blk_old ?_) | (with_reducible refine blk_drew ?_))), ⟨_, _, (by repeat (first | assumption | (with_reducible apply blk_set2) | (with_reducible apply blk_set1) | (with_reducible refine blk_far2 ?_ ?_; (first | omega | (simp; done) | (simp; omega))) | (with_reducible refine blk_far1 ?_ ?_; (first | omega | (simp; done) | (simp; omega))) | (with_reducible refine blk_new' _ _ ?_; (first | omega | (simp; done) | (simp; omega))) | (with_reducible refine blk_old ?_) | (with_reducible refine blk_drew ?_)))⟩, (by repeat (first | exact Below.refl _ _ | exact Nat.le_refl _ | refine Below.alloc ?_ ?_ _ | refine Below.setCell ?_ ?_ _ | refine Below.drew ?_ | refine bl_drewN ?_ _ | (assumption) | refine bl_call ?_ (by assumption) ?_ | omega | (simp <;> omega)))⟩
          case measure => simp [intOf]; omega
        · obtain rfl : j = n := by omega
          go_wp2_with fail
          exact bodyPost_ret (v := .agg #[.int .i64 (GM.pd j).1, .int .i64 (GM.pd j).2]) (by simp [results, Tryd.results16, go_sem, *]) rfl ⟨rfl, (by repeat (first | exact Below.refl _ _ | exact Nat.le_refl _ | refine Below.alloc ?_ ?_ _ | refine Below.setCell ?_ ?_ _ | refine Below.drew ?_ | refine bl_drewN ?_ _ | (assumption) | refine bl_call ?_ (by assumption) ?_ | omega | (simp <;> omega)))⟩
end Go.Proofs.YtgocloilagcfoabDoor
