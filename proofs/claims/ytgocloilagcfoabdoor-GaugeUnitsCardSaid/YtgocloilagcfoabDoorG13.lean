/- The iterator over the ladder: it gives its values, one after another. -/
import Derived.RangeFuncNested
import Derived.RangeFuncBound
import Derived.RangeFuncCalls
import Derived.RangeFuncLeaves
import Derived.Shelf.Abstract
import Derived.Shelf.RegionOpen
import Derived.WalkKit
import Derived.OwnWalkIn
import Derived.TacticsInMore
import Derived.LoopNIn
import Derived.LoopIn
import Derived.Test.YtgocloilagcfoabDoorG12
namespace Go.Proofs.YtgocloilagcfoabDoor
open Go.RowKit Go.Shelf
attribute [local go_sem] Oper.semAt_some

theorem grown_of_below {W W' : World} (h : Below W.heap.size W W') : W.grownBy W' none := ⟨h.os, h.tape, h.output, h.size, fun k hk _ => h.block k hk⟩
theorem keeps_of_below {W W' : World} (h : Below W.heap.size W W') : KeepsOthers W W' := KeepsOthers.of_grownBy (grown_of_below h) (fun _ _ e => by cases e)
theorem blk_own {β : Type} (B : Nat) (f : β → Obj) (hc : ∀ s, (f s).isCells = true) : Own (fun s W => W.heap[B]? = some (f s)) := fun s X Y row hs hg hrow =>
  (hg.block B (blk_lt hs) (fun e' => by obtain ⟨o, ho, hc'⟩ := hrow B e'.symm; rw [hs] at ho; cases ho; rw [hc s] at hc'; cases hc')).trans hs

/-- the value at a position, of a bounded one -/
def lad (k : Nat) : Int × Int := GM.gr 34 ((min k 2000 : Nat) : Int)
theorem lad_le (k : Nat) (h : k ≤ 2000) : lad k = GM.gr 34 (k : Int) := by unfold lad; rw [Nat.min_eq_left h]
theorem lad_bd (k : Nat) : 0 ≤ (lad k).1 ∧ (lad k).1 ≤ 2000 ∧ 0 ≤ (lad k).2 ∧ (lad k).2 ≤ 2000 := by
  have h := (GM.gr_isRung ((min k 2000 : Nat) : Int) (by omega) (by omega)).bounds (by omega)
  unfold lad
  omega

theorem rungs_any (m : Int) (w : World) :
    Calls Tryd.prog 73 #[.int .i64 m] w fun e w' => e = .returned (.func (.func 82) #[] #[.pointer (some ⟨w.heap.size, 0, none⟩)]) ∧ w' = w.alloc (.cells #[.int .i64 m] 3) := by
  have hmf : ∀ (fn : Fn) (first cap : Array Value) (w : World), (Instr.makeFunc fn first cap).run Tryd.prog w = .ok (.func fn first cap) w := fun _ _ _ _ => rfl
  go_enter Tryd.func73, Tryd.ntmps73
  go_wp2_with fail
  go_ret
  exact ⟨rfl, rfl⟩

set_option maxRecDepth 100000 in
set_option maxHeartbeats 1000000 in
theorem rungs1_in (n : Nat) (hn : 1 ≤ n) (l Bn n₀ m : Nat) (hm : m ≤ 1001) (J Jx : List Nat → World → Prop) (W : World) (hJ : AbidesFrom W.heap.size J)
    (hY : ∀ pre x W, J pre W → pre.length < m → YieldAt Fence.wide (n - 1) Tryd.prog l #[.agg #[.int .i64 (lad x).1, .int .i64 (lad x).2]] W fun e W' =>
      (e = .returned (.bool true) ∧ J (pre ++ [x]) W' ∧ Below n₀ W W') ∨ (e = .returned (.bool false) ∧ Jx (pre ++ [x]) W'))
    (hBn : W.cell? ⟨Bn, 0, none⟩ = some (.int .i64 m)) (h0 : J [] W) :
    CallsIn Fence.wide n Tryd.prog 82 #[.func (.yield l) #[] #[], .pointer (some ⟨Bn, 0, none⟩)] W fun e W' => (∃ v, e = .returned v) ∧
      ((∃ ys, ys = List.range m ∧ J ys W') ∨ (∃ pre, True ∧ Jx pre W')) := by
  refine callsIn_of_wp Tryd.func82 rfl trivial ?_ rfl
  simp only [Tryd.ntmps82, List.size_toArray, List.length_cons, List.length_nil, Nat.reduceAdd, Nat.reduceSub, Array.replicate_succ, Array.replicate_zero, List.push_toArray, List.append_toArray, List.nil_append, List.cons_append]
  gi_wp2
  gi_loopw [5] (fun p wr => ∃ i : Nat, p = .int .i64 i ∧ i ≤ m ∧ J (List.range i) wr ∧ W.heap.size ≤ wr.heap.size) (fun p _ => m - (intOf p).toNat)
  case atStart => exact ⟨0, rfl, by omega, h0, Nat.le_refl _⟩
  case round =>
    obtain ⟨i, rfl, hi, hJs, hsz⟩ := hrel
    by_cases hlt : i < m
    · have hlt' : (i : Int) < m := by omega
      obtain ⟨⟨x, y⟩, hp⟩ : ∃ p, GM.gr 34 (i : Int) = p := ⟨_, rfl⟩
      have HR := Lib.hid (fun wx => rung_any (i : Int) wx (by omega) (by omega))
      have HY := Lib.hid hY
      have hl := lad_le i (by omega)
      rw [hp] at HR hl
      dsimp only at HR
      clear hY
      gi_wp2_with fail
      refine ⟨trivial, CallsIn.mono (callsIn_wide.2 (HR.out _)) ?_⟩
      rintro e W2 ⟨rfl, hb⟩
      have hJ2 : J (List.range i) W2 := hJ _ _ _ none hJs (grown_of_below hb) (fun _ e => by cases e)
      obtain ⟨fn, tmps, assign, body, hy, hR⟩ := HY.out (List.range i) i W2 hJ2 (by simp; omega)
      rw [hl] at hy
      dsimp only at hy
      have hsz2 := hb.size
      have HRR := Lib.hid hR
      clear hR hb hJ2
      gi_wp2_with fail
      refine HRR.out.mono ?_
      rintro e W3 (⟨rfl, hJ3, hk3⟩ | ⟨rfl, hJx3⟩)
      · have hs3 := hk3.size
        gi_wp2
        go_roundw
        case rel => exact ⟨i + 1, by simp, by omega, by rw [List.range_succ]; exact hJ3, by omega⟩
        case measure => simp [intOf]; omega
      · gi_wp2
        refine bodyPost_ret (results_none rfl _ _ _) rfl ?_
        exact ⟨⟨_, rfl⟩, .inr ⟨_, trivial, hJx3⟩⟩
    · obtain rfl : i = m := by omega
      have hlt' : ¬ (i : Int) < i := by omega
      gi_wp2
      go_end0
      first | exact ⟨⟨_, rfl⟩, .inl hJs⟩ | exact .inl hJs | exact ⟨⟨_, rfl⟩, .inl ⟨_, rfl, hJs⟩⟩
end Go.Proofs.YtgocloilagcfoabDoor
