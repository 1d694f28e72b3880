/- guard hands back the error of a panic, or 0. -/
import Derived.Test.YtgocloilagcfoabDoorG6
import Derived.Defers
import Derived.Recover
namespace Go.Proofs.YtgocloilagcfoabDoor
open Go.RowKit
attribute [local go_sem ↓] Go.wp_at_zero Go.wp_at_succ

theorem guard1_idle (p : Addr) (w : World) :
    CallsD Tryd.prog 76 #[.pointer (some p)] .returning w fun e u' w' => e = .returned (.tuple #[]) ∧ u' = .returning ∧ w' = w := by
  refine callsD_of_wpS Tryd.func76 rfl fun c₀ cs hu => ?_
  simp only [Tryd.ntmps76, List.size_toArray, List.length_cons, List.length_nil, Nat.reduceAdd, Nat.reduceSub, Array.replicate_succ,
     Array.replicate_zero, List.push_toArray, List.append_toArray, List.nil_append, List.cons_append]
  apply wpS_seq
  apply wpS_region
  simp [wpOpsS, go_sem, recoverD, hu, Exit.thenS]
  refine wpS_of_wp ?_
  go_wp2
  cases c₀
  simp_all [bodyPostS, results, Tryd.results76]

theorem BelX.same (bs : List Nat) (w : World) : BelX bs w w := ⟨rfl, rfl, rfl, Nat.le_refl _, fun _ _ _ => rfl⟩
theorem belX_own {ks : List Nat} {w w1 : World} {o : Obj} {v : Value} (h : BelX ks (w.alloc o) w1) : BelX ks w (w1.setCell ⟨w.heap.size, 0, none⟩ v) :=
  ⟨h.os, h.tape, h.output, by have := h.size; simp at this; simp [World.setCell]; omega, fun b hb hn => (heap_setCell_other w1 ⟨w.heap.size, 0, none⟩ b v (by simp; omega)).trans ((h.block b (by simp; omega) hn).trans (by unfold World.alloc; rw [Array.getElem?_push, if_neg (by omega)]))⟩
theorem belX_own2 {ks : List Nat} {w w1 w2 : World} {o : Obj} (h : BelX ks (w.alloc o) w1) (h2 : BelX [w.heap.size] w1 w2) : BelX ks w w2 := by
  have hs := h.size
  simp at hs
  exact ⟨h2.os.trans h.os, h2.tape.trans h.tape, h2.output.trans h.output, by have := h2.size; omega, fun b hb hn => (h2.block b (by omega) (by simp; omega)).trans ((h.block b (by simp; omega) hn).trans (by unfold World.alloc; rw [Array.getElem?_push, if_neg (by omega)]))⟩
theorem assert_trouble (W : World) (v : Value) : (Instr.typeAssert (.iface 76 v) 20 76 true).run Tryd.prog W = .ok (.tuple #[v, .bool true]) W := by kernel_rfl

set_option maxRecDepth 100000 in
theorem guard1_panicking (g : Nat) (c x : Int) (w : World) (hb : w.heap[g]? = some (.cells #[.int .i64 x] 24 (0, 0))) :
    CallsD Tryd.prog 76 #[.pointer (some ⟨g, 0, none⟩)] (.panicking [{ v := .iface 76 (.agg #[.int .i64 c]), recovered := false }]) w fun e u' w' =>
      e = .returned (.tuple #[]) ∧ u' = .panicking [{ v := .iface 76 (.agg #[.int .i64 c]), recovered := true }] ∧ BelX [g] w w' ∧ w'.heap[g]? = some (.cells #[.int .i64 c] 24 (0, 0)) := by
  have c0 := row1_0 hb
  have f0 := row_f hb
  have hg := blk_lt hb
  have HB := Lib.hid hb
  clear hb
  have hne : ¬ g = w.heap.size := by omega
  have hne' : ¬ w.heap.size = g := by omega
  have hta := fun W v => assert_trouble W v
  refine callsD_of_wpS Tryd.func76 rfl fun c₀ cs hu => ?_
  simp only [Tryd.ntmps76, List.size_toArray, List.length_cons, List.length_nil, Nat.reduceAdd, Nat.reduceSub, Array.replicate_succ,
     Array.replicate_zero, List.push_toArray, List.append_toArray, List.nil_append, List.cons_append]
  apply wpS_seq
  apply wpS_region
  simp [wpOpsS, go_sem, recoverD, hu, Exit.thenS]
  refine wpS_of_wp ?_
  go_wp2
  refine ⟨rfl, _, rfl, _, results_none rfl _ _ _, rfl, rfl, ?_, ?_⟩
  · exact ((BelX.same [g] w).setOld (p := ⟨g, 0, none⟩) (by simp) _).alloc _
  · exact blk_old (blk_set1 HB.out)

set_option maxRecDepth 100000 in
theorem guard_ok (k : Nat) (caps : Array Value) (ks : List Nat) (w : World) (Q : World → Prop) (hk : ∀ b ∈ ks, b < w.heap.size) (he : ∀ w, (callFunc k caps).run Tryd.prog w = .ok (.enter k caps) w)
    (hf : Calls Tryd.prog k caps (w.alloc (.cells #[.int .i64 0] 24)) fun e w1 => e = .returned (.tuple #[]) ∧ BelX ks (w.alloc (.cells #[.int .i64 0] 24)) w1 ∧ Q w1)
    (hQ : ∀ w1 w2, Q w1 → BelX [w.heap.size] w1 w2 → Q w2) :
    Calls Tryd.prog 51 #[.func (.func k) #[] caps] w fun e w' => e = .returned (.int .i64 0) ∧ BelX ks w w' ∧ Q w' := by
  have hmf : ∀ (fn : Fn) (first cap : Array Value) (w : World), (Instr.makeFunc fn first cap).run Tryd.prog w = .ok (.func fn first cap) w := fun _ _ _ _ => rfl
  have HF := Lib.hid hf
  have HQ := Lib.hid hQ
  clear hf hQ
  go_enter_defers Tryd.func51, Tryd.ntmps51
  go_wp2_with fail
  refine HF.out.mono ?_
  rintro e w1 ⟨rfl, hX, hq⟩
  have hb : w1.heap[w.heap.size]? = some (.cells #[.int .i64 0] 24 (0, 0)) := (hX.block _ (by simp) (fun h => by have := hk _ h; omega)).trans (blk_new _ _)
  have c0 := row1_0 hb
  have f0 := row_f hb
  have HB := Lib.hid hb
  have HX := Lib.hid hX
  have HQ1 := Lib.hid hq
  clear hb hX hq HF
  go_wp2_with fail
  refine leaves_cons (f := 76) (args := #[.pointer (some ⟨w.heap.size, 0, none⟩)]) (by simp) (by simp [go_sem]) ?_
  refine (guard1_idle _ _).mono ?_
  rintro e u' w'' ⟨rfl, rfl, rfl⟩
  have hb2 : (w1.setCell ⟨w.heap.size, 0, none⟩ (.int .i64 0)).heap[w.heap.size]? = some (.cells #[.int .i64 0] 24 (0, 0)) := blk_set1 HB.out
  have hX2 : BelX ks w (w1.setCell ⟨w.heap.size, 0, none⟩ (.int .i64 0)) := belX_own HX.out
  have hQ2 : Q (w1.setCell ⟨w.heap.size, 0, none⟩ (.int .i64 0)) := HQ.out _ _ HQ1.out ((BelX.same [w.heap.size] w1).setOld (p := ⟨w.heap.size, 0, none⟩) (by simp) _)
  have c2 := row1_0 hb2
  generalize w1.setCell ⟨w.heap.size, 0, none⟩ (.int .i64 0) = w2 at *
  simp [Leaves, settle, results, Tryd.results51, go_sem, c2]
  exact ⟨hX2, hQ2⟩

set_option maxRecDepth 100000 in
theorem guard_panic (k : Nat) (caps : Array Value) (ks : List Nat) (c : Int) (w : World) (Q : World → Prop) (hk : ∀ b ∈ ks, b < w.heap.size) (he : ∀ w, (callFunc k caps).run Tryd.prog w = .ok (.enter k caps) w)
    (hf : Calls Tryd.prog k caps (w.alloc (.cells #[.int .i64 0] 24)) fun e w1 => e = trouble c ∧ BelX ks (w.alloc (.cells #[.int .i64 0] 24)) w1 ∧ Q w1)
    (hQ : ∀ w1 w2, Q w1 → BelX [w.heap.size] w1 w2 → Q w2) :
    Calls Tryd.prog 51 #[.func (.func k) #[] caps] w fun e w' => e = .returned (.int .i64 c) ∧ BelX ks w w' ∧ Q w' := by
  have hmf : ∀ (fn : Fn) (first cap : Array Value) (w : World), (Instr.makeFunc fn first cap).run Tryd.prog w = .ok (.func fn first cap) w := fun _ _ _ _ => rfl
  have HF := Lib.hid hf
  have HQ := Lib.hid hQ
  clear hf hQ
  go_enter_defers Tryd.func51, Tryd.ntmps51
  go_wp2_with fail
  refine HF.out.mono ?_
  rintro e w1 ⟨rfl, hX, hq⟩
  have hb : w1.heap[w.heap.size]? = some (.cells #[.int .i64 0] 24 (0, 0)) := (hX.block _ (by simp) (fun h => by have := hk _ h; omega)).trans (blk_new _ _)
  have HX := Lib.hid hX
  have HQ1 := Lib.hid hq
  clear hX hq HF
  go_wp2_with fail
  refine leaves_cons (f := 76) (args := #[.pointer (some ⟨w.heap.size, 0, none⟩)]) (by simp) (by simp [go_sem]) ?_
  refine (guard1_panicking _ c 0 w1 hb).mono ?_
  rintro e u' w2 ⟨rfl, rfl, hX2, hb2⟩
  have hX3 : BelX ks w w2 := belX_own2 HX.out hX2
  have hQ2 : Q w2 := HQ.out _ _ HQ1.out hX2
  have c2 := row1_0 hb2
  simp [Leaves, settle, results, Tryd.results51, go_sem, c2]
  exact ⟨hX3, hQ2⟩
end Go.Proofs.YtgocloilagcfoabDoor
