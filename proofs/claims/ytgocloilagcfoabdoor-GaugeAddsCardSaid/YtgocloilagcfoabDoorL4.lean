/- The laws' own helper brief. -/
import Derived.Test.YtgocloilagcfoabDoorS1
import Derived.Test.YtgocloilagcfoabDoorL2
namespace Go.Proofs.YtgocloilagcfoabDoor
open Go.RowKit
attribute [local go_sem ↓] Go.wp_at_zero Go.wp_at_succ

set_option maxRecDepth 100000 in
set_option maxHeartbeats 2000000 in
theorem brief_any (l : List UInt8) (w : World) (hl : l.length ≤ 9223372036854775807) :
    Calls Tryd.prog 17 #[.string ⟨l.toArray⟩] w fun e w' => e = .returned (.string ⟨(l.take 84).toArray⟩) ∧ Below w.heap.size w w' := by
  have hts := str_size l
  by_cases h : l.length ≤ 84
  · rw [List.take_of_length_le h]
    have x1 : (⟨l.toArray⟩ : ByteArray).extract 0 l.length = ⟨l.toArray⟩ := by
      rw [Lib.extract_mk, List.drop_zero, Nat.sub_zero, List.take_of_length_le (Nat.le_refl _)]
    generalize (⟨l.toArray⟩ : ByteArray) = t at *
    obtain ⟨n, hn⟩ : ∃ n, l.length = n := ⟨_, rfl⟩
    rw [hn] at hts x1 h
    clear hn hl
    have hm : min (n : Int) 84 = n := by omega
    go_enter Tryd.func17, Tryd.ntmps17
    go_wp2_with fail
    go_ret
    exact ⟨rfl, (by repeat (first | exact Below.refl _ _ | exact Nat.le_refl _ | refine Below.alloc ?_ ?_ _ | refine Below.setCell ?_ ?_ _ | refine Below.drew ?_ | refine bl_drewN ?_ _ | (assumption) | refine bl_call ?_ (by assumption) ?_ | omega | (simp <;> omega)))⟩
  · have x1 : (⟨l.toArray⟩ : ByteArray).extract 0 84 = ⟨(l.take 84).toArray⟩ := by
      rw [Lib.extract_mk, List.drop_zero, Nat.sub_zero]
    generalize (⟨l.toArray⟩ : ByteArray) = t at *
    generalize (⟨(l.take 84).toArray⟩ : ByteArray) = u at *
    obtain ⟨n, hn⟩ : ∃ n, l.length = n := ⟨_, rfl⟩
    rw [hn] at hts h hl
    clear hn
    have hm : min (n : Int) 84 = 84 := by omega
    go_enter Tryd.func17, Tryd.ntmps17
    go_wp2_with fail
    go_ret
    exact ⟨rfl, (by repeat (first | exact Below.refl _ _ | exact Nat.le_refl _ | refine Below.alloc ?_ ?_ _ | refine Below.setCell ?_ ?_ _ | refine Below.drew ?_ | refine bl_drewN ?_ _ | (assumption) | refine bl_call ?_ (by assumption) ?_ | omega | (simp <;> omega)))⟩
end Go.Proofs.YtgocloilagcfoabDoor
