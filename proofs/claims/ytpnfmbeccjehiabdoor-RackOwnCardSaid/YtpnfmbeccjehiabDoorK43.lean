/- The rack's methods Min and Max. -/
import Derived.Test.YtpnfmbeccjehiabDoorZ8
namespace Go.Proofs.YtpnfmbeccjehiabDoor
open Go.RowKit Go.Proofs.YtpnfmbeccjehiabDoorW.PrintWords Go.Proofs.YtpnfmbeccjehiabDoorW.PrintLast Go.Proofs.YtpnfmbeccjehiabDoorW.PrintMore
attribute [local go_sem ↓] Go.wp_at_zero Go.wp_at_succ

theorem LI_nil (w : World) : LI w (.slice none 0 0) [] := ⟨none, 0, rfl, Nat.le_refl _, rfl, by simp, fun h => by simp at h⟩
set_option maxRecDepth 100000 in
set_option maxHeartbeats 4000000 in
theorem min_some (k rb : Nat) (m : RK.S) (v : Value) (F : Nat → Prop) (a b : Nat) (w : World) (hk : k ≤ 3) (h : RackIs w rb k m v F) (ha : RK.IsMin m a) (hb : RK.IsMax m b) :
    Calls Tryd.prog 10 #[.pointer (some ⟨rb, 0, none⟩)] w fun e w' => e = .returned (.tuple #[.int .i64 a, .int .i64 0]) ∧ Below w.heap.size w w' := by
  have HR := Lib.hid h
  have HC := Lib.hid (check_any k rb _ [] w hk (row2 h.1).1 (LI_nil w) (by simp))
  have HFD := Lib.hid (fun x wx => found_ok x wx)
  obtain ⟨c0, c1⟩ := row2 h.1
  have HE := Lib.hid (ends_some w h.2.1 ha hb)
  clear h ha hb
  go_enter Tryd.func10, Tryd.ntmps10
  go_wp2_with fail
  refine HC.out.mono ?_
  rintro e w1 ⟨rfl, rfl⟩
  rw [if_pos (fun x hx => by cases hx)]
  go_wp2_with fail
  refine HE.out.mono ?_
  rintro e w2 ⟨rfl, hb2⟩
  have hz2 := hb2.size
  go_wp2_with fail
  refine (HFD.out _ _).mono ?_
  rintro e w3 ⟨rfl, rfl⟩
  go_wp2_with fail
  exact bodyPost_ret (v := .tuple #[.int .i64 a, .int .i64 0]) (by simp [results, Tryd.results10, go_sem]) rfl ⟨rfl, (by repeat (first | exact Below.refl _ _ | exact Nat.le_refl _ | refine Below.alloc ?_ ?_ _ | refine Below.setCell ?_ ?_ _ | refine Below.drew ?_ | refine bl_drewN ?_ _ | (assumption) | refine bl_call ?_ (by assumption) ?_ | omega | (simp <;> omega)))⟩
set_option maxRecDepth 100000 in
set_option maxHeartbeats 4000000 in
theorem min_none (k rb : Nat) (m : RK.S) (v : Value) (F : Nat → Prop) (w : World) (hk : k ≤ 3) (h : RackIs w rb k m v F) (he : RK.Emp m) :
    Calls Tryd.prog 10 #[.pointer (some ⟨rb, 0, none⟩)] w fun e w' => e = .returned (.tuple #[.int .i64 0, .int .i64 6]) ∧ Below w.heap.size w w' := by
  have HR := Lib.hid h
  have HC := Lib.hid (check_any k rb _ [] w hk (row2 h.1).1 (LI_nil w) (by simp))
  have HFD := Lib.hid (fun x wx => found_no x wx)
  obtain ⟨c0, c1⟩ := row2 h.1
  have HE := Lib.hid (ends_emp w h.2.1 he)
  clear h he
  go_enter Tryd.func10, Tryd.ntmps10
  go_wp2_with fail
  refine HC.out.mono ?_
  rintro e w1 ⟨rfl, rfl⟩
  rw [if_pos (fun x hx => by cases hx)]
  go_wp2_with fail
  refine HE.out.mono ?_
  rintro e w2 ⟨rfl, hb2⟩
  have hz2 := hb2.size
  go_wp2_with fail
  refine (HFD.out _ _).mono ?_
  rintro e w3 ⟨rfl, rfl⟩
  go_wp2_with fail
  exact bodyPost_ret (v := .tuple #[.int .i64 0, .int .i64 6]) (by simp [results, Tryd.results10, go_sem]) rfl ⟨rfl, (by repeat (first | exact Below.refl _ _ | exact Nat.le_refl _ | refine Below.alloc ?_ ?_ _ | refine Below.setCell ?_ ?_ _ | refine Below.drew ?_ | refine bl_drewN ?_ _ | (assumption) | refine bl_call ?_ (by assumption) ?_ | omega | (simp <;> omega)))⟩
set_option maxRecDepth 100000 in
set_option maxHeartbeats 4000000 in
theorem max_some (k rb : Nat) (m : RK.S) (v : Value) (F : Nat → Prop) (a b : Nat) (w : World) (hk : k ≤ 3) (h : RackIs w rb k m v F) (ha : RK.IsMin m a) (hb : RK.IsMax m b) :
    Calls Tryd.prog 11 #[.pointer (some ⟨rb, 0, none⟩)] w fun e w' => e = .returned (.tuple #[.int .i64 b, .int .i64 0]) ∧ Below w.heap.size w w' := by
  have HR := Lib.hid h
  have HC := Lib.hid (check_any k rb _ [] w hk (row2 h.1).1 (LI_nil w) (by simp))
  have HFD := Lib.hid (fun x wx => found_ok x wx)
  obtain ⟨c0, c1⟩ := row2 h.1
  have HE := Lib.hid (ends_some w h.2.1 ha hb)
  clear h ha hb
  go_enter Tryd.func11, Tryd.ntmps11
  go_wp2_with fail
  refine HC.out.mono ?_
  rintro e w1 ⟨rfl, rfl⟩
  rw [if_pos (fun x hx => by cases hx)]
  go_wp2_with fail
  refine HE.out.mono ?_
  rintro e w2 ⟨rfl, hb2⟩
  have hz2 := hb2.size
  go_wp2_with fail
  refine (HFD.out _ _).mono ?_
  rintro e w3 ⟨rfl, rfl⟩
  go_wp2_with fail
  exact bodyPost_ret (v := .tuple #[.int .i64 b, .int .i64 0]) (by simp [results, Tryd.results11, go_sem]) rfl ⟨rfl, (by repeat (first | exact Below.refl _ _ | exact Nat.le_refl _ | refine Below.alloc ?_ ?_ _ | refine Below.setCell ?_ ?_ _ | refine Below.drew ?_ | refine bl_drewN ?_ _ | (assumption) | refine bl_call ?_ (by assumption) ?_ | omega | (simp <;> omega)))⟩
set_option maxRecDepth 100000 in
set_option maxHeartbeats 4000000 in
theorem max_none (k rb : Nat) (m : RK.S) (v : Value) (F : Nat → Prop) (w : World) (hk : k ≤ 3) (h : RackIs w rb k m v F) (he : RK.Emp m) :
    Calls Tryd.prog 11 #[.pointer (some ⟨rb, 0, none⟩)] w fun e w' => e = .returned (.tuple #[.int .i64 0, .int .i64 6]) ∧ Below w.heap.size w w' := by
  have HR := Lib.hid h
  have HC := Lib.hid (check_any k rb _ [] w hk (row2 h.1).1 (LI_nil w) (by simp))
  have HFD := Lib.hid (fun x wx => found_no x wx)
  obtain ⟨c0, c1⟩ := row2 h.1
  have HE := Lib.hid (ends_emp w h.2.1 he)
  clear h he
  go_enter Tryd.func11, Tryd.ntmps11
  go_wp2_with fail
  refine HC.out.mono ?_
  rintro e w1 ⟨rfl, rfl⟩
  rw [if_pos (fun x hx => by cases hx)]
  go_wp2_with fail
  refine HE.out.mono ?_
  rintro e w2 ⟨rfl, hb2⟩
  have hz2 := hb2.size
  go_wp2_with fail
  refine (HFD.out _ _).mono ?_
  rintro e w3 ⟨rfl, rfl⟩
  go_wp2_with fail
  exact bodyPost_ret (v := .tuple #[.int .i64 0, .int .i64 6]) (by simp [results, Tryd.results11, go_sem]) rfl ⟨rfl, (by repeat (first | exact Below.refl _ _ | exact Nat.le_refl _ | refine Below.alloc ?_ ?_ _ | refine Below.setCell ?_ ?_ _ | refine Below.drew ?_ | refine bl_drewN ?_ _ | (assumption) | refine bl_call ?_ (by assumption) ?_ | omega | (simp <;> omega)))⟩
end Go.Proofs.YtpnfmbeccjehiabDoor
