/- The library's Cut at "." parts a text at its first point. -/
import Derived.Test.YtgocloilagcfoabDoorS1
import Derived.Lib.IndexLaws
namespace Go.Proofs.YtgocloilagcfoabDoor
open Go.RowKit
attribute [local go_sem ↓] Go.wp_at_zero Go.wp_at_succ

/-- ahead of the first point, and behind it -/
def before (l : List UInt8) : List UInt8 := l.takeWhile (· != 46)
def behind (l : List UInt8) : List UInt8 := (l.dropWhile (· != 46)).drop 1
theorem before_cons (b : UInt8) (l : List UInt8) (hb : ¬ b = 46) : before (b :: l) = b :: before l := by simp [before, hb]
theorem indexByte_46 (l : List UInt8) : Lib.indexByte l 46 = if 46 ∈ l then ((before l).length : Int) else -1 := by
  induction l with
  | nil => rfl
  | cons b l ih =>
    unfold Lib.indexByte
    by_cases hb : b = 46
    · subst hb; simp [before]
    · have h1 : (b == 46) = false := by simpa using hb
      have h2 : ((46 : UInt8) ∈ b :: l) ↔ 46 ∈ l := by
        rw [List.mem_cons]
        exact ⟨fun h => h.resolve_left (fun e => hb e.symm), .inr⟩
      rw [h1, ih, before_cons b l hb]
      by_cases hm : (46 : UInt8) ∈ l
      · rw [if_pos hm, if_pos (h2.2 hm)]
        have : ¬ (((before l).length : Int) = -1) := by omega
        simp [this]
      · rw [if_neg hm, if_neg (fun h => hm (h2.1 h))]
        simp
theorem before_take (l : List UInt8) : l.take (before l).length = before l := by
  unfold before
  induction l with
  | nil => rfl
  | cons b l ih =>
    by_cases hb : b = 46
    · subst hb; simp
    · simp [hb, ih]
theorem behind_drop (l : List UInt8) : l.drop ((before l).length + 1) = behind l := by
  unfold before behind
  induction l with
  | nil => rfl
  | cons b l ih =>
    by_cases hb : b = 46
    · subst hb; simp
    · simp [hb, ih]
theorem before_len (l : List UInt8) (h : (46 : UInt8) ∈ l) : (before l).length + 1 ≤ l.length := by
  unfold before
  induction l with
  | nil => cases h
  | cons b l ih =>
    by_cases hb : b = 46
    · subst hb; simp
    · have := ih (by simpa [Ne.symm hb] using h)
      simp [hb] at this ⊢; omega

set_option maxRecDepth 100000 in
set_option maxHeartbeats 1000000 in
theorem index_dot (l : List UInt8) (w : World) :
    Calls Tryd.prog 89 #[.string ⟨l.toArray⟩, .string ⟨#[46]⟩] w fun e w' => e = .returned (.int .i64 (if 46 ∈ l then ((before l).length : Int) else -1)) ∧ w' = w := by
  have H := fun wx => indexByte_any ⟨l.toArray⟩ 46 wx
  rw [show (46 : Int).toNat.toUInt8 = (46 : UInt8) by decide, show (⟨l.toArray⟩ : ByteArray).data.toList = l by rfl, indexByte_46] at H
  obtain ⟨I, hI⟩ : ∃ I : Int, (if 46 ∈ l then ((before l).length : Int) else -1) = I := ⟨_, rfl⟩
  rw [hI] at H ⊢
  have HH := Lib.hid H
  have HI := Lib.hid hI
  clear H hI
  go_enter Tryd.func89, Tryd.ntmps89
  go_wp2_with (first | (go_at_call 94; refine (HH.out _).mono ?_; rintro e w' ⟨rfl, rfl⟩) | fail)
  all_goals go_ret
  · have h : ([46] == l) = true := by assumption
    have h' : l = [46] := (by simpa using h : [46] = l).symm
    refine ⟨?_, rfl⟩
    rw [← HI.out, h']; rfl
  · exact ⟨rfl, rfl⟩

/-- what Cut at "." hands back -/
def cutL (l : List UInt8) : List UInt8 × List UInt8 × Bool := if 46 ∈ l then (before l, behind l, true) else (l, [], false)

set_option maxRecDepth 100000 in
set_option maxHeartbeats 1000000 in
theorem cut_dot (l : List UInt8) (w : World) (hl : l.length ≤ 1000000) :
    Calls Tryd.prog 83 #[.string ⟨l.toArray⟩, .string ⟨#[46]⟩] w fun e w' => e = .returned (.tuple #[.string ⟨(cutL l).1.toArray⟩, .string ⟨(cutL l).2.1.toArray⟩, .bool (cutL l).2.2]) ∧ Below w.heap.size w w' := by
  have HH := Lib.hid (fun wx => index_dot l wx)
  unfold cutL
  by_cases h : (46 : UInt8) ∈ l
  · have HL := before_len l h
    have HB := Lib.hid (before_take l)
    have HD := Lib.hid (behind_drop l)
    rw [if_pos h]
    simp only [if_pos h] at HH
    generalize before l = B at *
    generalize behind l = D at *
    have hts := str_size l
    have x1 : (⟨l.toArray⟩ : ByteArray).extract 0 B.length = ⟨B.toArray⟩ := by
      rw [Lib.extract_mk, List.drop_zero, Nat.sub_zero, HB.out]
    have x2 : (⟨l.toArray⟩ : ByteArray).extract (B.length + 1) l.length = ⟨D.toArray⟩ := by
      rw [Lib.extract_mk, HD.out, List.take_of_length_le]
      rw [← HD.out]; simp
    clear HB HD
    generalize (⟨l.toArray⟩ : ByteArray) = t at *
    go_enter Tryd.func83, Tryd.ntmps83
    go_wp2_with (first | (go_at_call 89; refine (HH.out _).mono ?_; rintro e w' ⟨rfl, rfl⟩) | fail)
    go_quiet (fail)
    go_wp2
    exact bodyPost_ret (results_tmp3 rfl _ _ _) rfl ⟨rfl, bl_drewN (Below.refl _ _) _⟩
  · rw [if_neg h]
    simp only [if_neg h] at HH
    go_enter Tryd.func83, Tryd.ntmps83
    go_wp2_with (first | (go_at_call 89; refine (HH.out _).mono ?_; rintro e w' ⟨rfl, rfl⟩) | fail)
    exact bodyPost_ret (results_tmp3 rfl _ _ _) rfl ⟨rfl, Below.refl _ _⟩

set_option maxRecDepth 100000 in
set_option maxHeartbeats 1000000 in
theorem strCut_dot (l : List UInt8) (w : World) (hl : l.length ≤ 1000000) :
    Calls Tryd.prog 77 #[.string ⟨l.toArray⟩, .string ⟨#[46]⟩] w fun e w' => e = .returned (.tuple #[.string ⟨(cutL l).1.toArray⟩, .string ⟨(cutL l).2.1.toArray⟩, .bool (cutL l).2.2]) ∧ Below w.heap.size w w' := by
  have HH := Lib.hid (fun wx => cut_dot l wx hl)
  go_enter Tryd.func77, Tryd.ntmps77
  go_wp2_with (first | (go_at_call 83; refine (HH.out _).mono ?_; rintro e w1 ⟨rfl, hb⟩) | fail)
  exact bodyPost_ret (results_tmp3 rfl _ _ _) rfl ⟨rfl, hb⟩
end Go.Proofs.YtgocloilagcfoabDoor
