/- The library's TrimLeft at "0" cuts off the leading noughts; its Cut at "." parts a text at the first point. -/
import Derived.Test.YtgocloilagcfoabDoorSH
import Derived.Test.YtgocloilagcfoabDoorC3
import Derived.Test.YtgocloilagcfoabDoorD1
import Derived.Lib.Strings
import Derived.Lib.TrimByte
import Derived.Laws.Strings3
namespace Go.Proofs.YtgocloilagcfoabDoor
open Go.RowKit
attribute [local go_sem ↓] Go.wp_at_zero Go.wp_at_succ

theorem str_size (l : List UInt8) : (⟨l.toArray⟩ : ByteArray).size = l.length := by simp [ByteArray.size]
theorem str_tail (c : UInt8) (m : List UInt8) : (⟨(c :: m).toArray⟩ : ByteArray).extract 1 (m.length + 1) = ⟨m.toArray⟩ := by
  rw [Lib.extract_mk]; simp

theorem toList_mk (l : List UInt8) : (⟨l.toArray⟩ : ByteArray).toList = l := by simp [ByteArray.toList_eq]

set_option maxHeartbeats 1000000 in
theorem trimLeftByte0 (l : List UInt8) (w : World) (hl : l.length ≤ 1000000) :
    Calls Tryd.prog 85 #[.string ⟨l.toArray⟩, .int .u8 48] w fun e w' => e = .returned (.string ⟨(l.dropWhile (· == 48)).toArray⟩) ∧ w' = w := by
  go_enter Tryd.func85, Tryd.ntmps85
  go_wp2
  go_loop [0] (fun v => ∃ m : List UInt8, v = .string ⟨m.toArray⟩ ∧ m.length ≤ 1000000 ∧ Hid (m.dropWhile (· == 48) = l.dropWhile (· == 48))) (fun v => Lib.strSize v)
  case atStart => exact ⟨l, rfl, hl, Lib.hid rfl⟩
  case round =>
    obtain ⟨m, rfl, hml, HM⟩ := hrel
    cases m with
    | nil =>
      go_wp2
      go_ret
      exact ⟨by rw [← HM.out]; rfl, rfl⟩
    | cons c m =>
      have hts := str_size (c :: m)
      have hb0 : ∀ h, (⟨(c :: m).toArray⟩ : ByteArray)[0]'h = c := by intro h; rfl
      have hx := str_tail c m
      have hsz := Lib.strSize_string ⟨(c :: m).toArray⟩
      obtain ⟨t, ht⟩ : ∃ t : ByteArray, ⟨(c :: m).toArray⟩ = t := ⟨_, rfl⟩
      rw [ht] at hts hb0 hx hsz ⊢
      have HT := Lib.hid ht
      clear ht
      simp only [List.length_cons] at hts hml
      have h0 : 0 < t.size := by omega
      by_cases heq : c = 48
      · subst heq
        go_wp2
        go_round
        case rel => exact ⟨m, rfl, by omega, HM⟩
        case measure => rw [hsz, Lib.strSize_string, str_size]; omega
      · have hne : ¬ ((c.toNat : Int) = 48) := by
          intro e
          exact heq (UInt8.toNat_inj.1 (by simpa using (by exact_mod_cast e : c.toNat = 48)))
        have hbeq : ((c.toNat : Int) == 48) = false := by simpa using hne
        go_wp2
        go_ret
        refine ⟨?_, rfl⟩
        rw [← HM.out, ← HT.out, List.dropWhile_cons_of_neg (by simpa using heq)]
        rfl

set_option maxRecDepth 100000 in
set_option maxHeartbeats 1000000 in
theorem trimLeft0 (l : List UInt8) (w : World) (hl : l.length ≤ 1000000) :
    Calls Tryd.prog 80 #[.string ⟨l.toArray⟩, .string ⟨#[48]⟩] w fun e w' => e = .returned (.string ⟨(l.dropWhile (· == 48)).toArray⟩) ∧ w' = w := by
  go_enter Tryd.func80, Tryd.ntmps80
  cases l with
  | nil =>
    go_wp2_with fail
    go_ret
    exact ⟨rfl, rfl⟩
  | cons c m =>
    have hne : ¬ (⟨(c :: m).toArray⟩ : ByteArray).toList = [] := by rw [toList_mk]; simp
    have hne2 : (⟨(c :: m).toArray⟩ : ByteArray).toList.isEmpty = false := by rw [toList_mk]; rfl
    have HC := fun wx => trimLeftByte0 (c :: m) wx hl
    obtain ⟨R, hR⟩ : ∃ R : ByteArray, ⟨((c :: m).dropWhile (· == 48)).toArray⟩ = R := ⟨_, rfl⟩
    rw [hR] at HC
    have HRR := Lib.hid hR
    have HCC := Lib.hid HC
    clear HC hR
    generalize ht : (⟨(c :: m).toArray⟩ : ByteArray) = t at hne hne2 HCC ⊢
    clear ht
    go_wp2_with (first | (go_at_call 85; refine (HCC.out _).mono ?_; rintro e w' ⟨rfl, rfl⟩) | fail)
    go_ret
    exact ⟨by rw [HRR.out]; rfl, rfl⟩
end Go.Proofs.YtgocloilagcfoabDoor
