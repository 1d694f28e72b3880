/- The text of a ladder's value has no point. -/
import Derived.Test.YtgocloilagcfoabDoorM7
namespace Go.Proofs.YtgocloilagcfoabDoor
open Go.RowKit

/-- the digits of k by the weights below i -/
def zk : Nat → Int → List UInt8
  | 0, _ => []
  | i + 1, k => if GM.fb i ≤ k then 49 :: zk i (k - GM.fb i) else 48 :: zk i k
theorem zk_len (i : Nat) : ∀ k, (zk i k).length = i := by
  induction i with
  | zero => intro k; rfl
  | succ i ih => intro k; rw [zk]; split <;> rw [List.length_cons, ih]
theorem zk_dig (i : Nat) : ∀ k, ∀ c ∈ zk i k, 48 ≤ c := by
  induction i with
  | zero => intro k c hc; cases hc
  | succ i ih =>
    intro k c hc
    rw [zk] at hc
    split at hc
    · rcases List.mem_cons.1 hc with h | h
      · rw [h]; decide
      · exact ih _ c h
    · rcases List.mem_cons.1 hc with h | h
      · rw [h]; decide
      · exact ih _ c h
theorem zk_vl (i : Nat) : ∀ k, GM.vl (i + 40) (zk i k) = GM.gr i k := by
  induction i with
  | zero => intro k; rfl
  | succ i ih =>
    intro k
    rw [zk, GM.gr]
    by_cases h : GM.fb i ≤ k
    · rw [if_pos h, if_pos h, GM.vl, show i + 1 + 40 - 1 = i + 40 by omega, ih, pt_pu]
      simp only [show ((49 : UInt8).toNat : Int) - 48 = 1 from rfl, Int.one_mul]
      rfl
    · rw [if_neg h, if_neg h, GM.vl_zero_cons, show i + 1 + 40 - 1 = i + 40 by omega, ih]
theorem zk_plain (i : Nat) : ∀ k, (k < GM.fb i → GM.plainD 48 (zk i k) = true) ∧ (k < GM.fb (i - 1) → GM.plainD 49 (zk i k) = true) := by
  induction i with
  | zero => intro k; exact ⟨fun _ => rfl, fun _ => rfl⟩
  | succ i ih =>
    intro k
    rw [zk]
    constructor
    · intro hk
      by_cases h : GM.fb i ≤ k
      · rw [if_pos h, GM.plainD]
        have : k - GM.fb i < GM.fb (i - 1) := by
          cases i with
          | zero =>
            have e1 : GM.fb (0 + 1) = 2 := rfl
            have e2 : GM.fb 0 = 1 := rfl
            rw [e1] at hk
            rw [e2] at h
            show k - GM.fb 0 < GM.fb 0
            rw [e2]
            omega
          | succ j =>
            rw [GM.fb] at hk
            simp only [Nat.add_sub_cancel]
            omega
        rw [(ih (k - GM.fb i)).2 this]; rfl
      · rw [if_neg h, GM.plainD, (ih k).1 (by omega)]; rfl
    · intro hk
      rw [Nat.add_sub_cancel] at hk
      rw [if_neg (by omega), GM.plainD, (ih k).1 hk]; rfl
theorem rung_rest (k : Int) (h1 : k < 14930352) : GM.rest 40 (GM.gr 34 k) = (0, 0) := by
  have hp := (zk_plain 34 k).1 (by rw [GM.fb34]; exact h1)
  have hd : ∀ c ∈ zk 34 k ++ [], 48 ≤ c := by intro c hc; rw [List.append_nil] at hc; exact zk_dig 34 k c hc
  have hl := zk_len 34 k
  have hv := zk_vl 34 k
  have b := GM.vl_bounds (zk 34 k) 74 48 (by omega) (zk_dig 34 k) hp
  have r := (GM.ints_vl (zk 34 k) [] (by simp) 48 hd (by rw [List.append_nil]; exact hp)).2
  rw [hl, List.append_nil] at r
  rw [show 34 + 40 = 74 from rfl] at r hv
  rw [hv] at r b
  have := (ints_pad 34 (GM.gr 34 k) b.2.1 6).2
  rw [show 6 + 34 = 40 from rfl, r] at this
  rw [this]; rfl
theorem rung_text (k : Int) (h1 : k < 14930352) : ∀ c ∈ GM.textOf (GM.gr 34 k), c = 48 ∨ c = 49 := by
  rw [GM.textOf_eq, rung_rest k h1]
  intro c hc
  have e : GM.tail (0, 0) = [] := rfl
  rw [e, List.append_nil] at hc
  exact head_dig _ c hc
end Go.Proofs.YtgocloilagcfoabDoor
