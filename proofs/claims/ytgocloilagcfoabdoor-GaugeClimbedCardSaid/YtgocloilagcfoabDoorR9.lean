/- The reference's point and IsText. -/
import Derived.Test.YtgocloilagcfoabDoorG4
import Derived.Test.YtgocloilagcfoabDoorR1
namespace Go.Proofs.YtgocloilagcfoabDoor
open Go.RowKit
attribute [local go_sem ↓] Go.wp_at_zero Go.wp_at_succ

/-- the place of the point, or the length; or -1 -/
def pointOf (l : List UInt8) : Int := if textOK l = true then ((cutL l).1.length : Int) else -1
theorem cutL_len (l : List UInt8) : (cutL l).1.length ≤ l.length := by
  unfold cutL; split
  · have := before_len l (by assumption); simp; omega
  · simp
/-- the part that has been looked at: no point yet, all digits; or one point, all else digits -/
def Seen (l : List UInt8) (i : Nat) (at' : Nat) : Prop := (at' = l.length ∧ ∀ j c, j < i → l[j]? = some c → isDig c = true) ∨ (at' < i ∧ l[at']? = some 46 ∧ ∀ j c, j < i → j ≠ at' → l[j]? = some c → isDig c = true)
theorem mem_tw (p : UInt8 → Bool) : ∀ (l : List UInt8) (c : UInt8), c ∈ l.takeWhile p → p c = true := by
  intro l
  induction l with
  | nil => intro c h; cases h
  | cons d l ih =>
    intro c h
    rw [List.takeWhile_cons] at h
    split at h
    · rename_i hd
      rcases List.mem_cons.1 h with h | h
      · rw [h]; exact hd
      · exact ih c h
    · cases h
theorem split46 (l : List UInt8) (h : (46 : UInt8) ∈ l) : l = before l ++ 46 :: behind l := by
  have e := List.takeWhile_append_dropWhile (p := (· != (46 : UInt8))) (l := l)
  unfold before behind
  cases hd : l.dropWhile (· != 46) with
  | nil =>
    exfalso
    rw [hd, List.append_nil] at e
    rw [← e] at h
    have := mem_tw _ _ _ h
    simp at this
  | cons c r =>
    have h1 := List.head?_dropWhile_not (· != (46 : UInt8)) l
    rw [hd] at h1
    simp at h1
    subst h1
    rw [hd] at e
    simpa using e.symm
theorem before_ne (l : List UInt8) (c : UInt8) (h : c ∈ before l) : c ≠ 46 := by
  have := mem_tw _ _ _ h
  simpa using this
theorem cut_at (l : List UInt8) (k : Nat) (h1 : l[k]? = some 46) (h2 : ∀ j c, j < k → l[j]? = some c → c ≠ 46) : (46 : UInt8) ∈ l ∧ (before l).length = k := by
  have hm := List.mem_of_getElem? h1
  refine ⟨hm, ?_⟩
  have e := split46 l hm
  rcases Nat.lt_trichotomy (before l).length k with h | h | h
  · exfalso
    have h4 : (before l ++ 46 :: behind l)[(before l).length]? = some 46 := by simp
    rw [← e] at h4
    exact h2 (before l).length 46 h h4 rfl
  · exact h
  · exfalso
    have h3 : (before l)[k]? = some 46 := by
      rw [e, List.getElem?_append_left h] at h1
      exact h1
    exact before_ne l 46 (List.mem_of_getElem? h3) rfl
theorem not_dig46 : ¬ isDig 46 = true := by decide
/-- in a text every place but the point's holds a digit -/
theorem text_at (l : List UInt8) (h : textOK l = true) (i : Nat) (c : UInt8) (hc : l[i]? = some c) : isDig c = true ∨ (c = 46 ∧ i = (before l).length) := by
  have hall : ∀ m : List UInt8, partOK m = true → ∀ c ∈ m, isDig c = true := by
    intro m hm c hc
    cases hd : isDig c
    · have := partOK_bad m c hc (by rw [hd]; decide)
      rw [this] at hm; cases hm
    · rfl
  unfold textOK at h
  simp only [Bool.and_eq_true] at h
  by_cases hm : (46 : UInt8) ∈ l
  · have hcut : cutL l = (before l, behind l, true) := if_pos hm
    rw [hcut] at h
    simp at h
    have e := split46 l hm
    rw [e] at hc
    rcases Nat.lt_trichotomy i (before l).length with hi | hi | hi
    · rw [List.getElem?_append_left hi] at hc
      exact .inl (hall _ h.1 c (List.mem_of_getElem? hc))
    · rw [List.getElem?_append_right (by omega), hi] at hc
      simp at hc
      exact .inr ⟨hc.symm, hi⟩
    · rw [List.getElem?_append_right (by omega)] at hc
      obtain ⟨j, hj⟩ : ∃ j, i - (before l).length = j + 1 := ⟨i - (before l).length - 1, by omega⟩
      rw [hj] at hc
      simp at hc
      exact .inl (hall _ h.2 c (List.mem_of_getElem? hc))
  · have hcut : cutL l = (l, [], false) := if_neg hm
    rw [hcut] at h
    exact .inl (hall _ h.1 c (List.mem_of_getElem? hc))
/-- the end of the look, no point -/
theorem point_none (l : List UInt8) (h : ∀ j c, j < l.length → l[j]? = some c → isDig c = true) : pointOf l = if 1 ≤ l.length ∧ l.length ≤ 40 then (l.length : Int) else -1 := by
  have hd : ∀ c ∈ l, isDig c = true := by
    intro c hc
    obtain ⟨j, hj⟩ := List.getElem?_of_mem hc
    have := (List.getElem?_eq_some_iff.1 hj).1
    exact h j c this hj
  have hm : ¬ (46 : UInt8) ∈ l := fun h46 => not_dig46 (hd 46 h46)
  have hcut : cutL l = (l, [], false) := if_neg hm
  unfold pointOf textOK
  rw [hcut]
  by_cases hl : 1 ≤ l.length ∧ l.length ≤ 40
  · rw [if_pos hl, partOK_of l hl.1 hl.2 hd]; rfl
  · rw [if_neg hl, partOK_len l hl]; rfl
/-- the end of the look, a point at k -/
theorem point_at (l : List UInt8) (k : Nat) (hk : k < l.length) (h46 : l[k]? = some 46) (h : ∀ j c, j < l.length → j ≠ k → l[j]? = some c → isDig c = true) :
    pointOf l = if 1 ≤ k ∧ k ≤ 40 ∧ k + 1 ≠ l.length ∧ l.length - k - 1 ≤ 40 then (k : Int) else -1 := by
  obtain ⟨hm, hlen⟩ := cut_at l k h46 (fun j c hj hc e => not_dig46 (by rw [← e]; exact h j c (by omega) (by omega) hc))
  have e := split46 l hm
  have hcut : cutL l = (before l, behind l, true) := if_pos hm
  have hl2 : l.length = (before l).length + 1 + (behind l).length := by
    have := congrArg List.length e
    simp at this
    omega
  have d1 : ∀ c ∈ before l, isDig c = true := by
    intro c hc
    obtain ⟨j, hj⟩ := List.getElem?_of_mem hc
    have hj2 := (List.getElem?_eq_some_iff.1 hj).1
    exact h j c (by omega) (by omega) (by rw [e, List.getElem?_append_left hj2]; exact hj)
  have d2 : ∀ c ∈ behind l, isDig c = true := by
    intro c hc
    obtain ⟨j, hj⟩ := List.getElem?_of_mem hc
    have hj2 := (List.getElem?_eq_some_iff.1 hj).1
    refine h (k + 1 + j) c (by omega) (by omega) ?_
    rw [e, List.getElem?_append_right (by omega)]
    rw [show k + 1 + j - (before l).length = j + 1 by omega]
    simpa using hj
  unfold pointOf textOK
  rw [hcut]
  dsimp only
  by_cases hc : 1 ≤ k ∧ k ≤ 40 ∧ k + 1 ≠ l.length ∧ l.length - k - 1 ≤ 40
  · rw [if_pos hc, partOK_of (before l) (by omega) (by omega) d1, partOK_of (behind l) (by omega) (by omega) d2, hlen]; rfl
  · rw [if_neg hc]
    by_cases h1 : 1 ≤ (before l).length ∧ (before l).length ≤ 40
    · rw [partOK_len (behind l) (by omega), Bool.not_true, Bool.or_false, Bool.and_false]; rfl
    · rw [partOK_len (before l) h1, Bool.false_and]; rfl
theorem point_bad (l : List UInt8) (i : Nat) (c : UInt8) (hc : l[i]? = some c) (hd : ¬ isDig c = true) (h : ¬ (c = 46 ∧ i = (before l).length)) : pointOf l = -1 := by
  unfold pointOf
  rw [if_neg]
  intro ht
  rcases text_at l ht i c hc with h1 | h1
  · exact hd h1
  · exact h h1
set_option maxRecDepth 100000 in
set_option maxHeartbeats 4000000 in
theorem refPoint (l : List UInt8) (w : World) (hl : l.length ≤ 1000) :
    Calls Tryd.prog 58 #[.string ⟨l.toArray⟩] w fun e w' => e = .returned (.int .i64 (pointOf l)) ∧ Below w.heap.size w w' := by
  have hts := str_size l
  have hb : ∀ (k : Nat) (c : UInt8), l[k]? = some c → ∀ h, (⟨l.toArray⟩ : ByteArray)[k]'h = c := by
    intro k c hc h
    have h' : k < l.length := by rw [hts] at h; exact h
    rw [List.getElem?_eq_getElem h'] at hc
    exact Option.some.inj hc
  have HB := Lib.hid hb
  clear hb
  generalize (⟨l.toArray⟩ : ByteArray) = t at *
  obtain ⟨n, hn⟩ : ∃ n, l.length = n := ⟨_, rfl⟩
  rw [hn] at hts hl
  have HNN := Lib.hid hn
  clear hn
  go_enter Tryd.func58, Tryd.ntmps58
  go_wp2_with fail
  go_loopw [3, 4] (fun x y wr => ∃ q i : Nat, x = .int .i64 q ∧ y = .int .i64 i ∧ i ≤ n ∧ Hid ((q = n ∧ ∀ j c, j < i → l[j]? = some c → isDig c = true) ∨ (q < i ∧ l[q]? = some 46 ∧ ∀ j c, j < i → j ≠ q → l[j]? = some c → isDig c = true)) ∧ Below w.heap.size w wr) (fun _ y _ => n - (intOf y).toNat)
  case atStart => exact ⟨n, 0, rfl, rfl, by omega, Lib.hid (.inl ⟨rfl, fun j c h => by omega⟩), (by repeat (first | exact Below.refl _ _ | exact Nat.le_refl _ | refine Below.alloc ?_ ?_ _ | refine Below.setCell ?_ ?_ _ | refine Below.drew ?_ | refine bl_drewN ?_ _ | (assumption) | refine bl_call ?_ (by assumption) ?_ | omega | (simp <;> omega)))⟩
  case round =>
    obtain ⟨q, i, rfl, rfl, hi, HS, B⟩ := hrel
    by_cases hlt : i < n
    · obtain ⟨c, hc⟩ : ∃ c, l[i]? = some c := ⟨l[i]'(by have := HNN.out; omega), by simp [show i < l.length by have := HNN.out; omega]⟩
      have hit : i < t.size := by omega
      have htc : t[i]'hit = c := HB.out i c hc hit
      have hc1 : c.toNat < 256 := c.toNat_lt
      have HC := Lib.hid hc
      clear hc
      have e46 : c = 46 ↔ c.toNat = 46 := ⟨fun h => by rw [h]; rfl, fun h => UInt8.toNat_inj.1 h⟩
      have ed : isDig c = true ↔ 48 ≤ c.toNat ∧ c.toNat ≤ 51 := by unfold isDig; simp
      have hq : q = n ∨ (q < i ∧ l[q]? = some 46) := by
        rcases HS.out with h | h
        · exact .inl h.1
        · exact .inr ⟨h.1, h.2.1⟩
      have HQ := Lib.hid hq
      have HE46 := Lib.hid e46
      have HED := Lib.hid ed
      clear hq e46 ed
      by_cases h46 : c.toNat = 46
      · by_cases hqn : q = n
        · go_wp2_with fail
          go_roundw
          case rel =>
            refine ⟨i, i + 1, rfl, by simp, by omega, Lib.hid (.inr ⟨by omega, ?_, ?_⟩), B⟩
            · rw [HC.out, HE46.out.2 h46]
            · intro j d hj hne hd
              rcases HS.out with h | h
              · exact h.2 j d (by omega) hd
              · omega
          case measure => simp [intOf]; omega
        · have hbad := point_bad l i c HC.out (fun h => by have := HED.out.1 h; omega) (fun h => by
            rcases HQ.out with h1 | h1
            · exact hqn h1
            · have := cut_at l
              have hne := h.2
              have hbq : (before l).length ≤ q := by
                rcases Nat.lt_or_ge q (before l).length with hlt2 | hge
                · exfalso
                  have e := split46 l (List.mem_of_getElem? h1.2)
                  have h5 := h1.2
                  rw [e, List.getElem?_append_left hlt2] at h5
                  exact before_ne l 46 (List.mem_of_getElem? h5) rfl
                · exact hge
              omega)
          have HBAD := Lib.hid hbad
          clear hbad
          go_wp2_with fail
          go_ret
          exact ⟨by rw [HBAD.out]; rfl, B⟩
      · by_cases h48 : c.toNat < 48
        · have hbad := point_bad l i c HC.out (fun h => by have := HED.out.1 h; omega) (fun h => h46 (HE46.out.1 h.1))
          have HBAD := Lib.hid hbad
          clear hbad
          go_wp2_with fail
          go_ret
          exact ⟨by rw [HBAD.out]; rfl, B⟩
        · by_cases h51 : 51 < c.toNat
          · have hbad := point_bad l i c HC.out (fun h => by have := HED.out.1 h; omega) (fun h => h46 (HE46.out.1 h.1))
            have HBAD := Lib.hid hbad
            clear hbad
            go_wp2_with fail
            go_ret
            exact ⟨by rw [HBAD.out]; rfl, B⟩
          · go_wp2_with fail
            go_roundw
            case rel =>
              refine ⟨q, i + 1, rfl, by simp, by omega, Lib.hid ?_, B⟩
              have hdg := HED.out.2 ⟨by omega, by omega⟩
              rcases HS.out with h | h
              · refine .inl ⟨h.1, fun j d hj hd => ?_⟩
                rcases (by omega : j < i ∨ j = i) with h5 | h5
                · exact h.2 j d h5 hd
                · rw [h5, HC.out] at hd; rw [← Option.some.inj hd]; exact hdg
              · refine .inr ⟨by omega, h.2.1, fun j d hj hne hd => ?_⟩
                rcases (by omega : j < i ∨ j = i) with h5 | h5
                · exact h.2.2 j d h5 hne hd
                · rw [h5, HC.out] at hd; rw [← Option.some.inj hd]; exact hdg
            case measure => simp [intOf]; omega
    · obtain rfl : i = n := by omega
      have hp : pointOf l = if 1 ≤ q ∧ q ≤ 40 ∧ ¬ (q : Int) = (i : Int) - 1 ∧ (i : Int) - q - 1 ≤ 40 then (q : Int) else -1 := by
        have hnn := HNN.out
        rcases HS.out with h | h
        · rw [point_none l (fun j c hj hc => h.2 j c (by omega) hc), hnn]
          by_cases hc : 1 ≤ i ∧ i ≤ 40
          · rw [if_pos hc, if_pos ⟨by omega, by omega, by omega, by omega⟩, h.1]
          · rw [if_neg hc, if_neg (fun h5 => hc ⟨by omega, by omega⟩)]
        · rw [point_at l q (by omega) h.2.1 (fun j c hj hne hc => h.2.2 j c (by omega) hne hc), hnn]
          by_cases hc : 1 ≤ q ∧ q ≤ 40 ∧ q + 1 ≠ i ∧ i - q - 1 ≤ 40
          · rw [if_pos hc, if_pos ⟨by omega, by omega, by omega, by omega⟩]
          · rw [if_neg hc, if_neg (fun h5 => hc ⟨by omega, by omega, by omega, by omega⟩)]
      by_cases g1 : (q : Int) < 1
      · have HBAD := Lib.hid (show pointOf l = -1 by rw [hp, if_neg (fun h => by omega)])
        clear hp
        go_wp2_with fail
        go_ret
        exact ⟨by rw [HBAD.out]; rfl, B⟩
      · by_cases g2 : 40 < (q : Int)
        · have HBAD := Lib.hid (show pointOf l = -1 by rw [hp, if_neg (fun h => by omega)])
          clear hp
          go_wp2_with fail
          go_ret
          exact ⟨by rw [HBAD.out]; rfl, B⟩
        · by_cases g3 : (q : Int) = (i : Int) - 1
          · have HBAD := Lib.hid (show pointOf l = -1 by rw [hp, if_neg (fun h => by omega)])
            clear hp
            go_wp2_with fail
            go_ret
            exact ⟨by rw [HBAD.out]; rfl, B⟩
          · by_cases g4 : 40 < (i : Int) - q - 1
            · have HBAD := Lib.hid (show pointOf l = -1 by rw [hp, if_neg (fun h => by omega)])
              clear hp
              go_wp2_with fail
              go_ret
              exact ⟨by rw [HBAD.out]; rfl, B⟩
            · have HBAD := Lib.hid (show pointOf l = q by rw [hp, if_pos ⟨by omega, by omega, g3, by omega⟩])
              clear hp
              go_wp2_with fail
              go_ret
              exact ⟨by rw [HBAD.out]; rfl, B⟩
end Go.Proofs.YtgocloilagcfoabDoor
