/- The reference's IsPlain. -/
import Derived.Test.YtgocloilagcfoabDoorR10
namespace Go.Proofs.YtgocloilagcfoabDoor
open Go.RowKit
attribute [local go_sem ↓] Go.wp_at_zero Go.wp_at_succ

/-- whether a text is plain -/
def plainL (l : List UInt8) : Bool := textOK l && (GM.plainD 48 (digitsOf l) && ((!(l[0]? == some 48) || decide ((cutL l).1.length = 1)) && (decide ((cutL l).1.length = l.length) || !(l[l.length - 1]? == some 48))))
theorem text_len (l : List UInt8) (h : textOK l = true) : 1 ≤ (cutL l).1.length := by
  unfold textOK at h
  simp only [Bool.and_eq_true] at h
  exact (partOK_len1 h.1).1
theorem plainD_cons (q c : UInt8) (l : List UInt8) : GM.plainD q (c :: l) = (!(decide (49 < c.toNat) || (decide (c.toNat = 49) && decide (q.toNat = 49))) && GM.plainD c l) := by
  have e1 : (49 : UInt8) < c ↔ 49 < c.toNat := by rw [UInt8.lt_iff_toNat_lt]; exact Iff.rfl
  have e2 : ∀ x : UInt8, (x == 49) = decide (x.toNat = 49) := by
    intro x
    by_cases h : x = 49
    · subst h; rfl
    · have : ¬ x.toNat = 49 := fun hh => h (UInt8.toNat_inj.1 hh)
      simp [h, this]
  simp only [GM.plainD, e1, e2]

set_option maxRecDepth 100000 in
set_option maxHeartbeats 4000000 in
theorem refIsPlain_no (l : List UInt8) (w : World) (hl : l.length ≤ 1000) (ht : textOK l = false) :
    Calls Tryd.prog 29 #[.string ⟨l.toArray⟩] w fun e w' => e = .returned (.bool (plainL l)) ∧ Below w.heap.size w w' := by
  have HP := Lib.hid (show plainL l = false by unfold plainL; rw [ht]; rfl)
  have hpt := fun wx => refPoint l wx hl
  rw [show pointOf l = -1 from if_neg (by rw [ht]; decide)] at hpt
  have HPT := Lib.hid hpt
  have hts := str_size l
  clear hpt ht
  generalize (⟨l.toArray⟩ : ByteArray) = t at *
  obtain ⟨n, hn⟩ : ∃ n, l.length = n := ⟨_, rfl⟩
  rw [hn] at hts hl
  clear hn
  go_enter Tryd.func29, Tryd.ntmps29
  go_wp2_with fail
  refine (HPT.out _).mono ?_
  rintro e w1 ⟨rfl, hb1⟩
  have B1 : Below w.heap.size w w1 := bl_call (by repeat (first | exact Below.refl _ _ | exact Nat.le_refl _ | refine Below.alloc ?_ ?_ _ | refine Below.setCell ?_ ?_ _ | refine Below.drew ?_ | refine bl_drewN ?_ _ | (assumption) | refine bl_call ?_ (by assumption) ?_ | omega | (simp <;> omega))) hb1 (by first | assumption | (simp; done) | (simp; omega) | omega)
  clear hb1
  have hsz_1 := B1.size
  go_upto_region 4 with fail
  go_loopw [4, 5] (fun x y wr => ∃ q i : Nat, x = .int .u8 q ∧ y = .int .i64 i ∧ q < 256 ∧ i ≤ n ∧ Below w.heap.size w wr) (fun _ y _ => n - (intOf y).toNat)
  case atStart => exact ⟨48, 0, rfl, rfl, by omega, by omega, (by repeat (first | exact Below.refl _ _ | exact Nat.le_refl _ | refine Below.alloc ?_ ?_ _ | refine Below.setCell ?_ ?_ _ | refine Below.drew ?_ | refine bl_drewN ?_ _ | (assumption) | refine bl_call ?_ (by assumption) ?_ | omega | (simp <;> omega)))⟩
  case round =>
    obtain ⟨q, i, rfl, rfl, hq, hi, B⟩ := hrel
    by_cases hlt : i < n
    · have hit : i < t.size := by omega
      obtain ⟨c, htc⟩ : ∃ c, t[i]'hit = c := ⟨_, rfl⟩
      have hc1 : c.toNat < 256 := c.toNat_lt
      have hib : ¬ (i : Int) = -1 := by omega
      by_cases h49 : 49 < c.toNat
      · skip
        go_wp2_with fail
        go_ret
        exact ⟨by rw [HP.out]; rfl, B⟩
      · by_cases h1 : c.toNat = 49
        · by_cases h2 : q = 49
          · skip
            go_wp2_with fail
            go_ret
            exact ⟨by rw [HP.out]; rfl, B⟩
          · go_wp2_with fail
            go_roundw
            case rel => exact ⟨c.toNat, i + 1, by simp [*], by simp, hc1, by omega, B⟩
            case measure => simp [intOf]; omega
        · go_wp2_with fail
          go_roundw
          case rel => exact ⟨c.toNat, i + 1, by simp [*], by simp, hc1, by omega, B⟩
          case measure => simp [intOf]; omega
    · obtain rfl : i = n := by omega
      go_wp2_with fail
      go_ret
      exact ⟨by rw [HP.out]; rfl, B⟩
set_option maxRecDepth 100000 in
set_option maxHeartbeats 4000000 in
theorem refIsPlain_text (l : List UInt8) (w : World) (hl : l.length ≤ 1000) (ht : textOK l = true) :
    Calls Tryd.prog 29 #[.string ⟨l.toArray⟩] w fun e w' => e = .returned (.bool (plainL l)) ∧ Below w.heap.size w w' := by
  have hpt := fun wx => refPoint l wx hl
  rw [show pointOf l = ((cutL l).1.length : Int) from if_pos ht] at hpt
  obtain ⟨hb40, hDb, hbl, hDl, hat⟩ := digits_at l ht
  have hb1 := text_len l ht
  have hpl : plainL l = (GM.plainD 48 (digitsOf l) && ((!(l[0]? == some 48) || decide ((cutL l).1.length = 1)) && (decide ((cutL l).1.length = l.length) || !(l[l.length - 1]? == some 48)))) := by unfold plainL; rw [ht]; rfl
  obtain ⟨b, hbb⟩ : ∃ b, (cutL l).1.length = b := ⟨_, rfl⟩
  obtain ⟨D, hDD⟩ : ∃ D, digitsOf l = D := ⟨_, rfl⟩
  rw [hbb] at hpt hb40 hbl hDl hDb hat hpl hb1
  rw [hDD] at hDl hDb hat hpl
  clear hbb hDD ht
  have hts := str_size l
  have hb : ∀ (k : Nat) (c : UInt8), l[k]? = some c → ∀ h, (⟨l.toArray⟩ : ByteArray)[k]'h = c := by
    intro k c hc h
    have h' : k < l.length := by rw [hts] at h; exact h
    rw [List.getElem?_eq_getElem h'] at hc
    exact Option.some.inj hc
  have HB := Lib.hid hb
  have HPT := Lib.hid hpt
  have HAT := Lib.hid hat
  clear hb hpt hat
  generalize (⟨l.toArray⟩ : ByteArray) = t at *
  obtain ⟨n, hn⟩ : ∃ n, l.length = n := ⟨_, rfl⟩
  rw [hn] at hts hl hbl hDl hpl
  have HNN := Lib.hid hn
  have HPL := Lib.hid hpl
  have HDL := Lib.hid hDl
  clear hn hpl hDl
  go_enter Tryd.func29, Tryd.ntmps29
  go_wp2_with fail
  refine (HPT.out _).mono ?_
  rintro e w1 ⟨rfl, hb1⟩
  have B1 : Below w.heap.size w w1 := bl_call (by repeat (first | exact Below.refl _ _ | exact Nat.le_refl _ | refine Below.alloc ?_ ?_ _ | refine Below.setCell ?_ ?_ _ | refine Below.drew ?_ | refine bl_drewN ?_ _ | (assumption) | refine bl_call ?_ (by assumption) ?_ | omega | (simp <;> omega))) hb1 (by first | assumption | (simp; done) | (simp; omega) | omega)
  clear hb1
  have hsz_1 := B1.size
  go_upto_region 4 with fail
  go_loopw [4, 5] (fun x y wr => ∃ (q : UInt8) (i j : Nat), x = .int .u8 q.toNat ∧ y = .int .i64 i ∧ i ≤ n ∧ ((i ≤ b ∧ j = i) ∨ (b < i ∧ j + 1 = i)) ∧ Hid (GM.plainD q (D.drop j) = GM.plainD 48 D) ∧ Below w.heap.size w wr) (fun _ y _ => n - (intOf y).toNat)
  case atStart => exact ⟨48, 0, 0, rfl, rfl, by omega, .inl ⟨by omega, rfl⟩, Lib.hid rfl, (by repeat (first | exact Below.refl _ _ | exact Nat.le_refl _ | refine Below.alloc ?_ ?_ _ | refine Below.setCell ?_ ?_ _ | refine Below.drew ?_ | refine bl_drewN ?_ _ | (assumption) | refine bl_call ?_ (by assumption) ?_ | omega | (simp <;> omega)))⟩
  case round =>
    obtain ⟨q, i, j, rfl, rfl, hi, hij, HS, B⟩ := hrel
    have hq : q.toNat < 256 := q.toNat_lt
    by_cases hlt : i < n
    · obtain ⟨c, hc⟩ : ∃ c, l[i]? = some c := ⟨l[i]'(by have := HNN.out; omega), by simp [show i < l.length by have := HNN.out; omega]⟩
      have hit : i < t.size := by omega
      have htc : t[i]'hit = c := HB.out i c hc hit
      have hc1 : c.toNat < 256 := c.toNat_lt
      have hac := HAT.out i c hc
      clear hc
      by_cases hib : i = b
      · have hib' : (i : Int) = b := by omega
        clear hac
        go_wp2_with fail
        go_roundw
        case rel => exact ⟨q, i + 1, j, by simp [*], by first | (simp; done) | (simp; omega), by omega, .inr ⟨by omega, by omega⟩, HS, B⟩
        case measure => simp [intOf]; omega
      · have hib' : ¬ (i : Int) = b := by omega
        have hdj : D[j]? = some c := by
          rcases hij with ⟨h5, h6⟩ | ⟨h5, h6⟩
          · rw [h6]; exact (hac.1 (by omega)).1
          · rw [show j = i - 1 by omega]; exact (hac.2 h5).1
        obtain ⟨hjD, hje⟩ := List.getElem?_eq_some_iff.1 hdj
        have hdrop : D.drop j = c :: D.drop (j + 1) := by rw [List.drop_eq_getElem_cons hjD, hje]
        have hst := HS.out
        rw [hdrop, plainD_cons] at hst
        have HST := Lib.hid hst
        have hij' : (i + 1 ≤ b ∧ j + 1 = i + 1) ∨ (b < i + 1 ∧ j + 1 + 1 = i + 1) := by omega
        clear hst hdrop hje hdj hac hij
        by_cases h49 : 49 < c.toNat
        · have HP := Lib.hid (show plainL l = false by rw [HPL.out, ← HST.out]; simp [h49])
          go_wp2_with fail
          go_ret
          exact ⟨by rw [HP.out]; rfl, B⟩
        · by_cases h1 : c.toNat = 49
          · by_cases h2 : q.toNat = 49
            · have HP := Lib.hid (show plainL l = false by rw [HPL.out, ← HST.out]; simp [h1, h2])
              go_wp2_with fail
              go_ret
              exact ⟨by rw [HP.out]; rfl, B⟩
            · have HS' := Lib.hid (show GM.plainD c (D.drop (j + 1)) = GM.plainD 48 D by rw [← HST.out]; simp [h1, h2])
              go_wp2_with fail
              go_roundw
              case rel => exact ⟨c, i + 1, j + 1, by simp [*], by simp, by omega, hij', HS', B⟩
              case measure => simp [intOf]; omega
          · have HS' := Lib.hid (show GM.plainD c (D.drop (j + 1)) = GM.plainD 48 D by rw [← HST.out]; simp [h1, h49])
            go_wp2_with fail
            go_roundw
            case rel => exact ⟨c, i + 1, j + 1, by simp [*], by simp, by omega, hij', HS', B⟩
            case measure => simp [intOf]; omega
    · obtain rfl : i = n := by omega
      have hD1 : GM.plainD 48 D = true := by
        have hd := HDL.out
        rw [← HS.out, List.drop_of_length_le (by split at hd <;> omega)]
        rfl
      have hpl := HPL.out
      rw [hD1, Bool.true_and] at hpl
      have HPL2 := Lib.hid hpl
      clear hpl
      obtain ⟨c, hc⟩ : ∃ c, l[0]? = some c := ⟨l[0]'(by have := HNN.out; omega), by simp [show 0 < l.length by have := HNN.out; omega]⟩
      obtain ⟨d, hd⟩ : ∃ d, l[i - 1]? = some d := ⟨l[i - 1]'(by have := HNN.out; omega), by simp [show i - 1 < l.length by have := HNN.out; omega]⟩
      have hit : 0 < t.size := by omega
      have htc : t[0]'hit = c := HB.out 0 c hc hit
      obtain ⟨k, rfl⟩ : ∃ k, i = k + 1 := ⟨i - 1, by omega⟩
      rw [Nat.add_sub_cancel] at hd
      have hik : k < t.size := by omega
      have htd : t[k]'hik = d := HB.out k d hd hik
      have hpl := HPL2.out
      rw [Nat.add_sub_cancel, hc, hd] at hpl
      have hc1 : c.toNat < 256 := c.toNat_lt
      have hd1 : d.toNat < 256 := d.toNat_lt
      have e48 : ∀ x : UInt8, (some x == some (48 : UInt8)) = decide (x.toNat = 48) := by
        intro x
        by_cases h : x = 48
        · subst h; rfl
        · have : ¬ x.toNat = 48 := fun hh => h (UInt8.toNat_inj.1 hh)
          simp [h, this]
      rw [e48, e48] at hpl
      have HPL3 := Lib.hid hpl
      have hg0 : (0 : Int) ≤ b := by omega
      clear hpl hc hd e48 hD1 hij HS HPL2 HPL
      by_cases g1 : c.toNat = 48
      · by_cases g2 : b = 1
        · subst g2
          by_cases g3 : k = 0
          · subst g3
            have HP := Lib.hid (show plainL l = true by rw [HPL3.out]; simp [g1])
            clear hd1 htd hik
            go_wp2_with fail
            go_ret
            exact ⟨by rw [HP.out]; rfl, B⟩
          · have g3' : ¬ (1 : Int) = (k : Int) + 1 := by omega
            have g3'' : ((1 : Int) == (k : Int) + 1) = false := by simp; omega
            by_cases g4 : d.toNat = 48
            · have HP := Lib.hid (show plainL l = false by rw [HPL3.out]; simp [g1, g3, g4])
              go_wp2_with fail
              go_ret
              exact ⟨by rw [HP.out]; rfl, B⟩
            · have g4'' : ((d.toNat : Int) != 48) = true := by simp; omega
              have HP := Lib.hid (show plainL l = true by rw [HPL3.out]; simp [g1, g3, g4])
              go_wp2_with fail
              go_ret
              exact ⟨by rw [HP.out]; rfl, B⟩
        · have g2' : ¬ (b : Int) = 1 := by omega
          have g2'' : ((b : Int) == 1) = false := by simp; omega
          have HP := Lib.hid (show plainL l = false by rw [HPL3.out]; simp [g1, g2])
          clear g2
          go_wp2_with fail
          go_ret
          exact ⟨by rw [HP.out]; rfl, B⟩
      · by_cases g3 : b = k + 1
        · subst g3
          have HP := Lib.hid (show plainL l = true by rw [HPL3.out]; simp [g1])
          go_wp2_with fail
          go_ret
          exact ⟨by rw [HP.out]; rfl, B⟩
        · have g3' : ¬ (b : Int) = (k : Int) + 1 := by omega
          have g3'' : ((b : Int) == (k : Int) + 1) = false := by simp; omega
          by_cases g4 : d.toNat = 48
          · have HP := Lib.hid (show plainL l = false by rw [HPL3.out]; simp [g1, g3, g4])
            clear g3
            go_wp2_with fail
            go_ret
            exact ⟨by rw [HP.out]; rfl, B⟩
          · have g4'' : ((d.toNat : Int) != 48) = true := by simp; omega
            have HP := Lib.hid (show plainL l = true by rw [HPL3.out]; simp [g1, g3, g4])
            clear g3
            go_wp2_with fail
            go_ret
            exact ⟨by rw [HP.out]; rfl, B⟩
theorem refIsPlain (l : List UInt8) (w : World) (hl : l.length ≤ 1000) :
    Calls Tryd.prog 29 #[.string ⟨l.toArray⟩] w fun e w' => e = .returned (.bool (plainL l)) ∧ Below w.heap.size w w' := by
  cases h : textOK l
  · exact refIsPlain_no l w hl h
  · exact refIsPlain_text l w hl h
end Go.Proofs.YtgocloilagcfoabDoor
