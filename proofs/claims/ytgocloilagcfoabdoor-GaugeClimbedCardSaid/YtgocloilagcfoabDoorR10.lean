/- The reference's IsText and Value. -/
import Derived.Test.YtgocloilagcfoabDoorR9
import Derived.Test.YtgocloilagcfoabDoorR3
import Derived.Test.YtgocloilagcfoabDoorG11
namespace Go.Proofs.YtgocloilagcfoabDoor
open Go.RowKit
attribute [local go_sem ↓] Go.wp_at_zero Go.wp_at_succ

/-- the digits of a text, the point left out -/
def digitsOf (l : List UInt8) : List UInt8 := (cutL l).1 ++ (if (cutL l).2.2 = true then (cutL l).2.1 else [])
theorem digits_at (l : List UInt8) (h : textOK l = true) : (cutL l).1.length ≤ 40 ∧ (digitsOf l).length ≤ (cutL l).1.length + 40 ∧ (cutL l).1.length ≤ l.length ∧ (digitsOf l).length + (if (cutL l).1.length < l.length then 1 else 0) = l.length ∧
    ∀ i c, l[i]? = some c → (i < (cutL l).1.length → (digitsOf l)[i]? = some c ∧ isDig c = true) ∧ ((cutL l).1.length < i → (digitsOf l)[i - 1]? = some c ∧ isDig c = true) := by
  have hlen := cutL_len l
  have h40 : (cutL l).1.length ≤ 40 := by
    unfold textOK at h
    simp only [Bool.and_eq_true] at h
    exact (partOK_len1 h.1).2.1
  have hta := text_at l h
  have hDb : (digitsOf l).length ≤ (cutL l).1.length + 40 := by
    unfold digitsOf
    unfold textOK at h
    simp only [Bool.and_eq_true] at h
    split
    · rename_i hp
      rw [hp] at h
      have := (partOK_len1 (l := (cutL l).2.1) (by simpa using h.2)).2.1
      simp; omega
    · simp
  unfold digitsOf at *
  by_cases hm : (46 : UInt8) ∈ l
  · have hcut : cutL l = (before l, behind l, true) := if_pos hm
    have e := split46 l hm
    have hl2 : l.length = (before l).length + 1 + (behind l).length := by
      have := congrArg List.length e
      simp at this
      omega
    rw [hcut] at hlen h40 hDb ⊢
    dsimp only at hlen h40 hDb ⊢
    refine ⟨h40, hDb, hlen, ?_, ?_⟩
    · rw [if_pos rfl, if_pos (by omega), List.length_append]; omega
    · intro i c hc
      have hdig : i ≠ (before l).length → isDig c = true := fun hne => by
        rcases hta i c hc with h1 | h1
        · exact h1
        · exact absurd h1.2 hne
      rw [if_pos rfl]
      rw [e] at hc
      constructor
      · intro hi
        rw [List.getElem?_append_left hi] at hc
        exact ⟨by rw [List.getElem?_append_left hi]; exact hc, hdig (by omega)⟩
      · intro hi
        rw [List.getElem?_append_right (by omega)] at hc
        obtain ⟨j, hj⟩ : ∃ j, i - (before l).length = j + 1 := ⟨i - (before l).length - 1, by omega⟩
        rw [hj] at hc
        simp at hc
        refine ⟨?_, hdig (by omega)⟩
        rw [List.getElem?_append_right (by omega), show i - 1 - (before l).length = j by omega]
        exact hc
  · have hcut : cutL l = (l, [], false) := if_neg hm
    rw [hcut] at hlen h40 hDb ⊢
    dsimp only at hlen h40 hDb ⊢
    refine ⟨h40, hDb, hlen, by simp, ?_⟩
    intro i c hc
    have hi := (List.getElem?_eq_some_iff.1 hc).1
    refine ⟨fun _ => ⟨by simpa using hc, ?_⟩, fun h5 => by omega⟩
    rcases hta i c hc with h1 | h1
    · exact h1
    · exact absurd (List.mem_of_getElem? (h1.1 ▸ hc)) hm

theorem refIsText (l : List UInt8) (w : World) (hl : l.length ≤ 1000) :
    Calls Tryd.prog 19 #[.string ⟨l.toArray⟩] w fun e w' => e = .returned (.bool (textOK l)) ∧ Below w.heap.size w w' := by
  have hp := fun wx => refPoint l wx hl
  have HD : Hid (decide (0 ≤ pointOf l) = textOK l) := Lib.hid (by
    unfold pointOf
    cases h : textOK l <;> simp)
  obtain ⟨q, hq⟩ : ∃ q, pointOf l = q := ⟨_, rfl⟩
  rw [hq] at hp HD
  have HP := Lib.hid hp
  clear hp hq
  go_enter Tryd.func19, Tryd.ntmps19
  go_wp2_with fail
  refine (HP.out _).mono ?_
  rintro e w1 ⟨rfl, hb1⟩
  have B1 : Below w.heap.size w w1 := bl_call (by repeat (first | exact Below.refl _ _ | exact Nat.le_refl _ | refine Below.alloc ?_ ?_ _ | refine Below.setCell ?_ ?_ _ | refine Below.drew ?_ | refine bl_drewN ?_ _ | (assumption) | refine bl_call ?_ (by assumption) ?_ | omega | (simp <;> omega))) hb1 (by first | assumption | (simp; done) | (simp; omega) | omega)
  clear hb1
  have hsz_1 := B1.size
  go_wp2_with fail
  go_ret
  exact ⟨by rw [← HD.out]; rfl, (by repeat (first | exact Below.refl _ _ | exact Nat.le_refl _ | refine Below.alloc ?_ ?_ _ | refine Below.setCell ?_ ?_ _ | refine Below.drew ?_ | refine bl_drewN ?_ _ | (assumption) | refine bl_call ?_ (by assumption) ?_ | omega | (simp <;> omega)))⟩
set_option maxRecDepth 100000 in
set_option maxHeartbeats 8000000 in
theorem refValue (l : List UInt8) (w : World) (hl : l.length ≤ 1000) (ht : textOK l = true) :
    Calls Tryd.prog 21 #[.string ⟨l.toArray⟩] w fun e w' => e = .returned (.agg #[.int .i64 (valOf l).1, .int .i64 (valOf l).2]) ∧ Below w.heap.size w w' := by
  have hpt := fun wx => refPoint l wx hl
  have hval : valOf l = GM.vl ((cutL l).1.length + 40) (digitsOf l) := rfl
  rw [show pointOf l = ((cutL l).1.length : Int) from if_pos ht] at hpt
  obtain ⟨hb40, hDb, hbl, hDl, hat⟩ := digits_at l ht
  rw [hval]
  obtain ⟨b, hbb⟩ : ∃ b, (cutL l).1.length = b := ⟨_, rfl⟩
  obtain ⟨D, hDD⟩ : ∃ D, digitsOf l = D := ⟨_, rfl⟩
  rw [hbb] at hpt hb40 hbl hDl hDb hat ⊢
  rw [hDD] at hDl hDb hat ⊢
  clear hval hbb hDD ht
  have hts := str_size l
  have hb : ∀ (k : Nat) (c : UInt8), l[k]? = some c → ∀ h, (⟨l.toArray⟩ : ByteArray)[k]'h = c := by
    intro k c hc h
    have h' : k < l.length := by rw [hts] at h; exact h
    rw [List.getElem?_eq_getElem h'] at hc
    exact Option.some.inj hc
  have HB := Lib.hid hb
  have HPT := Lib.hid hpt
  have HAT := Lib.hid hat
  clear hb hpt hat
  generalize (⟨l.toArray⟩ : ByteArray) = t at *
  obtain ⟨n, hn⟩ : ∃ n, l.length = n := ⟨_, rfl⟩
  rw [hn] at hts hl hbl hDl
  have HNN := Lib.hid hn
  clear hn
  have HDL := Lib.hid hDl
  clear hDl
  go_enter Tryd.func21, Tryd.ntmps21
  go_wp2_with fail
  refine (HPT.out _).mono ?_
  rintro e w1 ⟨rfl, hb1⟩
  have R1 : w1.heap[w.heap.size]? = some (.cells #[.int .i64 0, .int .i64 0] 23 (0, 0)) := blk_call hb1 (by repeat (first | assumption | (with_reducible apply blk_set2) | (with_reducible apply blk_set1) | (with_reducible refine blk_far2 ?_ ?_; (first | omega | (simp; done) | (simp; omega))) | (with_reducible refine blk_far1 ?_ ?_; (first | omega | (simp; done) | (simp; omega))) | (with_reducible refine blk_new' _ _ ?_; (first | omega | (simp; done) | (simp; omega))) | (with_reducible refine blk_old ?_) | (with_reducible refine blk_drew ?_)))
  have B1 : Below w.heap.size w w1 := bl_call (by repeat (first | exact Below.refl _ _ | exact Nat.le_refl _ | refine Below.alloc ?_ ?_ _ | refine Below.setCell ?_ ?_ _ | refine Below.drew ?_ | refine bl_drewN ?_ _ | (assumption) | refine bl_call ?_ (by assumption) ?_ | omega | (simp <;> omega))) hb1 (by simp)
  clear hb1
  go_upto_region 3 with fail
  obtain ⟨O, hO⟩ : ∃ O, O = w1.heap.size := ⟨_, rfl⟩
  obtain ⟨w2, h2⟩ : ∃ w2, w2 = w1.alloc (.cells #[.int .i64 0, .int .i64 0] 23) := ⟨_, rfl⟩
  rw [← hO, ← h2]
  have R2 : w2.heap[w.heap.size]? = some (.cells #[.int .i64 0, .int .i64 0] 23 (0, 0)) := by rw [h2]; exact blk_old R1
  have O2 : w2.heap[O]? = some (.cells #[.int .i64 0, .int .i64 0] 23 (0, 0)) := by rw [h2, hO]; exact blk_new _ _
  have hRO : w.heap.size < O := by rw [hO]; exact blk_lt R1
  have B2 : Below w.heap.size w w2 := by rw [h2]; exact B1.alloc (by omega) _
  clear h2 hO R1 B1
  go_upto_region 4 with fail
  go_loopw [5, 6, 7] (fun y _ _ wr => ∃ (i j : Nat) (X Y : Int), y = .int .i64 i ∧ i ≤ n ∧ j ≤ 80 ∧ ((i ≤ b ∧ j = i) ∨ (b < i ∧ j + 1 = i)) ∧ (-600000000 * (j : Int) ≤ X ∧ X ≤ 600000000 * (j : Int) ∧ -600000000 * (j : Int) ≤ Y ∧ Y ≤ 600000000 * (j : Int)) ∧ Hid (GM.add (X, Y) (GM.vl (b + 40 - j) (D.drop j)) = GM.vl (b + 40) D) ∧ wr.heap[O]? = some (.cells #[.int .i64 X, .int .i64 Y] 23 (0, 0)) ∧ wr.heap[w.heap.size]? = some (.cells #[.int .i64 0, .int .i64 0] 23 (0, 0)) ∧ Below w.heap.size w wr) (fun y _ _ _ => n - (intOf y).toNat)
  case atStart => exact ⟨0, 0, 0, 0, rfl, by omega, by omega, .inl ⟨by omega, rfl⟩, by omega, Lib.hid (GM.zero_add _), O2, R2, B2⟩
  case round =>
    obtain ⟨i, j, X, Y, rfl, hi, hj, hij, hxy, HS, XO, R, B⟩ := hrel
    by_cases hlt : i < n
    · obtain ⟨c, hc⟩ : ∃ c, l[i]? = some c := ⟨l[i]'(by have := HNN.out; omega), by simp [show i < l.length by have := HNN.out; omega]⟩
      have hit : i < t.size := by omega
      have htc : t[i]'hit = c := HB.out i c hc hit
      have hc1 : c.toNat < 256 := c.toNat_lt
      have hac := HAT.out i c hc
      have HC := Lib.hid hc
      clear hc
      have hOs := blk_lt XO
      have hws := blk_lt R
      by_cases hib : i = b
      · have hib' : (i : Int) = b := by omega
        have hgt : ¬ (b : Int) < (i : Int) := by omega
        have HXO := Lib.hid XO
        have HRR := Lib.hid R
        clear XO R hac
        go_upto_region 10 with fail
        go_loopw [7] (fun x wq => x = .int .i64 0 ∧ wq = wr) (fun _ _ => 0)
        case atStart => exact ⟨rfl, rfl⟩
        case round =>
          obtain ⟨rfl, rfl⟩ := hrel
          go_wp2_with fail
          go_roundw
          case rel => exact ⟨i + 1, j, X, Y, by first | (simp; done) | (simp; omega), by omega, hj, .inr ⟨by omega, by omega⟩, hxy, HS, HXO.out, HRR.out, B⟩
          case measure => simp [intOf]; omega
      · have hdj : D[j]? = some c ∧ isDig c = true := by
          rcases hij with ⟨h5, h6⟩ | ⟨h5, h6⟩
          · rw [h6]; exact hac.1 (by omega)
          · rw [show j = i - 1 by omega]; exact hac.2 h5
        have hjD := (List.getElem?_eq_some_iff.1 hdj.1).1
        have hd1 : 48 ≤ c.toNat := by have := hdj.2; unfold isDig at this; simp at this; omega
        have hd2 : c.toNat ≤ 51 := by have := hdj.2; unfold isDig at this; simp at this; omega
        have hstep := vl_step (b + 40) D j c hdj.1
        obtain ⟨m, hm0⟩ : ∃ m, m = b + 40 - (j + 1) := ⟨_, rfl⟩
        rw [← hm0] at hstep
        have hm : m < 81 := by omega
        have hof := fun wx => refPower ((m : Int) - 40) wx (by omega) (by omega)
        rw [pw_pt] at hof
        have hpb := pt_bd ⟨m, by omega⟩
        dsimp only at hpb
        obtain ⟨⟨px, py⟩, hpt2⟩ : ∃ p, GM.pt m = p := ⟨_, rfl⟩
        rw [hpt2] at hof hpb hstep
        dsimp only at hof hpb hstep
        obtain ⟨p1, p2, p3, p4⟩ := hpb
        obtain ⟨d, hdd⟩ : ∃ d : Nat, c.toNat = d + 48 := ⟨c.toNat - 48, by omega⟩
        have hd3 : d ≤ 3 := by omega
        rw [show (c.toNat : Int) - 48 = d by omega] at hstep
        obtain ⟨kz, hkz⟩ : ∃ z : Int, (m : Int) - 40 = z := ⟨_, rfl⟩
        have hkz2 : -40 ≤ kz ∧ kz ≤ 40 := by omega
        rw [hkz] at hof
        have HOF := Lib.hid hof
        have HSTEP := Lib.hid hstep
        have HM0 := Lib.hid hm0
        have hib' : ¬ (i : Int) = b := by omega
        have hsub : (c.toNat : Int) - 48 = d := by omega
        have hw8 : IntKind.u8.wrap (d : Int) = d := IntWalk.u8_in _ (by omega)
        clear hof hstep hpt2 hac hdj
        rcases hij with ⟨h5, h6⟩ | ⟨h5, h6⟩
        · have hgt : ¬ (b : Int) < (i : Int) := by omega
          have hkk : (b : Int) - 1 - i = kz := by omega
          clear hkz hm0 hm
          have HXO := Lib.hid XO
          have HRR := Lib.hid R
          clear XO R
          go_upto_region 10 with fail
          go_loopw [7] (fun y wq => ∃ (sq : Nat) (U V : Int), y = .int .i64 sq ∧ sq ≤ d ∧ Hid (U = X + sq * px ∧ V = Y + sq * py) ∧ wq.heap[O]? = some (.cells #[.int .i64 U, .int .i64 V] 23 (0, 0)) ∧ wq.heap[w.heap.size]? = some (.cells #[.int .i64 0, .int .i64 0] 23 (0, 0)) ∧ Below w.heap.size w wq) (fun y _ => d - (intOf y).toNat)
          case atStart => exact ⟨0, X, Y, rfl, by omega, Lib.hid ⟨by simp, by simp⟩, HXO.out, HRR.out, B⟩
          case round =>
            obtain ⟨sq, U, V, rfl, hs, HUV, UO, R, B⟩ := hrel
            have hOs := blk_lt UO
            have hws := blk_lt R
            have hU := HUV.out.1
            have hV := HUV.out.2
            obtain ⟨t1, t2⟩ := mul_bd (a := (sq : Int)) (b := px) (A := 3) (B := 200000000) (by omega) (by omega) p1 p2
            obtain ⟨t3, t4⟩ := mul_bd (a := (sq : Int)) (b := py) (A := 3) (B := 200000000) (by omega) (by omega) p3 p4
            simp only [Int.reduceMul, Int.reduceNeg] at t1 t2 t3 t4
            have u1 : -600000000 * ((j : Int) + 1) ≤ U ∧ U ≤ 600000000 * ((j : Int) + 1) ∧ -600000000 * ((j : Int) + 1) ≤ V ∧ V ≤ 600000000 * ((j : Int) + 1) := by omega
            have hjb : (j : Int) + 1 ≤ 80 := by omega
            clear hU hV t1 t2 t3 t4
            have HRR := Lib.hid R
            clear R
            by_cases hsd : sq < d
            · have hsd' : (sq : Int) < d := by omega
              have pblk4 := UO
              clear UO
              go_upto_region 12 with fail
              have hne' : ((i : Int) != (b : Int)) = true := by simp; omega
              rw [hne']
              clear hne' hib' hgt hkk hsub hw8 hsd' hc1 hd1 hd2 hdd htc hit
              have pblk4 : wr.heap[O]? = some (.cells #[.int .i64 U, .int .i64 V] 23 (0, 0)) := by first | assumption | exact hblk4
              refine with_act fun a0 ha0 => ?_
              refine wp_region_inv (by kernel_rfl) (by kernel_rfl) (fun s a' w' => ∃ v40 v41 v42 v43 : Value, a' = putL a0 [(40, v40), (41, v41), (42, v42), (43, v43)] ∧ Hid ((s 0 = true → v40 = .agg #[.int .i64 U, .int .i64 V]) ∧ (s 1 = true → v41 = .int .i64 kz) ∧ (s 2 = true → v42 = .agg #[.int .i64 px, .int .i64 py]) ∧ (s 3 = true → v43 = .agg #[.int .i64 (U + px), .int .i64 (V + py)]) ∧ True) ∧ BelX [O] wr w' ∧ (∃ (c0 c1 : Value), w'.heap[O]? = some (.cells #[c0, c1] 23 (0, 0)) ∧ (s 4 = true → c0 = .int .i64 (U + px) ∧ c1 = .int .i64 (V + py)) ∧ (s 4 = false → c0 = .int .i64 U ∧ c1 = .int .i64 V)) ∧ (s 4 = true → s 0 = true ∧ s 1 = true ∧ s 2 = true ∧ s 3 = true ∧ True) ∧ True) ?x1hzero ⟨?x1hs0, ?x1hs1, ?x1hs2, ?x1hs3, ?x1hs4, trivial⟩ ?x1hdone
              case x1hzero =>
                refine ⟨a0.tmps.getD 40 undef, a0.tmps.getD 41 undef, a0.tmps.getD 42 undef, a0.tmps.getD 43 undef, ?_, ?_, ?_, ?_, ?_, trivial⟩
                · simp only [putL, put_self]
                · exact Lib.hid ⟨fun h => (by simp at h), fun h => (by simp at h), fun h => (by simp at h), fun h => (by simp at h), trivial⟩
                · exact BelX.start _ _
                · exact ⟨.int .i64 U, .int .i64 V, pblk4, fun h => (by simp at h), fun _ => ⟨rfl, rfl⟩⟩
                · exact fun h => (by simp at h)
              case x1hs0 =>
                intro s a' w' hsk hdep hI K hK
                try dsimp only at hI hK
                obtain ⟨v40, v41, v42, v43, hact, hR, hX, hP4, hQ4, _⟩ := hI
                subst hact
                have HK := Lib.hid hK
                clear hK
                obtain ⟨b4_0, b4_1, pb4, pt4, pf4⟩ := hP4
                have hs0 : s 4 = false := Bool.eq_false_iff.2 fun h => (by have := hQ4 h; simp [hsk] at this)
                obtain ⟨q4_0, q4_1⟩ := pf4 hs0
                subst q4_0
                subst q4_1
                clear hs0
                have kp4_0 := cell_of_row w' (O) 0 _ _ _ pb4
                have kp4_1 := cell_of_row w' (O) 1 _ _ _ pb4
                simp only [List.getElem?_toArray, List.getElem?_cons_zero, List.getElem?_cons_succ] at kp4_0 kp4_1
                have kq4 : ∀ o, w'.frozen? ⟨O, o, none⟩ = false := fun o => frozen_of_row w' _ o _ _ pb4
                have hPB4 := Lib.hid pb4
                clear pb4
                have hPT4 := Lib.hid pt4
                clear pt4
                have hPF4 := Lib.hid pf4
                clear pf4
                clear hdep
                refine StepG.mk rfl ?_; rw [ha0]; simp only [putL, Act.put, List.setIfInBounds_toArray, List.set_cons_zero, List.set_cons_succ]
                go_wp2_with fail
                refine HK.out _ _ ?_
                refine ⟨(.agg #[.int .i64 U, .int .i64 V]), v41, v42, v43, (by rw [ha0]; simp only [putL, Act.put, List.setIfInBounds_toArray, List.set_cons_zero, List.set_cons_succ]), ?_, ?_, ?_, ?_, trivial⟩
                · obtain ⟨h40, h41, h42, h43, _⟩ := hR.out
                  exact Lib.hid ⟨fun _ => rfl, fun h => h41 (by simpa using h), fun h => h42 (by simpa using h), fun h => h43 (by simpa using h), trivial⟩
                · exact hX
                · exact ⟨_, _, hPB4.out, fun h => hPT4.out (by simpa using h), fun h => ⟨rfl, rfl⟩⟩
                · exact fun h => (by have h1 := hQ4 (by simpa using h); simp [h1])
              case x1hs1 =>
                intro s a' w' hsk hdep hI K hK
                try dsimp only at hI hK
                obtain ⟨v40, v41, v42, v43, hact, hR, hX, hP4, hQ4, _⟩ := hI
                subst hact
                have HK := Lib.hid hK
                clear hK
                obtain ⟨b4_0, b4_1, pb4, pt4, pf4⟩ := hP4
                have hs0 : s 4 = false := Bool.eq_false_iff.2 fun h => (by have := hQ4 h; simp [hsk] at this)
                obtain ⟨q4_0, q4_1⟩ := pf4 hs0
                subst q4_0
                subst q4_1
                clear hs0
                have kp4_0 := cell_of_row w' (O) 0 _ _ _ pb4
                have kp4_1 := cell_of_row w' (O) 1 _ _ _ pb4
                simp only [List.getElem?_toArray, List.getElem?_cons_zero, List.getElem?_cons_succ] at kp4_0 kp4_1
                have kq4 : ∀ o, w'.frozen? ⟨O, o, none⟩ = false := fun o => frozen_of_row w' _ o _ _ pb4
                have hPB4 := Lib.hid pb4
                clear pb4
                have hPT4 := Lib.hid pt4
                clear pt4
                have hPF4 := Lib.hid pf4
                clear pf4
                clear hdep
                refine StepG.mk rfl ?_; rw [ha0]; simp only [putL, Act.put, List.setIfInBounds_toArray, List.set_cons_zero, List.set_cons_succ]
                go_wp2_with fail
                refine HK.out _ _ ?_
                refine ⟨v40, (.int .i64 kz), v42, v43, (by rw [ha0]; simp only [putL, Act.put, List.setIfInBounds_toArray, List.set_cons_zero, List.set_cons_succ]), ?_, ?_, ?_, ?_, trivial⟩
                · obtain ⟨h40, h41, h42, h43, _⟩ := hR.out
                  exact Lib.hid ⟨fun h => h40 (by simpa using h), fun _ => rfl, fun h => h42 (by simpa using h), fun h => h43 (by simpa using h), trivial⟩
                · exact hX
                · exact ⟨_, _, hPB4.out, fun h => hPT4.out (by simpa using h), fun h => ⟨rfl, rfl⟩⟩
                · exact fun h => (by have h1 := hQ4 (by simpa using h); simp [h1])
              case x1hs2 =>
                intro s a' w' hsk hdep hI K hK
                try dsimp only at hI hK
                obtain ⟨v40, v41, v42, v43, hact, hR, hX, hP4, hQ4, _⟩ := hI
                subst hact
                have HK := Lib.hid hK
                clear hK
                have e41 : v41 = .int .i64 kz := by obtain ⟨h40, h41, h42, h43, _⟩ := hR.out; exact h41 (hdep ⟨1, .data⟩ (by simp) rfl)
                subst e41
                obtain ⟨b4_0, b4_1, pb4, pt4, pf4⟩ := hP4
                have hs0 : s 4 = false := Bool.eq_false_iff.2 fun h => (by have := hQ4 h; simp [hsk] at this)
                obtain ⟨q4_0, q4_1⟩ := pf4 hs0
                subst q4_0
                subst q4_1
                clear hs0
                have kp4_0 := cell_of_row w' (O) 0 _ _ _ pb4
                have kp4_1 := cell_of_row w' (O) 1 _ _ _ pb4
                simp only [List.getElem?_toArray, List.getElem?_cons_zero, List.getElem?_cons_succ] at kp4_0 kp4_1
                have kq4 : ∀ o, w'.frozen? ⟨O, o, none⟩ = false := fun o => frozen_of_row w' _ o _ _ pb4
                have hPB4 := Lib.hid pb4
                clear pb4
                have hPT4 := Lib.hid pt4
                clear pt4
                have hPF4 := Lib.hid pf4
                clear pf4
                clear hdep
                refine StepG.mk rfl ?_; rw [ha0]; simp only [putL, Act.put, List.setIfInBounds_toArray, List.set_cons_zero, List.set_cons_succ]
                go_wp2_with fail
                refine ((HOF.out _)).mono ?_
                rintro e wn ⟨rfl, hb⟩
                go_wp2_with fail
                refine HK.out _ _ ?_
                refine ⟨v40, (.int .i64 kz), (.agg #[.int .i64 px, .int .i64 py]), v43, (by rw [ha0]; simp only [putL, Act.put, List.setIfInBounds_toArray, List.set_cons_zero, List.set_cons_succ]), ?_, ?_, ?_, ?_, trivial⟩
                · obtain ⟨h40, h41, h42, h43, _⟩ := hR.out
                  exact Lib.hid ⟨fun h => h40 (by simpa using h), fun _ => rfl, fun _ => rfl, fun h => h43 (by simpa using h), trivial⟩
                · exact hX.call hb
                · exact ⟨_, _, (hb.block _ (blk_lt hPB4.out)).trans hPB4.out, fun h => hPT4.out (by simpa using h), fun h => ⟨rfl, rfl⟩⟩
                · exact fun h => (by have h1 := hQ4 (by simpa using h); simp [h1])
              case x1hs3 =>
                intro s a' w' hsk hdep hI K hK
                try dsimp only at hI hK
                obtain ⟨v40, v41, v42, v43, hact, hR, hX, hP4, hQ4, _⟩ := hI
                subst hact
                have HK := Lib.hid hK
                clear hK
                have e40 : v40 = .agg #[.int .i64 U, .int .i64 V] := by obtain ⟨h40, h41, h42, h43, _⟩ := hR.out; exact h40 (hdep ⟨0, .data⟩ (by simp) rfl)
                subst e40
                have e42 : v42 = .agg #[.int .i64 px, .int .i64 py] := by obtain ⟨h40, h41, h42, h43, _⟩ := hR.out; exact h42 (hdep ⟨2, .data⟩ (by simp) rfl)
                subst e42
                obtain ⟨b4_0, b4_1, pb4, pt4, pf4⟩ := hP4
                have hs0 : s 4 = false := Bool.eq_false_iff.2 fun h => (by have := hQ4 h; simp [hsk] at this)
                obtain ⟨q4_0, q4_1⟩ := pf4 hs0
                subst q4_0
                subst q4_1
                clear hs0
                have kp4_0 := cell_of_row w' (O) 0 _ _ _ pb4
                have kp4_1 := cell_of_row w' (O) 1 _ _ _ pb4
                simp only [List.getElem?_toArray, List.getElem?_cons_zero, List.getElem?_cons_succ] at kp4_0 kp4_1
                have kq4 : ∀ o, w'.frozen? ⟨O, o, none⟩ = false := fun o => frozen_of_row w' _ o _ _ pb4
                have hPB4 := Lib.hid pb4
                clear pb4
                have hPT4 := Lib.hid pt4
                clear pt4
                have hPF4 := Lib.hid pf4
                clear pf4
                clear hdep
                refine StepG.mk rfl ?_; rw [ha0]; simp only [putL, Act.put, List.setIfInBounds_toArray, List.set_cons_zero, List.set_cons_succ]
                go_wp2_with fail
                refine ((refPlus _ _ _ _ _ (by omega) (by omega) (by omega) (by omega))).mono ?_
                rintro e wn ⟨rfl, hb⟩
                go_wp2_with fail
                refine HK.out _ _ ?_
                refine ⟨(.agg #[.int .i64 U, .int .i64 V]), v41, (.agg #[.int .i64 px, .int .i64 py]), (.agg #[.int .i64 (U + px), .int .i64 (V + py)]), (by rw [ha0]; simp only [putL, Act.put, List.setIfInBounds_toArray, List.set_cons_zero, List.set_cons_succ]), ?_, ?_, ?_, ?_, trivial⟩
                · obtain ⟨h40, h41, h42, h43, _⟩ := hR.out
                  exact Lib.hid ⟨fun _ => rfl, fun h => h41 (by simpa using h), fun _ => rfl, fun _ => rfl, trivial⟩
                · exact hX.call hb
                · exact ⟨_, _, (hb.block _ (blk_lt hPB4.out)).trans hPB4.out, fun h => hPT4.out (by simpa using h), fun h => ⟨rfl, rfl⟩⟩
                · exact fun h => (by have h1 := hQ4 (by simpa using h); simp [h1])
              case x1hs4 =>
                intro s a' w' hsk hdep hI K hK
                try dsimp only at hI hK
                obtain ⟨v40, v41, v42, v43, hact, hR, hX, hP4, hQ4, _⟩ := hI
                subst hact
                have HK := Lib.hid hK
                clear hK
                have e43 : v43 = .agg #[.int .i64 (U + px), .int .i64 (V + py)] := by obtain ⟨h40, h41, h42, h43, _⟩ := hR.out; exact h43 (hdep ⟨3, .data⟩ (by simp) rfl)
                subst e43
                obtain ⟨b4_0, b4_1, pb4, pt4, pf4⟩ := hP4
                have hs0 : s 4 = false := hsk
                obtain ⟨q4_0, q4_1⟩ := pf4 hs0
                subst q4_0
                subst q4_1
                clear hs0
                have kp4_0 := cell_of_row w' (O) 0 _ _ _ pb4
                have kp4_1 := cell_of_row w' (O) 1 _ _ _ pb4
                simp only [List.getElem?_toArray, List.getElem?_cons_zero, List.getElem?_cons_succ] at kp4_0 kp4_1
                have kq4 : ∀ o, w'.frozen? ⟨O, o, none⟩ = false := fun o => frozen_of_row w' _ o _ _ pb4
                have hPB4 := Lib.hid pb4
                clear pb4
                have hPT4 := Lib.hid pt4
                clear pt4
                have hPF4 := Lib.hid pf4
                clear pf4
                have hd0 : s 0 = true := hdep ⟨0, .phase⟩ (by simp) rfl
                have hd1 : s 1 = true := hdep ⟨1, .phase⟩ (by simp) rfl
                have hd2 : s 2 = true := hdep ⟨2, .phase⟩ (by simp) rfl
                have hd3 : s 3 = true := hdep ⟨3, .data⟩ (by simp) rfl
                clear hdep
                refine StepG.mk rfl ?_; rw [ha0]; simp only [putL, Act.put, List.setIfInBounds_toArray, List.set_cons_zero, List.set_cons_succ]
                go_wp2_with fail
                refine HK.out _ _ ?_
                refine ⟨v40, v41, v42, (.agg #[.int .i64 (U + px), .int .i64 (V + py)]), (by rw [ha0]; simp only [putL, Act.put, List.setIfInBounds_toArray, List.set_cons_zero, List.set_cons_succ]), ?_, ?_, ?_, ?_, trivial⟩
                · obtain ⟨h40, h41, h42, h43, _⟩ := hR.out
                  exact Lib.hid ⟨fun h => h40 (by simpa using h), fun h => h41 (by simpa using h), fun h => h42 (by simpa using h), fun _ => rfl, trivial⟩
                · exact ((hX.setOld (p := ⟨O, 0, none⟩) (by simp) _).setOld (p := ⟨O, 1, none⟩) (by simp) _)
                · exact ⟨_, _, blk_set2 hPB4.out, fun _ => ⟨rfl, rfl⟩, fun h => (by simp at h)⟩
                · exact fun _ => (by simp [hd0, hd1, hd2, hd3])
              intro s a' w8 hall hI
              try dsimp only at hI
              obtain ⟨v40, v41, v42, v43, hact, hR, hXR, hP4, hQ4, _⟩ := hI
              subst hact
              obtain ⟨h40, h41, h42, h43, _⟩ := hR.out
              clear hR
              have e40 := h40 (hall 0 (by decide))
              subst e40
              clear h40
              have e41 := h41 (hall 1 (by decide))
              subst e41
              clear h41
              have e42 := h42 (hall 2 (by decide))
              subst e42
              clear h42
              have e43 := h43 (hall 3 (by decide))
              subst e43
              clear h43
              obtain ⟨c0, c1, pblkR4, hpt, _⟩ := hP4
              clear hQ4
              obtain ⟨es0, es1⟩ := hpt (hall 4 (by decide))
              subst es0
              subst es1
              clear hpt
              try clear pblk4
              have pblk4 := pblkR4
              clear pblkR4
              clear hall
              rw [ha0]; simp only [putL, Act.put, List.setIfInBounds_toArray, List.set_cons_zero, List.set_cons_succ]
              clear ha0
              have B8 : Below w.heap.size w w8 := hXR.below (by first | assumption | exact (by repeat (first | exact Below.refl _ _ | exact Nat.le_refl _ | refine Below.alloc ?_ ?_ _ | refine Below.setCell ?_ ?_ _ | refine Below.drew ?_ | refine bl_drewN ?_ _ | (assumption) | refine bl_call ?_ (by assumption) ?_ | omega | (simp <;> omega)))) (by first | omega | (simp <;> omega)) (by simp <;> omega)
              have R8 := (hXR.block _ (blk_lt HRR.out) (by simp <;> omega)).trans HRR.out
              clear hXR
              go_wp2_with fail
              go_roundw
              case rel =>
                refine ⟨sq + 1, U + px, V + py, by simp, by omega, Lib.hid ⟨?_, ?_⟩, pblk4, R8, B8⟩
                · rw [HUV.out.1]; push_cast; grind
                · rw [HUV.out.2]; push_cast; grind
              case measure => simp [intOf]; omega
            · obtain rfl : sq = d := by omega
              go_wp2_with fail
              go_roundw
              case rel =>
                refine ⟨i + 1, j + 1, U, V, by simp, by omega, by omega, by omega, by omega, Lib.hid ?_, UO, HRR.out, B⟩
                rw [← HS.out, HSTEP.out, ← HM0.out, ← GM.add_assoc, HUV.out.1, HUV.out.2]
                rfl
              case measure => simp [intOf]; omega
        · have hgt : (b : Int) < (i : Int) := by omega
          have hkk : (b : Int) - 1 - i + 1 = kz := by omega
          clear hkz hm0 hm
          have HXO := Lib.hid XO
          have HRR := Lib.hid R
          clear XO R
          go_upto_region 10 with fail
          go_loopw [7] (fun y wq => ∃ (sq : Nat) (U V : Int), y = .int .i64 sq ∧ sq ≤ d ∧ Hid (U = X + sq * px ∧ V = Y + sq * py) ∧ wq.heap[O]? = some (.cells #[.int .i64 U, .int .i64 V] 23 (0, 0)) ∧ wq.heap[w.heap.size]? = some (.cells #[.int .i64 0, .int .i64 0] 23 (0, 0)) ∧ Below w.heap.size w wq) (fun y _ => d - (intOf y).toNat)
          case atStart => exact ⟨0, X, Y, rfl, by omega, Lib.hid ⟨by simp, by simp⟩, HXO.out, HRR.out, B⟩
          case round =>
            obtain ⟨sq, U, V, rfl, hs, HUV, UO, R, B⟩ := hrel
            have hOs := blk_lt UO
            have hws := blk_lt R
            have hU := HUV.out.1
            have hV := HUV.out.2
            obtain ⟨t1, t2⟩ := mul_bd (a := (sq : Int)) (b := px) (A := 3) (B := 200000000) (by omega) (by omega) p1 p2
            obtain ⟨t3, t4⟩ := mul_bd (a := (sq : Int)) (b := py) (A := 3) (B := 200000000) (by omega) (by omega) p3 p4
            simp only [Int.reduceMul, Int.reduceNeg] at t1 t2 t3 t4
            have u1 : -600000000 * ((j : Int) + 1) ≤ U ∧ U ≤ 600000000 * ((j : Int) + 1) ∧ -600000000 * ((j : Int) + 1) ≤ V ∧ V ≤ 600000000 * ((j : Int) + 1) := by omega
            have hjb : (j : Int) + 1 ≤ 80 := by omega
            clear hU hV t1 t2 t3 t4
            have HRR := Lib.hid R
            clear R
            by_cases hsd : sq < d
            · have hsd' : (sq : Int) < d := by omega
              have pblk4 := UO
              clear UO
              go_upto_region 12 with fail
              have hne' : ((i : Int) != (b : Int)) = true := by simp; omega
              rw [hne']
              clear hne' hib' hgt hkk hsub hw8 hsd' hc1 hd1 hd2 hdd htc hit
              have pblk4 : wr.heap[O]? = some (.cells #[.int .i64 U, .int .i64 V] 23 (0, 0)) := by first | assumption | exact hblk4
              refine with_act fun a0 ha0 => ?_
              refine wp_region_inv (by kernel_rfl) (by kernel_rfl) (fun s a' w' => ∃ v40 v41 v42 v43 : Value, a' = putL a0 [(40, v40), (41, v41), (42, v42), (43, v43)] ∧ Hid ((s 0 = true → v40 = .agg #[.int .i64 U, .int .i64 V]) ∧ (s 1 = true → v41 = .int .i64 kz) ∧ (s 2 = true → v42 = .agg #[.int .i64 px, .int .i64 py]) ∧ (s 3 = true → v43 = .agg #[.int .i64 (U + px), .int .i64 (V + py)]) ∧ True) ∧ BelX [O] wr w' ∧ (∃ (c0 c1 : Value), w'.heap[O]? = some (.cells #[c0, c1] 23 (0, 0)) ∧ (s 4 = true → c0 = .int .i64 (U + px) ∧ c1 = .int .i64 (V + py)) ∧ (s 4 = false → c0 = .int .i64 U ∧ c1 = .int .i64 V)) ∧ (s 4 = true → s 0 = true ∧ s 1 = true ∧ s 2 = true ∧ s 3 = true ∧ True) ∧ True) ?x2hzero ⟨?x2hs0, ?x2hs1, ?x2hs2, ?x2hs3, ?x2hs4, trivial⟩ ?x2hdone
              case x2hzero =>
                refine ⟨a0.tmps.getD 40 undef, a0.tmps.getD 41 undef, a0.tmps.getD 42 undef, a0.tmps.getD 43 undef, ?_, ?_, ?_, ?_, ?_, trivial⟩
                · simp only [putL, put_self]
                · exact Lib.hid ⟨fun h => (by simp at h), fun h => (by simp at h), fun h => (by simp at h), fun h => (by simp at h), trivial⟩
                · exact BelX.start _ _
                · exact ⟨.int .i64 U, .int .i64 V, pblk4, fun h => (by simp at h), fun _ => ⟨rfl, rfl⟩⟩
                · exact fun h => (by simp at h)
              case x2hs0 =>
                intro s a' w' hsk hdep hI K hK
                try dsimp only at hI hK
                obtain ⟨v40, v41, v42, v43, hact, hR, hX, hP4, hQ4, _⟩ := hI
                subst hact
                have HK := Lib.hid hK
                clear hK
                obtain ⟨b4_0, b4_1, pb4, pt4, pf4⟩ := hP4
                have hs0 : s 4 = false := Bool.eq_false_iff.2 fun h => (by have := hQ4 h; simp [hsk] at this)
                obtain ⟨q4_0, q4_1⟩ := pf4 hs0
                subst q4_0
                subst q4_1
                clear hs0
                have kp4_0 := cell_of_row w' (O) 0 _ _ _ pb4
                have kp4_1 := cell_of_row w' (O) 1 _ _ _ pb4
                simp only [List.getElem?_toArray, List.getElem?_cons_zero, List.getElem?_cons_succ] at kp4_0 kp4_1
                have kq4 : ∀ o, w'.frozen? ⟨O, o, none⟩ = false := fun o => frozen_of_row w' _ o _ _ pb4
                have hPB4 := Lib.hid pb4
                clear pb4
                have hPT4 := Lib.hid pt4
                clear pt4
                have hPF4 := Lib.hid pf4
                clear pf4
                clear hdep
                refine StepG.mk rfl ?_; rw [ha0]; simp only [putL, Act.put, List.setIfInBounds_toArray, List.set_cons_zero, List.set_cons_succ]
                go_wp2_with fail
                refine HK.out _ _ ?_
                refine ⟨(.agg #[.int .i64 U, .int .i64 V]), v41, v42, v43, (by rw [ha0]; simp only [putL, Act.put, List.setIfInBounds_toArray, List.set_cons_zero, List.set_cons_succ]), ?_, ?_, ?_, ?_, trivial⟩
                · obtain ⟨h40, h41, h42, h43, _⟩ := hR.out
                  exact Lib.hid ⟨fun _ => rfl, fun h => h41 (by simpa using h), fun h => h42 (by simpa using h), fun h => h43 (by simpa using h), trivial⟩
                · exact hX
                · exact ⟨_, _, hPB4.out, fun h => hPT4.out (by simpa using h), fun h => ⟨rfl, rfl⟩⟩
                · exact fun h => (by have h1 := hQ4 (by simpa using h); simp [h1])
              case x2hs1 =>
                intro s a' w' hsk hdep hI K hK
                try dsimp only at hI hK
                obtain ⟨v40, v41, v42, v43, hact, hR, hX, hP4, hQ4, _⟩ := hI
                subst hact
                have HK := Lib.hid hK
                clear hK
                obtain ⟨b4_0, b4_1, pb4, pt4, pf4⟩ := hP4
                have hs0 : s 4 = false := Bool.eq_false_iff.2 fun h => (by have := hQ4 h; simp [hsk] at this)
                obtain ⟨q4_0, q4_1⟩ := pf4 hs0
                subst q4_0
                subst q4_1
                clear hs0
                have kp4_0 := cell_of_row w' (O) 0 _ _ _ pb4
                have kp4_1 := cell_of_row w' (O) 1 _ _ _ pb4
                simp only [List.getElem?_toArray, List.getElem?_cons_zero, List.getElem?_cons_succ] at kp4_0 kp4_1
                have kq4 : ∀ o, w'.frozen? ⟨O, o, none⟩ = false := fun o => frozen_of_row w' _ o _ _ pb4
                have hPB4 := Lib.hid pb4
                clear pb4
                have hPT4 := Lib.hid pt4
                clear pt4
                have hPF4 := Lib.hid pf4
                clear pf4
                clear hdep
                refine StepG.mk rfl ?_; rw [ha0]; simp only [putL, Act.put, List.setIfInBounds_toArray, List.set_cons_zero, List.set_cons_succ]
                go_wp2_with fail
                refine HK.out _ _ ?_
                refine ⟨v40, (.int .i64 kz), v42, v43, (by rw [ha0]; simp only [putL, Act.put, List.setIfInBounds_toArray, List.set_cons_zero, List.set_cons_succ]), ?_, ?_, ?_, ?_, trivial⟩
                · obtain ⟨h40, h41, h42, h43, _⟩ := hR.out
                  exact Lib.hid ⟨fun h => h40 (by simpa using h), fun _ => rfl, fun h => h42 (by simpa using h), fun h => h43 (by simpa using h), trivial⟩
                · exact hX
                · exact ⟨_, _, hPB4.out, fun h => hPT4.out (by simpa using h), fun h => ⟨rfl, rfl⟩⟩
                · exact fun h => (by have h1 := hQ4 (by simpa using h); simp [h1])
              case x2hs2 =>
                intro s a' w' hsk hdep hI K hK
                try dsimp only at hI hK
                obtain ⟨v40, v41, v42, v43, hact, hR, hX, hP4, hQ4, _⟩ := hI
                subst hact
                have HK := Lib.hid hK
                clear hK
                have e41 : v41 = .int .i64 kz := by obtain ⟨h40, h41, h42, h43, _⟩ := hR.out; exact h41 (hdep ⟨1, .data⟩ (by simp) rfl)
                subst e41
                obtain ⟨b4_0, b4_1, pb4, pt4, pf4⟩ := hP4
                have hs0 : s 4 = false := Bool.eq_false_iff.2 fun h => (by have := hQ4 h; simp [hsk] at this)
                obtain ⟨q4_0, q4_1⟩ := pf4 hs0
                subst q4_0
                subst q4_1
                clear hs0
                have kp4_0 := cell_of_row w' (O) 0 _ _ _ pb4
                have kp4_1 := cell_of_row w' (O) 1 _ _ _ pb4
                simp only [List.getElem?_toArray, List.getElem?_cons_zero, List.getElem?_cons_succ] at kp4_0 kp4_1
                have kq4 : ∀ o, w'.frozen? ⟨O, o, none⟩ = false := fun o => frozen_of_row w' _ o _ _ pb4
                have hPB4 := Lib.hid pb4
                clear pb4
                have hPT4 := Lib.hid pt4
                clear pt4
                have hPF4 := Lib.hid pf4
                clear pf4
                clear hdep
                refine StepG.mk rfl ?_; rw [ha0]; simp only [putL, Act.put, List.setIfInBounds_toArray, List.set_cons_zero, List.set_cons_succ]
                go_wp2_with fail
                refine ((HOF.out _)).mono ?_
                rintro e wn ⟨rfl, hb⟩
                go_wp2_with fail
                refine HK.out _ _ ?_
                refine ⟨v40, (.int .i64 kz), (.agg #[.int .i64 px, .int .i64 py]), v43, (by rw [ha0]; simp only [putL, Act.put, List.setIfInBounds_toArray, List.set_cons_zero, List.set_cons_succ]), ?_, ?_, ?_, ?_, trivial⟩
                · obtain ⟨h40, h41, h42, h43, _⟩ := hR.out
                  exact Lib.hid ⟨fun h => h40 (by simpa using h), fun _ => rfl, fun _ => rfl, fun h => h43 (by simpa using h), trivial⟩
                · exact hX.call hb
                · exact ⟨_, _, (hb.block _ (blk_lt hPB4.out)).trans hPB4.out, fun h => hPT4.out (by simpa using h), fun h => ⟨rfl, rfl⟩⟩
                · exact fun h => (by have h1 := hQ4 (by simpa using h); simp [h1])
              case x2hs3 =>
                intro s a' w' hsk hdep hI K hK
                try dsimp only at hI hK
                obtain ⟨v40, v41, v42, v43, hact, hR, hX, hP4, hQ4, _⟩ := hI
                subst hact
                have HK := Lib.hid hK
                clear hK
                have e40 : v40 = .agg #[.int .i64 U, .int .i64 V] := by obtain ⟨h40, h41, h42, h43, _⟩ := hR.out; exact h40 (hdep ⟨0, .data⟩ (by simp) rfl)
                subst e40
                have e42 : v42 = .agg #[.int .i64 px, .int .i64 py] := by obtain ⟨h40, h41, h42, h43, _⟩ := hR.out; exact h42 (hdep ⟨2, .data⟩ (by simp) rfl)
                subst e42
                obtain ⟨b4_0, b4_1, pb4, pt4, pf4⟩ := hP4
                have hs0 : s 4 = false := Bool.eq_false_iff.2 fun h => (by have := hQ4 h; simp [hsk] at this)
                obtain ⟨q4_0, q4_1⟩ := pf4 hs0
                subst q4_0
                subst q4_1
                clear hs0
                have kp4_0 := cell_of_row w' (O) 0 _ _ _ pb4
                have kp4_1 := cell_of_row w' (O) 1 _ _ _ pb4
                simp only [List.getElem?_toArray, List.getElem?_cons_zero, List.getElem?_cons_succ] at kp4_0 kp4_1
                have kq4 : ∀ o, w'.frozen? ⟨O, o, none⟩ = false := fun o => frozen_of_row w' _ o _ _ pb4
                have hPB4 := Lib.hid pb4
                clear pb4
                have hPT4 := Lib.hid pt4
                clear pt4
                have hPF4 := Lib.hid pf4
                clear pf4
                clear hdep
                refine StepG.mk rfl ?_; rw [ha0]; simp only [putL, Act.put, List.setIfInBounds_toArray, List.set_cons_zero, List.set_cons_succ]
                go_wp2_with fail
                refine ((refPlus _ _ _ _ _ (by omega) (by omega) (by omega) (by omega))).mono ?_
                rintro e wn ⟨rfl, hb⟩
                go_wp2_with fail
                refine HK.out _ _ ?_
                refine ⟨(.agg #[.int .i64 U, .int .i64 V]), v41, (.agg #[.int .i64 px, .int .i64 py]), (.agg #[.int .i64 (U + px), .int .i64 (V + py)]), (by rw [ha0]; simp only [putL, Act.put, List.setIfInBounds_toArray, List.set_cons_zero, List.set_cons_succ]), ?_, ?_, ?_, ?_, trivial⟩
                · obtain ⟨h40, h41, h42, h43, _⟩ := hR.out
                  exact Lib.hid ⟨fun _ => rfl, fun h => h41 (by simpa using h), fun _ => rfl, fun _ => rfl, trivial⟩
                · exact hX.call hb
                · exact ⟨_, _, (hb.block _ (blk_lt hPB4.out)).trans hPB4.out, fun h => hPT4.out (by simpa using h), fun h => ⟨rfl, rfl⟩⟩
                · exact fun h => (by have h1 := hQ4 (by simpa using h); simp [h1])
              case x2hs4 =>
                intro s a' w' hsk hdep hI K hK
                try dsimp only at hI hK
                obtain ⟨v40, v41, v42, v43, hact, hR, hX, hP4, hQ4, _⟩ := hI
                subst hact
                have HK := Lib.hid hK
                clear hK
                have e43 : v43 = .agg #[.int .i64 (U + px), .int .i64 (V + py)] := by obtain ⟨h40, h41, h42, h43, _⟩ := hR.out; exact h43 (hdep ⟨3, .data⟩ (by simp) rfl)
                subst e43
                obtain ⟨b4_0, b4_1, pb4, pt4, pf4⟩ := hP4
                have hs0 : s 4 = false := hsk
                obtain ⟨q4_0, q4_1⟩ := pf4 hs0
                subst q4_0
                subst q4_1
                clear hs0
                have kp4_0 := cell_of_row w' (O) 0 _ _ _ pb4
                have kp4_1 := cell_of_row w' (O) 1 _ _ _ pb4
                simp only [List.getElem?_toArray, List.getElem?_cons_zero, List.getElem?_cons_succ] at kp4_0 kp4_1
                have kq4 : ∀ o, w'.frozen? ⟨O, o, none⟩ = false := fun o => frozen_of_row w' _ o _ _ pb4
                have hPB4 := Lib.hid pb4
                clear pb4
                have hPT4 := Lib.hid pt4
                clear pt4
                have hPF4 := Lib.hid pf4
                clear pf4
                have hd0 : s 0 = true := hdep ⟨0, .phase⟩ (by simp) rfl
                have hd1 : s 1 = true := hdep ⟨1, .phase⟩ (by simp) rfl
                have hd2 : s 2 = true := hdep ⟨2, .phase⟩ (by simp) rfl
                have hd3 : s 3 = true := hdep ⟨3, .data⟩ (by simp) rfl
                clear hdep
                refine StepG.mk rfl ?_; rw [ha0]; simp only [putL, Act.put, List.setIfInBounds_toArray, List.set_cons_zero, List.set_cons_succ]
                go_wp2_with fail
                refine HK.out _ _ ?_
                refine ⟨v40, v41, v42, (.agg #[.int .i64 (U + px), .int .i64 (V + py)]), (by rw [ha0]; simp only [putL, Act.put, List.setIfInBounds_toArray, List.set_cons_zero, List.set_cons_succ]), ?_, ?_, ?_, ?_, trivial⟩
                · obtain ⟨h40, h41, h42, h43, _⟩ := hR.out
                  exact Lib.hid ⟨fun h => h40 (by simpa using h), fun h => h41 (by simpa using h), fun h => h42 (by simpa using h), fun _ => rfl, trivial⟩
                · exact ((hX.setOld (p := ⟨O, 0, none⟩) (by simp) _).setOld (p := ⟨O, 1, none⟩) (by simp) _)
                · exact ⟨_, _, blk_set2 hPB4.out, fun _ => ⟨rfl, rfl⟩, fun h => (by simp at h)⟩
                · exact fun _ => (by simp [hd0, hd1, hd2, hd3])
              intro s a' w8 hall hI
              try dsimp only at hI
              obtain ⟨v40, v41, v42, v43, hact, hR, hXR, hP4, hQ4, _⟩ := hI
              subst hact
              obtain ⟨h40, h41, h42, h43, _⟩ := hR.out
              clear hR
              have e40 := h40 (hall 0 (by decide))
              subst e40
              clear h40
              have e41 := h41 (hall 1 (by decide))
              subst e41
              clear h41
              have e42 := h42 (hall 2 (by decide))
              subst e42
              clear h42
              have e43 := h43 (hall 3 (by decide))
              subst e43
              clear h43
              obtain ⟨c0, c1, pblkR4, hpt, _⟩ := hP4
              clear hQ4
              obtain ⟨es0, es1⟩ := hpt (hall 4 (by decide))
              subst es0
              subst es1
              clear hpt
              try clear pblk4
              have pblk4 := pblkR4
              clear pblkR4
              clear hall
              rw [ha0]; simp only [putL, Act.put, List.setIfInBounds_toArray, List.set_cons_zero, List.set_cons_succ]
              clear ha0
              have B8 : Below w.heap.size w w8 := hXR.below (by first | assumption | exact (by repeat (first | exact Below.refl _ _ | exact Nat.le_refl _ | refine Below.alloc ?_ ?_ _ | refine Below.setCell ?_ ?_ _ | refine Below.drew ?_ | refine bl_drewN ?_ _ | (assumption) | refine bl_call ?_ (by assumption) ?_ | omega | (simp <;> omega)))) (by first | omega | (simp <;> omega)) (by simp <;> omega)
              have R8 := (hXR.block _ (blk_lt HRR.out) (by simp <;> omega)).trans HRR.out
              clear hXR
              go_wp2_with fail
              go_roundw
              case rel =>
                refine ⟨sq + 1, U + px, V + py, by simp, by omega, Lib.hid ⟨?_, ?_⟩, pblk4, R8, B8⟩
                · rw [HUV.out.1]; push_cast; grind
                · rw [HUV.out.2]; push_cast; grind
              case measure => simp [intOf]; omega
            · obtain rfl : sq = d := by omega
              go_wp2_with fail
              go_roundw
              case rel =>
                refine ⟨i + 1, j + 1, U, V, by simp, by omega, by omega, by omega, by omega, Lib.hid ?_, UO, HRR.out, B⟩
                rw [← HS.out, HSTEP.out, ← HM0.out, ← GM.add_assoc, HUV.out.1, HUV.out.2]
                rfl
              case measure => simp [intOf]; omega
    · obtain rfl : i = n := by omega
      have hfin : GM.vl (b + 40) D = (X, Y) := by
        have hd := HDL.out
        rw [← HS.out, List.drop_of_length_le (by split at hd <;> omega)]
        exact GM.add_zero _
      have HF := Lib.hid hfin
      have c0 := row2_0 XO
      have c1 := row2_1 XO
      have d0 := row2_0 R
      have d1 := row2_1 R
      have f1 := row_f R
      have hne : O ≠ w.heap.size := by omega
      clear hfin XO R
      go_wp2_with fail
      exact bodyPost_ret (v := .agg #[.int .i64 X, .int .i64 Y]) (by simp [results, Tryd.results21, go_sem, *]) rfl ⟨by rw [HF.out], (by repeat (first | exact Below.refl _ _ | exact Nat.le_refl _ | refine Below.alloc ?_ ?_ _ | refine Below.setCell ?_ ?_ _ | refine Below.drew ?_ | refine bl_drewN ?_ _ | (assumption) | refine bl_call ?_ (by assumption) ?_ | omega | (simp <;> omega)))⟩
end Go.Proofs.YtgocloilagcfoabDoor
