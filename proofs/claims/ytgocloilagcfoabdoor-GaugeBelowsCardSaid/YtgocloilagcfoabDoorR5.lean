/- The reference's Rung returns the value of the ladder. -/
import Derived.Deep.RegionLaw
import Derived.Test.YtgocloilagcfoabDoorG11
import Derived.Test.YtgocloilagcfoabDoorR3
import Derived.Test.YtgocloilagcfoabDoorR1
namespace Go.Proofs.YtgocloilagcfoabDoor
open Go.RowKit
attribute [local go_sem ↓] Go.wp_at_zero Go.wp_at_succ

def lenOf : Value → Nat
  | .slice _ n _ => n
  | _ => 0
set_option maxRecDepth 100000 in
set_option maxHeartbeats 4000000 in
theorem refRung (k : Int) (w : World) (h0 : 0 ≤ k) (h1 : k ≤ 4000000) :
    Calls Tryd.prog 66 #[.int .i64 k] w fun e w' => e = .returned (.agg #[.int .i64 (GM.gr 34 k).1, .int .i64 (GM.gr 34 k).2]) ∧ Below w.heap.size w w' := by
  obtain ⟨i0, hi, hz0, hz1, hz2⟩ := info_parts infoInt
  go_enter Tryd.func66, Tryd.ntmps66
  go_wp2_with fail
  go_loopw [3, 4] (fun v _ wr => ∃ m : Nat, (∃ g cap, v = .slice (some ⟨g, 0, none⟩) m cap) ∧ 2 ≤ m ∧ (m = 2 ∨ GM.fb (m - 2) ≤ k) ∧ wr.ownsRow (w.heap.size + 1) 3 1 v m (fbs m) ∧ wr.heap[w.heap.size]? = some (.cells #[.int .i64 0, .int .i64 0] 23 (0, 0)) ∧ Below w.heap.size w wr) (fun v _ _ => 40 - lenOf v)
  case atStart =>
    refine ⟨2, ⟨_, _, rfl⟩, by omega, .inl rfl, ?_, (by repeat (first | assumption | (with_reducible apply blk_set2) | (with_reducible apply blk_set1) | (with_reducible refine blk_far2 ?_ ?_; (first | omega | (simp; done) | (simp; omega))) | (with_reducible refine blk_far1 ?_ ?_; (first | omega | (simp; done) | (simp; omega))) | (with_reducible refine blk_new' _ _ ?_; (first | omega | (simp; done) | (simp; omega))) | (with_reducible refine blk_old ?_) | (with_reducible refine blk_drew ?_))), (by repeat (first | exact Below.refl _ _ | exact Nat.le_refl _ | refine Below.alloc ?_ ?_ _ | refine Below.setCell ?_ ?_ _ | refine Below.drew ?_ | refine bl_drewN ?_ _ | (assumption) | refine bl_call ?_ (by assumption) ?_ | omega | (simp <;> omega)))⟩
    have hlit := World.ownsRow_lit (base := w.heap.size + 1) (e := 3) (size := 1) (w.alloc (.cells #[.int .i64 0, .int .i64 0] 23)) #[.int .i64 1, .int .i64 2] 2 (by simp) (by decide) rfl
    rw [World.size_alloc] at hlit
    exact hlit
  case round =>
    obtain ⟨m, ⟨g, cap, rfl⟩, hm2, hj, ho, R, B⟩ := hrel
    have hRs := blk_lt R
    have HRR := Lib.hid R
    clear R
    obtain ⟨m', rfl⟩ : ∃ m', m = m' + 2 := ⟨m - 2, by omega⟩
    rw [show m' + 2 - 2 = m' by omega] at hj
    have hm34 : m' < 34 := by
      rcases hj with hj | hj
      · omega
      · exact fb_small m' k hj h1
    have c0 : wr.cell? ⟨g, m' + 1, none⟩ = some (.int .i64 (GM.fb (m' + 1))) := (ho.cellAt (m' + 1) (by omega)).trans (fbs_get (m' + 2) (m' + 1) (by omega))
    have c1 : wr.cell? ⟨g, m', none⟩ = some (.int .i64 (GM.fb m')) := (ho.cellAt m' (by omega)).trans (fbs_get (m' + 2) m' (by omega))
    have hfp1 := (GM.fb_pos (m' + 1)).1
    have hfp0 := (GM.fb_pos m').1
    have hsum : GM.fb (m' + 2) = GM.fb m' + GM.fb (m' + 1) := rfl
    have hfb1 : GM.fb (m' + 1) ≤ 14930352 := by
      have := fb_mono (m' + 1) (33 - m')
      rw [show m' + 1 + (33 - m') = 34 by omega, GM.fb34] at this
      exact this
    have hfb0 : GM.fb m' ≤ 14930352 := by
      have := (GM.fb_pos m').2
      omega
    obtain ⟨f0, hf0⟩ : ∃ f, GM.fb m' = f := ⟨_, rfl⟩
    obtain ⟨f1, hf1⟩ : ∃ f, GM.fb (m' + 1) = f := ⟨_, rfl⟩
    rw [hf0] at c1 hfp0 hfb0 hsum
    rw [hf1] at c0 hfp1 hfb1 hsum
    have HSUM := Lib.hid hsum
    have HF0 := Lib.hid hf0
    have HF1 := Lib.hid hf1
    have HJ := Lib.hid hj
    clear hsum hf0 hf1 hj
    obtain ⟨n, hn⟩ : ∃ n, m' + 2 = n := ⟨_, rfl⟩
    obtain ⟨q1, hq1⟩ : ∃ q, m' + 1 = q := ⟨_, rfl⟩
    obtain ⟨q0, hq0⟩ : ∃ q, m' = q := ⟨_, rfl⟩
    have i1 : (n : Int) - 1 = q1 := by omega
    have i2 : (n : Int) - 2 = q0 := by omega
    have i3 : q1 < n := by omega
    have i4 : q0 < n := by omega
    have i5 : (n : Int) ≤ 100 := by omega
    have j3 : (q1 : Int) < n := by omega
    have j4 : (q0 : Int) < n := by omega
    rw [hq1] at c0
    rw [hq0] at c1
    rw [hn] at ho ⊢
    have HN := Lib.hid hn
    clear hn hq1 hq0
    by_cases hlt : f1 ≤ k
    · go_upto_region 4 with fail
      have w1 : IntKind.i64.wrap ((n : Int) - 1) = q1 := by rw [i1]; exact IntWalk.i64_in _ (by omega)
      have w2 : IntKind.i64.wrap ((n : Int) - 2) = q0 := by rw [i2]; exact IntWalk.i64_in _ (by omega)
      have w3 : IntKind.i64.wrap (f1 + f0) = f1 + f0 := IntWalk.i64_in _ (by omega)
      have w1' : IntKind.i64.wrap (q1 : Int) = q1 := IntWalk.i64_in _ (by omega)
      have w2' : IntKind.i64.wrap (q0 : Int) = q0 := IntWalk.i64_in _ (by omega)
      have hmix : Tryd.prog.follows .mixedOrders = true := by kernel_rfl
      go_region_law (refine step_append_lies _ rfl (.tmp 18) (.tmp 30) 79 rfl (w.heap.size + 1) 3 i0 (.int .i64 0) 1 8 Tryd.underlying79 hi hz0 hz1 hz2 rfl (by decide) _ _ _ rfl (World.ownsRow.alloc (show wr.drew.ownsRow (w.heap.size + 1) 3 1 (.slice (some ⟨g, 0, none⟩) n cap) n (fbs n) from ho) _) ⟨wr.heap.size, 0, none⟩ 1 1 [.int .i64 (f1 + f0)] rfl rfl (cell_one_new _ _ _) (one_cell _) (by decide) (by unfold maxLen; omega) (by omega) (by simp; omega) (wr.heap.size + 1) (by simp) ?_; intro g3 p3 w3 m1 hgr hg hgl)
      all_goals
        have hgr' : ((wr.alloc (.cells #[.int .i64 (f1 + f0)] 3)).drew).grownBy w3 (some g) := hgr
        clear hgr hg
        have hgb : w.heap.size + 1 ≤ g := (ho.lt g rfl).1
        have hpR := (hgr'.block w.heap.size (by simp; omega) (fun h => by have := Option.some.inj h; omega)).trans (blk_drew (blk_old HRR.out))
        have B3 : Below w.heap.size w w3 := Below.grown ((B.alloc (by omega) _).drew) hgr' (by simp; omega) (fun b hb => by have := Option.some.inj hb; omega)
        have HM1 := Lib.hid m1
        have HPR := Lib.hid hpR
        clear m1 hpR hgr' c0 c1 ho B HRR
        go_simp
        go_wp2
        go_roundw
        case rel =>
          refine ⟨n + 1, ⟨_, _, rfl⟩, by omega, .inr ?_, ?_, HPR.out, B3⟩
          · rw [← HN.out, show m' + 2 + 1 - 2 = m' + 1 by omega, HF1.out]; exact hlt
          · have e : GM.fb n = f1 + f0 := by rw [← HN.out, HSUM.out, Int.add_comm]
            rw [fbs_succ, e]
            exact HM1.out
        case measure =>
          show 40 - (n + 1) < 40 - n
          have := HN.out
          omega
    · have hk : k < GM.fb (m' + 1) := by rw [HF1.out]; omega
      have hgr : GM.gr 34 k = GM.gr n k := by
        have e1 := GM.gr_le (34 - (m' + 1)) (m' + 1) k h0 hk
        have e2 := GM.gr_le 1 (m' + 1) k h0 hk
        rw [show m' + 1 + (34 - (m' + 1)) = 34 by omega] at e1
        rw [show m' + 1 + 1 = n by have := HN.out; omega] at e2
        rw [e1, e2]
      have HGR := Lib.hid hgr
      have hn35 : n ≤ 35 := by have := HN.out; omega
      clear hgr hk HSUM HF0 HF1 HJ
      go_upto_region 6 with fail
      obtain ⟨O, hO⟩ : ∃ O, O = wr.heap.size := ⟨_, rfl⟩
      obtain ⟨w7, h7⟩ : ∃ w7, w7 = wr.alloc (.cells #[.int .i64 0, .int .i64 0] 23) := ⟨_, rfl⟩
      rw [← hO, ← h7]
      have R7 : w7.heap[w.heap.size]? = some (.cells #[.int .i64 0, .int .i64 0] 23 (0, 0)) := by rw [h7]; exact blk_old HRR.out
      have O7 : w7.heap[O]? = some (.cells #[.int .i64 0, .int .i64 0] 23 (0, 0)) := by rw [h7, hO]; exact blk_new _ _
      have B7 : Below w.heap.size w w7 := by rw [h7]; exact B.alloc (by omega) _
      have ho7 : w7.ownsRow (w.heap.size + 1) 3 1 (.slice (some ⟨g, 0, none⟩) n cap) n (fbs n) := by rw [h7]; exact ho.alloc _
      have hgO : g ≠ O := by
        have := (ho.lt g rfl).2
        omega
      have hOg : O ≠ g := hgO.symm
      have hRO : w.heap.size ≠ O := by omega
      have hRO' : w.heap.size ≤ O := by omega
      clear h7 hO HRR B ho hRs c0 c1 HN hlt
      go_upto_region 7 with fail
      go_loopw [0, 6] (fun kk x wr => ∃ (m : Nat) (k' X Y : Int), kk = .int .i64 k' ∧ x = .int .i64 ((m : Int) - 1) ∧ m ≤ n ∧ (0 ≤ k' ∧ k' ≤ 4000000) ∧ wr.heap[O]? = some (.cells #[.int .i64 X, .int .i64 Y] 23 (0, 0)) ∧ (-200000000 * ((n : Int) - m) ≤ X ∧ X ≤ 200000000 * ((n : Int) - m) ∧ -200000000 * ((n : Int) - m) ≤ Y ∧ Y ≤ 200000000 * ((n : Int) - m)) ∧ Hid (GM.add (X, Y) (GM.gr m k') = GM.gr n k) ∧ wr.ownsRow (w.heap.size + 1) 3 1 (.slice (some ⟨g, 0, none⟩) n cap) n (fbs n) ∧ wr.heap[w.heap.size]? = some (.cells #[.int .i64 0, .int .i64 0] 23 (0, 0)) ∧ Below w.heap.size w wr) (fun _ x _ => (intOf x + 1).toNat)
      case atStart => exact ⟨n, k, 0, 0, rfl, congrArg (Value.int .i64) i1.symm, Nat.le_refl _, ⟨h0, h1⟩, O7, by omega, Lib.hid (GM.zero_add _), ho7, R7, B7⟩
      case round =>
        obtain ⟨m, k', X, Y, rfl, rfl, l1, ⟨k1, k2⟩, XO, ⟨x1, x2, x3, x4⟩, HS, ho, R, B⟩ := hrel
        rcases m with _ | i
        · have hfin : GM.gr 34 k = (X, Y) := by
            rw [HGR.out, ← HS.out]
            exact GM.add_zero _
          have HF := Lib.hid hfin
          have hm1 : ¬ (0 : Int) ≤ ((0 : Nat) : Int) - 1 := by decide
          have c0 := row2_0 XO
          have c1 := row2_1 XO
          have d0 := row2_0 R
          have d1 := row2_1 R
          have f1 := row_f R
          clear hfin XO R HS
          go_wp2_with fail
          exact bodyPost_ret (v := .agg #[.int .i64 X, .int .i64 Y]) (by simp [results, Tryd.results66, go_sem, *]) rfl ⟨by rw [HF.out], (by repeat (first | exact Below.refl _ _ | exact Nat.le_refl _ | refine Below.alloc ?_ ?_ _ | refine Below.setCell ?_ ?_ _ | refine Below.drew ?_ | refine bl_drewN ?_ _ | (assumption) | refine bl_call ?_ (by assumption) ?_ | omega | (simp <;> omega)))⟩
        · have hii : ((i + 1 : Nat) : Int) - 1 = i := by omega
          rw [hii]
          have hi0 : (0 : Int) ≤ (i : Int) := by omega
          have hin : i < n := by omega
          have hi34 : i < 35 := by omega
          have c0 : wr.cell? ⟨g, i, none⟩ = some (.int .i64 (GM.fb i)) := (ho.cellAt i (by omega)).trans (fbs_get n i hin)
          have hfp := (GM.fb_pos i).1
          have hgr : GM.gr (i + 1) k' = if GM.fb i ≤ k' then ((GM.pu i).1 + (GM.gr i (k' - GM.fb i)).1, (GM.pu i).2 + (GM.gr i (k' - GM.fb i)).2) else GM.gr i k' := rfl
          rw [hgr] at HS
          obtain ⟨F, hF⟩ : ∃ F, GM.fb i = F := ⟨_, rfl⟩
          rw [hF] at c0 hfp HS
          have HHO := Lib.hid ho
          have HHR := Lib.hid R
          have hws : w.heap.size < wr.heap.size := blk_lt R
          clear ho R hgr hF hii
          by_cases hlt : F ≤ k'
          · rw [if_pos hlt] at HS
            have hof := fun wx => refPower (i : Int) wx (by omega) (by omega)
            rw [pw_up] at hof
            have hpb := pt_bd ⟨i + 40, by omega⟩
            dsimp only at hpb
            rw [pt_pu] at hpb
            obtain ⟨⟨px, py⟩, hpt⟩ : ∃ p, GM.pu i = p := ⟨_, rfl⟩
            rw [hpt] at hof hpb HS
            dsimp only at hof hpb HS
            obtain ⟨p1, p2, p3', p4⟩ := hpb
            have HOF := Lib.hid hof
            clear hof hpt
            have pblk5 := XO
            clear XO
            go_upto_region 11 with fail
            have pblk5 : wr.heap[O]? = some (.cells #[.int .i64 X, .int .i64 Y] 23 (0, 0)) := by first | assumption | exact hblk5
            refine with_act fun a0 ha0 => ?_
            refine wp_region_inv (by kernel_rfl) (by kernel_rfl) (fun s a' w' => ∃ v52 v53 v54 v55 : Value, a' = putL a0 [(52, v52), (53, v53), (54, v54), (55, v55)] ∧ Hid ((s 0 = true → v52 = .agg #[.int .i64 X, .int .i64 Y]) ∧ (s 1 = true → v53 = .int .i64 i) ∧ (s 2 = true → v54 = .agg #[.int .i64 px, .int .i64 py]) ∧ (s 3 = true → v55 = .agg #[.int .i64 (X + px), .int .i64 (Y + py)]) ∧ True) ∧ BelX [O] wr w' ∧ (∃ (c0 c1 : Value), w'.heap[O]? = some (.cells #[c0, c1] 23 (0, 0)) ∧ (s 4 = true → c0 = .int .i64 (X + px) ∧ c1 = .int .i64 (Y + py)) ∧ (s 4 = false → c0 = .int .i64 X ∧ c1 = .int .i64 Y)) ∧ (s 4 = true → s 0 = true ∧ s 1 = true ∧ s 2 = true ∧ s 3 = true ∧ True) ∧ True) ?x1hzero ⟨?x1hs0, ?x1hs1, ?x1hs2, ?x1hs3, ?x1hs4, trivial⟩ ?x1hdone
            case x1hzero =>
              refine ⟨a0.tmps.getD 52 undef, a0.tmps.getD 53 undef, a0.tmps.getD 54 undef, a0.tmps.getD 55 undef, ?_, ?_, ?_, ?_, ?_, trivial⟩
              · simp only [putL, put_self]
              · exact Lib.hid ⟨fun h => (by simp at h), fun h => (by simp at h), fun h => (by simp at h), fun h => (by simp at h), trivial⟩
              · exact BelX.start _ _
              · exact ⟨.int .i64 X, .int .i64 Y, pblk5, fun h => (by simp at h), fun _ => ⟨rfl, rfl⟩⟩
              · exact fun h => (by simp at h)
            case x1hs0 =>
              intro s a' w' hsk hdep hI K hK
              try dsimp only at hI hK
              obtain ⟨v52, v53, v54, v55, hact, hR, hX, hP5, hQ5, _⟩ := hI
              subst hact
              have HK := Lib.hid hK
              clear hK
              obtain ⟨b5_0, b5_1, pb5, pt5, pf5⟩ := hP5
              have hs0 : s 4 = false := Bool.eq_false_iff.2 fun h => (by have := hQ5 h; simp [hsk] at this)
              obtain ⟨q5_0, q5_1⟩ := pf5 hs0
              subst q5_0
              subst q5_1
              clear hs0
              have kp5_0 := cell_of_row w' (O) 0 _ _ _ pb5
              have kp5_1 := cell_of_row w' (O) 1 _ _ _ pb5
              simp only [List.getElem?_toArray, List.getElem?_cons_zero, List.getElem?_cons_succ] at kp5_0 kp5_1
              have kq5 : ∀ o, w'.frozen? ⟨O, o, none⟩ = false := fun o => frozen_of_row w' _ o _ _ pb5
              have hPB5 := Lib.hid pb5
              clear pb5
              have hPT5 := Lib.hid pt5
              clear pt5
              have hPF5 := Lib.hid pf5
              clear pf5
              clear hdep
              refine StepG.mk rfl ?_; rw [ha0]; simp only [putL, Act.put, List.setIfInBounds_toArray, List.set_cons_zero, List.set_cons_succ]
              go_wp2_with fail
              refine HK.out _ _ ?_
              refine ⟨(.agg #[.int .i64 X, .int .i64 Y]), v53, v54, v55, (by rw [ha0]; simp only [putL, Act.put, List.setIfInBounds_toArray, List.set_cons_zero, List.set_cons_succ]), ?_, ?_, ?_, ?_, trivial⟩
              · obtain ⟨h52, h53, h54, h55, _⟩ := hR.out
                exact Lib.hid ⟨fun _ => rfl, fun h => h53 (by simpa using h), fun h => h54 (by simpa using h), fun h => h55 (by simpa using h), trivial⟩
              · exact hX
              · exact ⟨_, _, hPB5.out, fun h => hPT5.out (by simpa using h), fun h => ⟨rfl, rfl⟩⟩
              · exact fun h => (by have h1 := hQ5 (by simpa using h); simp [h1])
            case x1hs1 =>
              intro s a' w' hsk hdep hI K hK
              try dsimp only at hI hK
              obtain ⟨v52, v53, v54, v55, hact, hR, hX, hP5, hQ5, _⟩ := hI
              subst hact
              have HK := Lib.hid hK
              clear hK
              obtain ⟨b5_0, b5_1, pb5, pt5, pf5⟩ := hP5
              have hs0 : s 4 = false := Bool.eq_false_iff.2 fun h => (by have := hQ5 h; simp [hsk] at this)
              obtain ⟨q5_0, q5_1⟩ := pf5 hs0
              subst q5_0
              subst q5_1
              clear hs0
              have kp5_0 := cell_of_row w' (O) 0 _ _ _ pb5
              have kp5_1 := cell_of_row w' (O) 1 _ _ _ pb5
              simp only [List.getElem?_toArray, List.getElem?_cons_zero, List.getElem?_cons_succ] at kp5_0 kp5_1
              have kq5 : ∀ o, w'.frozen? ⟨O, o, none⟩ = false := fun o => frozen_of_row w' _ o _ _ pb5
              have hPB5 := Lib.hid pb5
              clear pb5
              have hPT5 := Lib.hid pt5
              clear pt5
              have hPF5 := Lib.hid pf5
              clear pf5
              clear hdep
              refine StepG.mk rfl ?_; rw [ha0]; simp only [putL, Act.put, List.setIfInBounds_toArray, List.set_cons_zero, List.set_cons_succ]
              go_wp2_with fail
              refine HK.out _ _ ?_
              refine ⟨v52, (.int .i64 i), v54, v55, (by rw [ha0]; simp only [putL, Act.put, List.setIfInBounds_toArray, List.set_cons_zero, List.set_cons_succ]), ?_, ?_, ?_, ?_, trivial⟩
              · obtain ⟨h52, h53, h54, h55, _⟩ := hR.out
                exact Lib.hid ⟨fun h => h52 (by simpa using h), fun _ => rfl, fun h => h54 (by simpa using h), fun h => h55 (by simpa using h), trivial⟩
              · exact hX
              · exact ⟨_, _, hPB5.out, fun h => hPT5.out (by simpa using h), fun h => ⟨rfl, rfl⟩⟩
              · exact fun h => (by have h1 := hQ5 (by simpa using h); simp [h1])
            case x1hs2 =>
              intro s a' w' hsk hdep hI K hK
              try dsimp only at hI hK
              obtain ⟨v52, v53, v54, v55, hact, hR, hX, hP5, hQ5, _⟩ := hI
              subst hact
              have HK := Lib.hid hK
              clear hK
              have e53 : v53 = .int .i64 i := by obtain ⟨h52, h53, h54, h55, _⟩ := hR.out; exact h53 (hdep ⟨1, .data⟩ (by simp) rfl)
              subst e53
              obtain ⟨b5_0, b5_1, pb5, pt5, pf5⟩ := hP5
              have hs0 : s 4 = false := Bool.eq_false_iff.2 fun h => (by have := hQ5 h; simp [hsk] at this)
              obtain ⟨q5_0, q5_1⟩ := pf5 hs0
              subst q5_0
              subst q5_1
              clear hs0
              have kp5_0 := cell_of_row w' (O) 0 _ _ _ pb5
              have kp5_1 := cell_of_row w' (O) 1 _ _ _ pb5
              simp only [List.getElem?_toArray, List.getElem?_cons_zero, List.getElem?_cons_succ] at kp5_0 kp5_1
              have kq5 : ∀ o, w'.frozen? ⟨O, o, none⟩ = false := fun o => frozen_of_row w' _ o _ _ pb5
              have hPB5 := Lib.hid pb5
              clear pb5
              have hPT5 := Lib.hid pt5
              clear pt5
              have hPF5 := Lib.hid pf5
              clear pf5
              clear hdep
              refine StepG.mk rfl ?_; rw [ha0]; simp only [putL, Act.put, List.setIfInBounds_toArray, List.set_cons_zero, List.set_cons_succ]
              go_wp2_with fail
              refine ((HOF.out _)).mono ?_
              rintro e wn ⟨rfl, hb⟩
              go_wp2_with fail
              refine HK.out _ _ ?_
              refine ⟨v52, (.int .i64 i), (.agg #[.int .i64 px, .int .i64 py]), v55, (by rw [ha0]; simp only [putL, Act.put, List.setIfInBounds_toArray, List.set_cons_zero, List.set_cons_succ]), ?_, ?_, ?_, ?_, trivial⟩
              · obtain ⟨h52, h53, h54, h55, _⟩ := hR.out
                exact Lib.hid ⟨fun h => h52 (by simpa using h), fun _ => rfl, fun _ => rfl, fun h => h55 (by simpa using h), trivial⟩
              · exact hX.call hb
              · exact ⟨_, _, (hb.block _ (blk_lt hPB5.out)).trans hPB5.out, fun h => hPT5.out (by simpa using h), fun h => ⟨rfl, rfl⟩⟩
              · exact fun h => (by have h1 := hQ5 (by simpa using h); simp [h1])
            case x1hs3 =>
              intro s a' w' hsk hdep hI K hK
              try dsimp only at hI hK
              obtain ⟨v52, v53, v54, v55, hact, hR, hX, hP5, hQ5, _⟩ := hI
              subst hact
              have HK := Lib.hid hK
              clear hK
              have e52 : v52 = .agg #[.int .i64 X, .int .i64 Y] := by obtain ⟨h52, h53, h54, h55, _⟩ := hR.out; exact h52 (hdep ⟨0, .data⟩ (by simp) rfl)
              subst e52
              have e54 : v54 = .agg #[.int .i64 px, .int .i64 py] := by obtain ⟨h52, h53, h54, h55, _⟩ := hR.out; exact h54 (hdep ⟨2, .data⟩ (by simp) rfl)
              subst e54
              obtain ⟨b5_0, b5_1, pb5, pt5, pf5⟩ := hP5
              have hs0 : s 4 = false := Bool.eq_false_iff.2 fun h => (by have := hQ5 h; simp [hsk] at this)
              obtain ⟨q5_0, q5_1⟩ := pf5 hs0
              subst q5_0
              subst q5_1
              clear hs0
              have kp5_0 := cell_of_row w' (O) 0 _ _ _ pb5
              have kp5_1 := cell_of_row w' (O) 1 _ _ _ pb5
              simp only [List.getElem?_toArray, List.getElem?_cons_zero, List.getElem?_cons_succ] at kp5_0 kp5_1
              have kq5 : ∀ o, w'.frozen? ⟨O, o, none⟩ = false := fun o => frozen_of_row w' _ o _ _ pb5
              have hPB5 := Lib.hid pb5
              clear pb5
              have hPT5 := Lib.hid pt5
              clear pt5
              have hPF5 := Lib.hid pf5
              clear pf5
              clear hdep
              refine StepG.mk rfl ?_; rw [ha0]; simp only [putL, Act.put, List.setIfInBounds_toArray, List.set_cons_zero, List.set_cons_succ]
              go_wp2_with fail
              refine ((refPlus _ _ _ _ _ (by omega) (by omega) (by omega) (by omega))).mono ?_
              rintro e wn ⟨rfl, hb⟩
              go_wp2_with fail
              refine HK.out _ _ ?_
              refine ⟨(.agg #[.int .i64 X, .int .i64 Y]), v53, (.agg #[.int .i64 px, .int .i64 py]), (.agg #[.int .i64 (X + px), .int .i64 (Y + py)]), (by rw [ha0]; simp only [putL, Act.put, List.setIfInBounds_toArray, List.set_cons_zero, List.set_cons_succ]), ?_, ?_, ?_, ?_, trivial⟩
              · obtain ⟨h52, h53, h54, h55, _⟩ := hR.out
                exact Lib.hid ⟨fun _ => rfl, fun h => h53 (by simpa using h), fun _ => rfl, fun _ => rfl, trivial⟩
              · exact hX.call hb
              · exact ⟨_, _, (hb.block _ (blk_lt hPB5.out)).trans hPB5.out, fun h => hPT5.out (by simpa using h), fun h => ⟨rfl, rfl⟩⟩
              · exact fun h => (by have h1 := hQ5 (by simpa using h); simp [h1])
            case x1hs4 =>
              intro s a' w' hsk hdep hI K hK
              try dsimp only at hI hK
              obtain ⟨v52, v53, v54, v55, hact, hR, hX, hP5, hQ5, _⟩ := hI
              subst hact
              have HK := Lib.hid hK
              clear hK
              have e55 : v55 = .agg #[.int .i64 (X + px), .int .i64 (Y + py)] := by obtain ⟨h52, h53, h54, h55, _⟩ := hR.out; exact h55 (hdep ⟨3, .data⟩ (by simp) rfl)
              subst e55
              obtain ⟨b5_0, b5_1, pb5, pt5, pf5⟩ := hP5
              have hs0 : s 4 = false := hsk
              obtain ⟨q5_0, q5_1⟩ := pf5 hs0
              subst q5_0
              subst q5_1
              clear hs0
              have kp5_0 := cell_of_row w' (O) 0 _ _ _ pb5
              have kp5_1 := cell_of_row w' (O) 1 _ _ _ pb5
              simp only [List.getElem?_toArray, List.getElem?_cons_zero, List.getElem?_cons_succ] at kp5_0 kp5_1
              have kq5 : ∀ o, w'.frozen? ⟨O, o, none⟩ = false := fun o => frozen_of_row w' _ o _ _ pb5
              have hPB5 := Lib.hid pb5
              clear pb5
              have hPT5 := Lib.hid pt5
              clear pt5
              have hPF5 := Lib.hid pf5
              clear pf5
              have hd0 : s 0 = true := hdep ⟨0, .phase⟩ (by simp) rfl
              have hd1 : s 1 = true := hdep ⟨1, .phase⟩ (by simp) rfl
              have hd2 : s 2 = true := hdep ⟨2, .phase⟩ (by simp) rfl
              have hd3 : s 3 = true := hdep ⟨3, .data⟩ (by simp) rfl
              clear hdep
              refine StepG.mk rfl ?_; rw [ha0]; simp only [putL, Act.put, List.setIfInBounds_toArray, List.set_cons_zero, List.set_cons_succ]
              go_wp2_with fail
              refine HK.out _ _ ?_
              refine ⟨v52, v53, v54, (.agg #[.int .i64 (X + px), .int .i64 (Y + py)]), (by rw [ha0]; simp only [putL, Act.put, List.setIfInBounds_toArray, List.set_cons_zero, List.set_cons_succ]), ?_, ?_, ?_, ?_, trivial⟩
              · obtain ⟨h52, h53, h54, h55, _⟩ := hR.out
                exact Lib.hid ⟨fun h => h52 (by simpa using h), fun h => h53 (by simpa using h), fun h => h54 (by simpa using h), fun _ => rfl, trivial⟩
              · exact ((hX.setOld (p := ⟨O, 0, none⟩) (by simp) _).setOld (p := ⟨O, 1, none⟩) (by simp) _)
              · exact ⟨_, _, blk_set2 hPB5.out, fun _ => ⟨rfl, rfl⟩, fun h => (by simp at h)⟩
              · exact fun _ => (by simp [hd0, hd1, hd2, hd3])
            intro s a' w8 hall hI
            try dsimp only at hI
            obtain ⟨v52, v53, v54, v55, hact, hR, hXR, hP5, hQ5, _⟩ := hI
            subst hact
            obtain ⟨h52, h53, h54, h55, _⟩ := hR.out
            clear hR
            have e52 := h52 (hall 0 (by decide))
            subst e52
            clear h52
            have e53 := h53 (hall 1 (by decide))
            subst e53
            clear h53
            have e54 := h54 (hall 2 (by decide))
            subst e54
            clear h54
            have e55 := h55 (hall 3 (by decide))
            subst e55
            clear h55
            obtain ⟨c0, c1, pblkR5, hpt, _⟩ := hP5
            clear hQ5
            obtain ⟨es0, es1⟩ := hpt (hall 4 (by decide))
            subst es0
            subst es1
            clear hpt
            try clear pblk5
            have pblk5 := pblkR5
            clear pblkR5
            clear hall
            rw [ha0]; simp only [putL, Act.put, List.setIfInBounds_toArray, List.set_cons_zero, List.set_cons_succ]
            clear ha0
            have B8 : Below w.heap.size w w8 := hXR.below (by first | assumption | exact (by repeat (first | exact Below.refl _ _ | exact Nat.le_refl _ | refine Below.alloc ?_ ?_ _ | refine Below.setCell ?_ ?_ _ | refine Below.drew ?_ | refine bl_drewN ?_ _ | (assumption) | refine bl_call ?_ (by assumption) ?_ | omega | (simp <;> omega)))) (by first | omega | (simp <;> omega)) (by simp <;> omega)
            have ho8 := own_belX HHO.out hXR (by simp <;> omega)
            have R8 := (hXR.block _ (blk_lt HHR.out) (by simp <;> omega)).trans HHR.out
            clear hXR
            go_wp2_with fail
            go_roundw
            case rel =>
              refine ⟨i, k' - F, X + px, Y + py, rfl, rfl, by omega, by omega, pblk5, by omega, Lib.hid ?_, ho8, R8, B8⟩
              rw [← HS.out]
              unfold GM.add
              ext <;> simp <;> omega
            case measure => simp [intOf] <;> omega
          · rw [if_neg hlt] at HS
            go_wp2_with fail
            go_roundw
            case rel => exact ⟨i, k', X, Y, rfl, rfl, by omega, ⟨k1, k2⟩, XO, by omega, HS, HHO.out, HHR.out, B⟩
            case measure => simp [intOf] <;> omega
end Go.Proofs.YtgocloilagcfoabDoor
