/- read returns the value of a text, or panics. -/
import Derived.Test.YtgocloilagcfoabDoorG3
namespace Go.Proofs.YtgocloilagcfoabDoor
open Go.RowKit
attribute [local go_sem ↓] Go.wp_at_zero Go.wp_at_succ

theorem digits_yes (l : List UInt8) (w : World) (hl : l.length ≤ 1000000) (h : partOK l = true) :
    Calls Tryd.prog 78 #[.string ⟨l.toArray⟩] w fun e w' => ∃ v, e = .returned v ∧ w'.ownsRow w.heap.size 3 1 v l.length (dgs l) ∧ Below w.heap.size w w' := by
  refine (digits_any l w hl).mono ?_
  rintro e w' ⟨⟨_, v, rfl, ho⟩ | ⟨h2, _⟩, hb⟩
  · exact ⟨v, rfl, ho, hb⟩
  · rw [h] at h2; cases h2
theorem digits_no (l : List UInt8) (w : World) (hl : l.length ≤ 1000000) (h : partOK l = false) :
    Calls Tryd.prog 78 #[.string ⟨l.toArray⟩] w fun e w' => e = trouble 4 ∧ Below w.heap.size w w' := by
  refine (digits_any l w hl).mono ?_
  rintro e w' ⟨⟨h2, _⟩ | ⟨_, rfl⟩, hb⟩
  · rw [h] at h2; cases h2
  · exact ⟨rfl, hb⟩

theorem own_mono {w : World} {B B' e size n : Nat} {v : Value} {xs : List Value} (h : w.ownsRow B e size v n xs) (hb : B' ≤ B) : w.ownsRow B' e size v n xs := by
  obtain ⟨h1, h2⟩ := h
  refine ⟨h1, ?_⟩
  rcases h2 with h2 | ⟨g, cap, cur, a, b, c, d⟩
  · exact .inl h2
  · exact .inr ⟨g, cap, cur, a, by omega, c, d⟩

/-- whether bytes are a text; its value -/
def textOK (l : List UInt8) : Bool := partOK (cutL l).1 && (!(cutL l).2.2 || partOK (cutL l).2.1)
def valOf (l : List UInt8) : Int × Int := GM.vl ((cutL l).1.length + 40) ((cutL l).1 ++ (if (cutL l).2.2 = true then (cutL l).2.1 else []))
theorem pt_bd : ∀ n : Fin 82, -200000000 ≤ (GM.pt n).1 ∧ (GM.pt n).1 ≤ 200000000 ∧ -200000000 ≤ (GM.pt n).2 ∧ (GM.pt n).2 ≤ 200000000 := by decide +kernel
theorem partOK_len1 {l : List UInt8} (h : partOK l = true) : 1 ≤ l.length ∧ l.length ≤ 40 ∧ ∀ c ∈ l, 48 ≤ c.toNat ∧ c.toNat ≤ 51 := by
  unfold partOK at h
  simp only [Bool.and_eq_true, decide_eq_true_eq, List.all_eq_true] at h
  refine ⟨h.1.1, h.1.2, fun c hc => ?_⟩
  have := h.2 c hc
  unfold isDig at this
  simpa using this

theorem dgs_one (l : List UInt8) : ∀ u ∈ dgs l, u.oneCell' = true := by
  intro u hu
  simp only [dgs, List.mem_map] at hu
  obtain ⟨c, -, rfl⟩ := hu
  rfl
theorem dgs_app (l m : List UInt8) : dgs (l ++ m) = dgs l ++ dgs m := by simp [dgs]
theorem own_belX {w w' : World} {B e size n g cap : Nat} {bs : List Nat} {xs : List Value} (h : w.ownsRow B e size (.slice (some ⟨g, 0, none⟩) n cap) n xs) (hX : BelX bs w w') (hg : g ∉ bs) : w'.ownsRow B e size (.slice (some ⟨g, 0, none⟩) n cap) n xs := by
  obtain ⟨h1, h2⟩ := h
  refine ⟨h1, ?_⟩
  rcases h2 with ⟨h2, h3⟩ | ⟨g', cap', cur, a, b, c, d⟩
  · cases h2
  · simp only [Value.slice.injEq, Option.some.injEq, Addr.mk.injEq, and_true, true_and] at a
    obtain ⟨rfl, rfl⟩ := a
    exact .inr ⟨g, cap, cur, rfl, b, (hX.block _ (blk_lt c) hg).trans c, d⟩
theorem vl_step (i : Nat) (l : List UInt8) (k : Nat) (c : UInt8) (h : l[k]? = some c) :
    GM.vl (i - k) (l.drop k) = GM.add (((c.toNat : Int) - 48) * (GM.pt (i - (k + 1))).1, ((c.toNat : Int) - 48) * (GM.pt (i - (k + 1))).2) (GM.vl (i - (k + 1)) (l.drop (k + 1))) := by
  have hk : k < l.length := by
    rcases Nat.lt_or_ge k l.length with h1 | h1
    · exact h1
    · rw [List.getElem?_eq_none h1] at h; cases h
  rw [List.drop_eq_getElem_cons hk]
  rw [List.getElem?_eq_getElem hk] at h
  have := Option.some.inj h
  rw [this]
  show GM.add (((c.toNat : Int) - 48) * (GM.pt (i - k - 1)).1, ((c.toNat : Int) - 48) * (GM.pt (i - k - 1)).2) (GM.vl (i - k - 1) (l.drop (k + 1))) = _
  rw [show i - k - 1 = i - (k + 1) by omega]
theorem dgs_get (l : List UInt8) (k : Nat) (c : UInt8) (h : l[k]? = some c) : (dgs l)[k]? = some (.int .i64 ((c.toNat : Int) - 48)) := by simp [dgs, h]
set_option maxRecDepth 100000 in
set_option maxHeartbeats 2000000 in
theorem read_any (l : List UInt8) (w : World) (hl : l.length ≤ 1000) :
    Calls Tryd.prog 53 #[.string ⟨l.toArray⟩] w fun e w' => ((textOK l = true ∧ e = .returned (.agg #[.int .i64 (valOf l).1, .int .i64 (valOf l).2])) ∨ (textOK l = false ∧ e = trouble 4)) ∧ Below w.heap.size w w' := by
  obtain ⟨i0, hi, hz0, hz1, hz2⟩ := info_parts infoInt
  have HCUT := Lib.hid (fun wx => strCut_dot l wx (by omega))
  have hT : textOK l = (partOK (cutL l).1 && (!(cutL l).2.2 || partOK (cutL l).2.1)) := rfl
  have hV : valOf l = GM.vl ((cutL l).1.length + 40) ((cutL l).1 ++ (if (cutL l).2.2 = true then (cutL l).2.1 else [])) := rfl
  have hbl : (cutL l).1.length ≤ 1000000 := by
    unfold cutL; split
    · have := before_len l (by assumption); simp; omega
    · simp; omega
  have hal : (cutL l).2.1.length ≤ 1000000 := by
    unfold cutL; split
    · simp [← behind_drop]; omega
    · simp
  generalize cutL l = q at *
  obtain ⟨b, a, p⟩ := q
  dsimp only at *
  have HT := Lib.hid hT
  have HV := Lib.hid hV
  clear hT hV hl
  generalize (⟨l.toArray⟩ : ByteArray) = t at *
  by_cases hb : partOK b = true
  · cases p with
    | false =>
      have HTT := Lib.hid (show textOK l = true by rw [HT.out, hb]; rfl)
      have HVV := Lib.hid (show valOf l = GM.vl (b.length + 40) b by rw [HV.out]; simp)
      clear HT HV
      go_enter Tryd.func53, Tryd.ntmps53
      go_upto_region 6 with (first
        | (go_at_call 77; refine (HCUT.out _).mono ?_; rintro e w1 ⟨rfl, hb1⟩; have R1 : w1.heap[w.heap.size]? = some (.cells #[.int .i64 0, .int .i64 0] 23 (0, 0)) := blk_call hb1 (by repeat (first | assumption | (with_reducible apply blk_set2) | (with_reducible apply blk_set1) | (with_reducible refine blk_far2 ?_ ?_; (first | omega | (simp; done) | (simp; omega))) | (with_reducible refine blk_far1 ?_ ?_; (first | omega | (simp; done) | (simp; omega))) | (with_reducible refine blk_new' _ _ ?_; (first | omega | (simp; done) | (simp; omega))) | (with_reducible refine blk_old ?_) | (with_reducible refine blk_drew ?_))); have B1 : Below w.heap.size w w1 := bl_call (by repeat (first | exact Below.refl _ _ | exact Nat.le_refl _ | refine Below.alloc ?_ ?_ _ | refine Below.setCell ?_ ?_ _ | refine Below.drew ?_ | refine bl_drewN ?_ _ | (assumption) | refine bl_call ?_ (by assumption) ?_ | omega | (simp <;> omega))) hb1 (by simp); clear hb1)
        | (go_at_call 78; refine (digits_yes _ _ hbl hb).mono ?_; rintro e w2 ⟨v, rfl, ho, hb2⟩; have R2 := blk_call hb2 R1; have B2 := bl_call B1 hb2 (by have := blk_lt R1; omega); have hoB := own_mono (B' := w.heap.size + 1) ho (by have := blk_lt R1; omega); obtain ⟨g, cap, rfl, hg, hg'⟩ := World.ownsRow.form hoB (by have := (partOK_len1 hb).1; omega); clear ho R1 B1 hb2)
        | fail)
      have R4 := R2
      have B4 := B2
      have ho4 := hoB
      obtain ⟨pb1, pb2, hLd⟩ := partOK_len1 hb
      have hLb : b.length ≤ b.length + 40 := by omega
      obtain ⟨L, hL⟩ : ∃ L, L = b := ⟨_, rfl⟩
      have hLn : L.length = b.length := by rw [hL]
      rw [← hL] at hLd
      rw [show dgs b = dgs L by rw [hL]] at ho4
      have HVV := Lib.hid (show valOf l = GM.vl (b.length + 40) L by rw [hL]; exact HVV.out)
      clear R2 B2 hoB hL
      obtain ⟨R, hR⟩ : ∃ R, (fl ((List.range 81).map GM.pt)).toArray = R := ⟨_, rfl⟩
      have HR := Lib.hid hR
      clear hR
      go_wp2_with (first
        | (go_at_call 47; refine (newPowers_any _).mono ?_; rintro e w5 ⟨rfl, hb5⟩; rw [HR.out]; have R5 := blk_call hb5 R4; have B5 := bl_call B4 hb5 (by have := blk_lt R4; omega); have ho5 := own_below ho4 hb5; clear R4 B4 ho4 hb5)
        | (refine wpList_store_pows rfl (.tmp 8) (.tmp 28) rfl rfl (by rw [HR.out]; rfl) ?_; intro w6 hp hb6 hs6; have R6 := blk_call hb6 R5; have B6 := bl_call B5 hb6 (by have := blk_lt R5; omega); have ho6 := own_below ho5 hb6; have hP := blk_lt R5; clear R5 B5 ho5 hb6; generalize w5.heap.size = P at hp hs6 hP ⊢)
        | fail)
      obtain ⟨O, hO⟩ : ∃ O, O = w6.heap.size := ⟨_, rfl⟩
      obtain ⟨w7, h7⟩ : ∃ w7, w7 = w6.alloc (.cells #[.int .i64 0, .int .i64 0] 23) := ⟨_, rfl⟩
      rw [← hO, ← h7]
      have R7 : w7.heap[w.heap.size]? = some (.cells #[.int .i64 0, .int .i64 0] 23 (0, 0)) := by rw [h7]; exact blk_old R6
      have O7 : w7.heap[O]? = some (.cells #[.int .i64 0, .int .i64 0] 23 (0, 0)) := by rw [h7, hO]; exact blk_new _ _
      have B7 : Below w.heap.size w w7 := by rw [h7]; exact B6.alloc (by have := blk_lt R6; omega) _
      have hp7 : Pows w7 P := by rw [h7]; exact blk_old hp
      have ho7 : w7.ownsRow (w.heap.size + 1) 3 1 (.slice (some ⟨g, 0, none⟩) (b.length) cap) (b.length) (dgs L) := by rw [h7]; exact ho6.alloc _
      have hGO : g ≠ O := by
        have := (ho6.lt g rfl).2
        omega
      have hOG : O ≠ g := hGO.symm
      have hPO : P ≠ O := by omega
      have hRO : w.heap.size ≠ O := by omega
      have hRO' : w.heap.size ≤ O := by omega
      clear h7 hO R6 B6 hp ho6 hs6 hP
      have HLD := Lib.hid hLd
      clear hLd
      go_loopw [31] (fun x wr => ∃ (k : Nat) (X Y : Int), x = .int .i64 k ∧ k ≤ b.length ∧ wr.heap[O]? = some (.cells #[.int .i64 X, .int .i64 Y] 23 (0, 0)) ∧ (-600000000 * (k : Int) ≤ X ∧ X ≤ 600000000 * (k : Int) ∧ -600000000 * (k : Int) ≤ Y ∧ Y ≤ 600000000 * (k : Int)) ∧ Hid (GM.add (X, Y) (GM.vl (b.length + 40 - k) (L.drop k)) = GM.vl (b.length + 40) L) ∧ Pows wr P ∧ wr.ownsRow (w.heap.size + 1) 3 1 (.slice (some ⟨g, 0, none⟩) (b.length) cap) (b.length) (dgs L) ∧ wr.heap[w.heap.size]? = some (.cells #[.int .i64 0, .int .i64 0] 23 (0, 0)) ∧ Below w.heap.size w wr) (fun x _ => b.length - (intOf x).toNat)
      case atStart => exact ⟨0, 0, 0, rfl, by omega, O7, by omega, Lib.hid (GM.zero_add _), hp7, ho7, R7, B7⟩
      case round =>
        obtain ⟨k, X, Y, rfl, l1, XO, ⟨x1, x2, x3, x4⟩, HS, hp, ho, R, B⟩ := hrel
        by_cases hk : k < b.length
        · obtain ⟨c, hc⟩ : ∃ c, L[k]? = some c := ⟨L[k], by simp [hLn, hk]⟩
          have hcd := HLD.out c (List.mem_of_getElem? hc)
          have c0 : wr.cell? ⟨g, k, none⟩ = some (.int .i64 ((c.toNat : Int) - 48)) := (ho.cellAt k (by omega)).trans (dgs_get _ _ _ hc)
          have hstep := vl_step (b.length + 40) L k c hc
          obtain ⟨m, hm0⟩ : ∃ m, m = b.length + 40 - (k + 1) := ⟨_, rfl⟩
          rw [← hm0] at hstep
          have hm : m < 81 := by omega
          have hmk : 40 + ((b.length : Int) - 1 - k) = m := by omega
          have hq1 : -9000000000000000000 ≤ (b.length : Int) - 1 - k := by omega
          obtain ⟨D, hD⟩ : ∃ D : Int, (c.toNat : Int) - 48 = D := ⟨_, rfl⟩
          rw [hD] at c0 hstep
          have hD0 : 0 ≤ D := by omega
          have hD3 : D ≤ 3 := by omega
          have hof := fun wx h => of_any P ((b.length : Int) - 1 - k) m wx h hmk hm
          have hpb := pt_bd ⟨m, by omega⟩
          dsimp only at hpb
          obtain ⟨⟨px, py⟩, hpt⟩ : ∃ p, GM.pt m = p := ⟨_, rfl⟩
          rw [hpt] at hof hpb hstep
          dsimp only at hof hpb hstep
          obtain ⟨p1, p2, p3, p4⟩ := hpb
          obtain ⟨t1, t2⟩ := mul_bd (a := D) (b := px) (A := 3) (B := 200000000) (by omega) hD3 p1 p2
          obtain ⟨t3, t4⟩ := mul_bd (a := D) (b := py) (A := 3) (B := 200000000) (by omega) hD3 p3 p4
          have htm := fun wx => times_any px py D wx (by omega) (by omega) (by omega) (by omega)
          obtain ⟨tx, htx⟩ : ∃ tx, D * px = tx := ⟨_, rfl⟩
          obtain ⟨ty, hty⟩ : ∃ ty, D * py = ty := ⟨_, rfl⟩
          rw [htx] at t1 t2
          rw [hty] at t3 t4
          rw [htx, hty] at htm hstep
          have HM0 := Lib.hid hm0
          have HOF := Lib.hid hof
          have HTM := Lib.hid htm
          have HSTEP := Lib.hid hstep
          have HHP := Lib.hid hp
          have HHO := Lib.hid ho
          have HHR := Lib.hid R
          have hPs : P < wr.heap.size := blk_lt hp
          have hws : w.heap.size < wr.heap.size := blk_lt R
          clear hof htm hstep hpt htx hty hD hmk hc hm0 hcd hp ho R
          have pblk9 := XO
          clear XO
          go_upto_region 11 with fail
          have pblk9 : wr.heap[O]? = some (.cells #[.int .i64 X, .int .i64 Y] 23 (0, 0)) := by first | assumption | exact hblk9
          refine with_act fun a0 ha0 => ?_
          refine wp_region_inv (by kernel_rfl) (by kernel_rfl) (fun s a' w' => ∃ v36 v37 v38 v39 v40 v41 v42 v43 : Value, a' = putL a0 [(36, v36), (37, v37), (38, v38), (39, v39), (40, v40), (41, v41), (42, v42), (43, v43)] ∧ Hid ((s 0 = true → v36 = .agg #[.int .i64 X, .int .i64 Y]) ∧ (s 1 = true → v37 = .int .i64 ((b.length : Int) - 1)) ∧ (s 2 = true → v38 = .int .i64 k) ∧ (s 3 = true → v39 = .int .i64 ((b.length : Int) - 1 - k)) ∧ (s 4 = true → v40 = .agg #[.int .i64 px, .int .i64 py]) ∧ (s 5 = true → v41 = .int .i64 D) ∧ (s 6 = true → v42 = .agg #[.int .i64 tx, .int .i64 ty]) ∧ (s 7 = true → v43 = .agg #[.int .i64 (X + tx), .int .i64 (Y + ty)]) ∧ True) ∧ BelX [O] wr w' ∧ (∃ (c0 c1 : Value), w'.heap[O]? = some (.cells #[c0, c1] 23 (0, 0)) ∧ (s 8 = true → c0 = .int .i64 (X + tx) ∧ c1 = .int .i64 (Y + ty)) ∧ (s 8 = false → c0 = .int .i64 X ∧ c1 = .int .i64 Y)) ∧ (s 8 = true → s 0 = true ∧ s 1 = true ∧ s 2 = true ∧ s 3 = true ∧ s 4 = true ∧ s 5 = true ∧ s 6 = true ∧ s 7 = true ∧ True) ∧ True) ?x1hzero ⟨?x1hs0, ?x1hs1, ?x1hs2, ?x1hs3, ?x1hs4, ?x1hs5, ?x1hs6, ?x1hs7, ?x1hs8, trivial⟩ ?x1hdone
          case x1hzero =>
            refine ⟨a0.tmps.getD 36 undef, a0.tmps.getD 37 undef, a0.tmps.getD 38 undef, a0.tmps.getD 39 undef, a0.tmps.getD 40 undef, a0.tmps.getD 41 undef, a0.tmps.getD 42 undef, a0.tmps.getD 43 undef, ?_, ?_, ?_, ?_, ?_, trivial⟩
            · simp only [putL, put_self]
            · exact Lib.hid ⟨fun h => (by simp at h), fun h => (by simp at h), fun h => (by simp at h), fun h => (by simp at h), fun h => (by simp at h), fun h => (by simp at h), fun h => (by simp at h), fun h => (by simp at h), trivial⟩
            · exact BelX.start _ _
            · exact ⟨.int .i64 X, .int .i64 Y, pblk9, fun h => (by simp at h), fun _ => ⟨rfl, rfl⟩⟩
            · exact fun h => (by simp at h)
          case x1hs0 =>
            intro s a' w' hsk hdep hI K hK
            try dsimp only at hI hK
            obtain ⟨v36, v37, v38, v39, v40, v41, v42, v43, hact, hR, hX, hP9, hQ9, _⟩ := hI
            subst hact
            have HK := Lib.hid hK
            clear hK
            have kx0 := (show Pows w' P from (hX.block P hPs (by simp <;> omega)).trans HHP.out)
            obtain ⟨b9_0, b9_1, pb9, pt9, pf9⟩ := hP9
            have hs0 : s 8 = false := Bool.eq_false_iff.2 fun h => (by have := hQ9 h; simp [hsk] at this)
            obtain ⟨q9_0, q9_1⟩ := pf9 hs0
            subst q9_0
            subst q9_1
            clear hs0
            have kp9_0 := cell_of_row w' (O) 0 _ _ _ pb9
            have kp9_1 := cell_of_row w' (O) 1 _ _ _ pb9
            simp only [List.getElem?_toArray, List.getElem?_cons_zero, List.getElem?_cons_succ] at kp9_0 kp9_1
            have kq9 : ∀ o, w'.frozen? ⟨O, o, none⟩ = false := fun o => frozen_of_row w' _ o _ _ pb9
            have hPB9 := Lib.hid pb9
            clear pb9
            have hPT9 := Lib.hid pt9
            clear pt9
            have hPF9 := Lib.hid pf9
            clear pf9
            clear hdep
            refine StepG.mk rfl ?_; rw [ha0]; simp only [putL, Act.put, List.setIfInBounds_toArray, List.set_cons_zero, List.set_cons_succ]
            go_wp2_with fail
            refine HK.out _ _ ?_
            refine ⟨(.agg #[.int .i64 X, .int .i64 Y]), v37, v38, v39, v40, v41, v42, v43, (by rw [ha0]; simp only [putL, Act.put, List.setIfInBounds_toArray, List.set_cons_zero, List.set_cons_succ]), ?_, ?_, ?_, ?_, trivial⟩
            · obtain ⟨h36, h37, h38, h39, h40, h41, h42, h43, _⟩ := hR.out
              exact Lib.hid ⟨fun _ => rfl, fun h => h37 (by simpa using h), fun h => h38 (by simpa using h), fun h => h39 (by simpa using h), fun h => h40 (by simpa using h), fun h => h41 (by simpa using h), fun h => h42 (by simpa using h), fun h => h43 (by simpa using h), trivial⟩
            · exact hX
            · exact ⟨_, _, hPB9.out, fun h => hPT9.out (by simpa using h), fun h => ⟨rfl, rfl⟩⟩
            · exact fun h => (by have h1 := hQ9 (by simpa using h); simp [h1])
          case x1hs1 =>
            intro s a' w' hsk hdep hI K hK
            try dsimp only at hI hK
            obtain ⟨v36, v37, v38, v39, v40, v41, v42, v43, hact, hR, hX, hP9, hQ9, _⟩ := hI
            subst hact
            have HK := Lib.hid hK
            clear hK
            have kx0 := (show Pows w' P from (hX.block P hPs (by simp <;> omega)).trans HHP.out)
            obtain ⟨b9_0, b9_1, pb9, pt9, pf9⟩ := hP9
            have hs0 : s 8 = false := Bool.eq_false_iff.2 fun h => (by have := hQ9 h; simp [hsk] at this)
            obtain ⟨q9_0, q9_1⟩ := pf9 hs0
            subst q9_0
            subst q9_1
            clear hs0
            have kp9_0 := cell_of_row w' (O) 0 _ _ _ pb9
            have kp9_1 := cell_of_row w' (O) 1 _ _ _ pb9
            simp only [List.getElem?_toArray, List.getElem?_cons_zero, List.getElem?_cons_succ] at kp9_0 kp9_1
            have kq9 : ∀ o, w'.frozen? ⟨O, o, none⟩ = false := fun o => frozen_of_row w' _ o _ _ pb9
            have hPB9 := Lib.hid pb9
            clear pb9
            have hPT9 := Lib.hid pt9
            clear pt9
            have hPF9 := Lib.hid pf9
            clear pf9
            clear hdep
            refine StepG.mk rfl ?_; rw [ha0]; simp only [putL, Act.put, List.setIfInBounds_toArray, List.set_cons_zero, List.set_cons_succ]
            go_wp2_with fail
            refine HK.out _ _ ?_
            refine ⟨v36, (.int .i64 ((b.length : Int) - 1)), v38, v39, v40, v41, v42, v43, (by rw [ha0]; simp only [putL, Act.put, List.setIfInBounds_toArray, List.set_cons_zero, List.set_cons_succ]), ?_, ?_, ?_, ?_, trivial⟩
            · obtain ⟨h36, h37, h38, h39, h40, h41, h42, h43, _⟩ := hR.out
              exact Lib.hid ⟨fun h => h36 (by simpa using h), fun _ => rfl, fun h => h38 (by simpa using h), fun h => h39 (by simpa using h), fun h => h40 (by simpa using h), fun h => h41 (by simpa using h), fun h => h42 (by simpa using h), fun h => h43 (by simpa using h), trivial⟩
            · exact hX
            · exact ⟨_, _, hPB9.out, fun h => hPT9.out (by simpa using h), fun h => ⟨rfl, rfl⟩⟩
            · exact fun h => (by have h1 := hQ9 (by simpa using h); simp [h1])
          case x1hs2 =>
            intro s a' w' hsk hdep hI K hK
            try dsimp only at hI hK
            obtain ⟨v36, v37, v38, v39, v40, v41, v42, v43, hact, hR, hX, hP9, hQ9, _⟩ := hI
            subst hact
            have HK := Lib.hid hK
            clear hK
            have kx0 := (show Pows w' P from (hX.block P hPs (by simp <;> omega)).trans HHP.out)
            obtain ⟨b9_0, b9_1, pb9, pt9, pf9⟩ := hP9
            have hs0 : s 8 = false := Bool.eq_false_iff.2 fun h => (by have := hQ9 h; simp [hsk] at this)
            obtain ⟨q9_0, q9_1⟩ := pf9 hs0
            subst q9_0
            subst q9_1
            clear hs0
            have kp9_0 := cell_of_row w' (O) 0 _ _ _ pb9
            have kp9_1 := cell_of_row w' (O) 1 _ _ _ pb9
            simp only [List.getElem?_toArray, List.getElem?_cons_zero, List.getElem?_cons_succ] at kp9_0 kp9_1
            have kq9 : ∀ o, w'.frozen? ⟨O, o, none⟩ = false := fun o => frozen_of_row w' _ o _ _ pb9
            have hPB9 := Lib.hid pb9
            clear pb9
            have hPT9 := Lib.hid pt9
            clear pt9
            have hPF9 := Lib.hid pf9
            clear pf9
            clear hdep
            refine StepG.mk rfl ?_; rw [ha0]; simp only [putL, Act.put, List.setIfInBounds_toArray, List.set_cons_zero, List.set_cons_succ]
            go_wp2_with fail
            refine HK.out _ _ ?_
            refine ⟨v36, v37, (.int .i64 k), v39, v40, v41, v42, v43, (by rw [ha0]; simp only [putL, Act.put, List.setIfInBounds_toArray, List.set_cons_zero, List.set_cons_succ]), ?_, ?_, ?_, ?_, trivial⟩
            · obtain ⟨h36, h37, h38, h39, h40, h41, h42, h43, _⟩ := hR.out
              exact Lib.hid ⟨fun h => h36 (by simpa using h), fun h => h37 (by simpa using h), fun _ => rfl, fun h => h39 (by simpa using h), fun h => h40 (by simpa using h), fun h => h41 (by simpa using h), fun h => h42 (by simpa using h), fun h => h43 (by simpa using h), trivial⟩
            · exact hX
            · exact ⟨_, _, hPB9.out, fun h => hPT9.out (by simpa using h), fun h => ⟨rfl, rfl⟩⟩
            · exact fun h => (by have h1 := hQ9 (by simpa using h); simp [h1])
          case x1hs3 =>
            intro s a' w' hsk hdep hI K hK
            try dsimp only at hI hK
            obtain ⟨v36, v37, v38, v39, v40, v41, v42, v43, hact, hR, hX, hP9, hQ9, _⟩ := hI
            subst hact
            have HK := Lib.hid hK
            clear hK
            have e37 : v37 = .int .i64 ((b.length : Int) - 1) := by obtain ⟨h36, h37, h38, h39, h40, h41, h42, h43, _⟩ := hR.out; exact h37 (hdep ⟨1, .data⟩ (by simp) rfl)
            subst e37
            have e38 : v38 = .int .i64 k := by obtain ⟨h36, h37, h38, h39, h40, h41, h42, h43, _⟩ := hR.out; exact h38 (hdep ⟨2, .data⟩ (by simp) rfl)
            subst e38
            have kx0 := (show Pows w' P from (hX.block P hPs (by simp <;> omega)).trans HHP.out)
            obtain ⟨b9_0, b9_1, pb9, pt9, pf9⟩ := hP9
            have hs0 : s 8 = false := Bool.eq_false_iff.2 fun h => (by have := hQ9 h; simp [hsk] at this)
            obtain ⟨q9_0, q9_1⟩ := pf9 hs0
            subst q9_0
            subst q9_1
            clear hs0
            have kp9_0 := cell_of_row w' (O) 0 _ _ _ pb9
            have kp9_1 := cell_of_row w' (O) 1 _ _ _ pb9
            simp only [List.getElem?_toArray, List.getElem?_cons_zero, List.getElem?_cons_succ] at kp9_0 kp9_1
            have kq9 : ∀ o, w'.frozen? ⟨O, o, none⟩ = false := fun o => frozen_of_row w' _ o _ _ pb9
            have hPB9 := Lib.hid pb9
            clear pb9
            have hPT9 := Lib.hid pt9
            clear pt9
            have hPF9 := Lib.hid pf9
            clear pf9
            clear hdep
            refine StepG.mk rfl ?_; rw [ha0]; simp only [putL, Act.put, List.setIfInBounds_toArray, List.set_cons_zero, List.set_cons_succ]
            go_wp2_with fail
            refine HK.out _ _ ?_
            refine ⟨v36, (.int .i64 ((b.length : Int) - 1)), (.int .i64 k), (.int .i64 ((b.length : Int) - 1 - k)), v40, v41, v42, v43, (by rw [ha0]; simp only [putL, Act.put, List.setIfInBounds_toArray, List.set_cons_zero, List.set_cons_succ]), ?_, ?_, ?_, ?_, trivial⟩
            · obtain ⟨h36, h37, h38, h39, h40, h41, h42, h43, _⟩ := hR.out
              exact Lib.hid ⟨fun h => h36 (by simpa using h), fun _ => rfl, fun _ => rfl, fun _ => rfl, fun h => h40 (by simpa using h), fun h => h41 (by simpa using h), fun h => h42 (by simpa using h), fun h => h43 (by simpa using h), trivial⟩
            · exact hX
            · exact ⟨_, _, hPB9.out, fun h => hPT9.out (by simpa using h), fun h => ⟨rfl, rfl⟩⟩
            · exact fun h => (by have h1 := hQ9 (by simpa using h); simp [h1])
          case x1hs4 =>
            intro s a' w' hsk hdep hI K hK
            try dsimp only at hI hK
            obtain ⟨v36, v37, v38, v39, v40, v41, v42, v43, hact, hR, hX, hP9, hQ9, _⟩ := hI
            subst hact
            have HK := Lib.hid hK
            clear hK
            have e39 : v39 = .int .i64 ((b.length : Int) - 1 - k) := by obtain ⟨h36, h37, h38, h39, h40, h41, h42, h43, _⟩ := hR.out; exact h39 (hdep ⟨3, .data⟩ (by simp) rfl)
            subst e39
            have kx0 := (show Pows w' P from (hX.block P hPs (by simp <;> omega)).trans HHP.out)
            obtain ⟨b9_0, b9_1, pb9, pt9, pf9⟩ := hP9
            have hs0 : s 8 = false := Bool.eq_false_iff.2 fun h => (by have := hQ9 h; simp [hsk] at this)
            obtain ⟨q9_0, q9_1⟩ := pf9 hs0
            subst q9_0
            subst q9_1
            clear hs0
            have kp9_0 := cell_of_row w' (O) 0 _ _ _ pb9
            have kp9_1 := cell_of_row w' (O) 1 _ _ _ pb9
            simp only [List.getElem?_toArray, List.getElem?_cons_zero, List.getElem?_cons_succ] at kp9_0 kp9_1
            have kq9 : ∀ o, w'.frozen? ⟨O, o, none⟩ = false := fun o => frozen_of_row w' _ o _ _ pb9
            have hPB9 := Lib.hid pb9
            clear pb9
            have hPT9 := Lib.hid pt9
            clear pt9
            have hPF9 := Lib.hid pf9
            clear pf9
            clear hdep
            refine StepG.mk rfl ?_; rw [ha0]; simp only [putL, Act.put, List.setIfInBounds_toArray, List.set_cons_zero, List.set_cons_succ]
            go_wp2_with fail
            refine ((HOF.out _ kx0)).mono ?_
            rintro e wn ⟨rfl, hb⟩
            go_wp2_with fail
            refine HK.out _ _ ?_
            refine ⟨v36, v37, v38, (.int .i64 ((b.length : Int) - 1 - k)), (.agg #[.int .i64 px, .int .i64 py]), v41, v42, v43, (by rw [ha0]; simp only [putL, Act.put, List.setIfInBounds_toArray, List.set_cons_zero, List.set_cons_succ]), ?_, ?_, ?_, ?_, trivial⟩
            · obtain ⟨h36, h37, h38, h39, h40, h41, h42, h43, _⟩ := hR.out
              exact Lib.hid ⟨fun h => h36 (by simpa using h), fun h => h37 (by simpa using h), fun h => h38 (by simpa using h), fun _ => rfl, fun _ => rfl, fun h => h41 (by simpa using h), fun h => h42 (by simpa using h), fun h => h43 (by simpa using h), trivial⟩
            · exact hX.call hb
            · exact ⟨_, _, (hb.block _ (blk_lt hPB9.out)).trans hPB9.out, fun h => hPT9.out (by simpa using h), fun h => ⟨rfl, rfl⟩⟩
            · exact fun h => (by have h1 := hQ9 (by simpa using h); simp [h1])
          case x1hs5 =>
            intro s a' w' hsk hdep hI K hK
            try dsimp only at hI hK
            obtain ⟨v36, v37, v38, v39, v40, v41, v42, v43, hact, hR, hX, hP9, hQ9, _⟩ := hI
            subst hact
            have HK := Lib.hid hK
            clear hK
            have kx0 := (show Pows w' P from (hX.block P hPs (by simp <;> omega)).trans HHP.out)
            obtain ⟨b9_0, b9_1, pb9, pt9, pf9⟩ := hP9
            have hs0 : s 8 = false := Bool.eq_false_iff.2 fun h => (by have := hQ9 h; simp [hsk] at this)
            obtain ⟨q9_0, q9_1⟩ := pf9 hs0
            subst q9_0
            subst q9_1
            clear hs0
            have kp9_0 := cell_of_row w' (O) 0 _ _ _ pb9
            have kp9_1 := cell_of_row w' (O) 1 _ _ _ pb9
            simp only [List.getElem?_toArray, List.getElem?_cons_zero, List.getElem?_cons_succ] at kp9_0 kp9_1
            have kq9 : ∀ o, w'.frozen? ⟨O, o, none⟩ = false := fun o => frozen_of_row w' _ o _ _ pb9
            have hPB9 := Lib.hid pb9
            clear pb9
            have hPT9 := Lib.hid pt9
            clear pt9
            have hPF9 := Lib.hid pf9
            clear pf9
            clear hdep
            refine StepG.mk rfl ?_; rw [ha0]; simp only [putL, Act.put, List.setIfInBounds_toArray, List.set_cons_zero, List.set_cons_succ]
            go_wp2_with fail
            refine HK.out _ _ ?_
            refine ⟨v36, v37, v38, v39, v40, (.int .i64 D), v42, v43, (by rw [ha0]; simp only [putL, Act.put, List.setIfInBounds_toArray, List.set_cons_zero, List.set_cons_succ]), ?_, ?_, ?_, ?_, trivial⟩
            · obtain ⟨h36, h37, h38, h39, h40, h41, h42, h43, _⟩ := hR.out
              exact Lib.hid ⟨fun h => h36 (by simpa using h), fun h => h37 (by simpa using h), fun h => h38 (by simpa using h), fun h => h39 (by simpa using h), fun h => h40 (by simpa using h), fun _ => rfl, fun h => h42 (by simpa using h), fun h => h43 (by simpa using h), trivial⟩
            · exact hX
            · exact ⟨_, _, hPB9.out, fun h => hPT9.out (by simpa using h), fun h => ⟨rfl, rfl⟩⟩
            · exact fun h => (by have h1 := hQ9 (by simpa using h); simp [h1])
          case x1hs6 =>
            intro s a' w' hsk hdep hI K hK
            try dsimp only at hI hK
            obtain ⟨v36, v37, v38, v39, v40, v41, v42, v43, hact, hR, hX, hP9, hQ9, _⟩ := hI
            subst hact
            have HK := Lib.hid hK
            clear hK
            have e40 : v40 = .agg #[.int .i64 px, .int .i64 py] := by obtain ⟨h36, h37, h38, h39, h40, h41, h42, h43, _⟩ := hR.out; exact h40 (hdep ⟨4, .data⟩ (by simp) rfl)
            subst e40
            have e41 : v41 = .int .i64 D := by obtain ⟨h36, h37, h38, h39, h40, h41, h42, h43, _⟩ := hR.out; exact h41 (hdep ⟨5, .data⟩ (by simp) rfl)
            subst e41
            have kx0 := (show Pows w' P from (hX.block P hPs (by simp <;> omega)).trans HHP.out)
            obtain ⟨b9_0, b9_1, pb9, pt9, pf9⟩ := hP9
            have hs0 : s 8 = false := Bool.eq_false_iff.2 fun h => (by have := hQ9 h; simp [hsk] at this)
            obtain ⟨q9_0, q9_1⟩ := pf9 hs0
            subst q9_0
            subst q9_1
            clear hs0
            have kp9_0 := cell_of_row w' (O) 0 _ _ _ pb9
            have kp9_1 := cell_of_row w' (O) 1 _ _ _ pb9
            simp only [List.getElem?_toArray, List.getElem?_cons_zero, List.getElem?_cons_succ] at kp9_0 kp9_1
            have kq9 : ∀ o, w'.frozen? ⟨O, o, none⟩ = false := fun o => frozen_of_row w' _ o _ _ pb9
            have hPB9 := Lib.hid pb9
            clear pb9
            have hPT9 := Lib.hid pt9
            clear pt9
            have hPF9 := Lib.hid pf9
            clear pf9
            clear hdep
            refine StepG.mk rfl ?_; rw [ha0]; simp only [putL, Act.put, List.setIfInBounds_toArray, List.set_cons_zero, List.set_cons_succ]
            go_wp2_with fail
            refine ((HTM.out _)).mono ?_
            rintro e wn ⟨rfl, hb⟩
            go_wp2_with fail
            refine HK.out _ _ ?_
            refine ⟨v36, v37, v38, v39, (.agg #[.int .i64 px, .int .i64 py]), (.int .i64 D), (.agg #[.int .i64 tx, .int .i64 ty]), v43, (by rw [ha0]; simp only [putL, Act.put, List.setIfInBounds_toArray, List.set_cons_zero, List.set_cons_succ]), ?_, ?_, ?_, ?_, trivial⟩
            · obtain ⟨h36, h37, h38, h39, h40, h41, h42, h43, _⟩ := hR.out
              exact Lib.hid ⟨fun h => h36 (by simpa using h), fun h => h37 (by simpa using h), fun h => h38 (by simpa using h), fun h => h39 (by simpa using h), fun _ => rfl, fun _ => rfl, fun _ => rfl, fun h => h43 (by simpa using h), trivial⟩
            · exact hX.call hb
            · exact ⟨_, _, (hb.block _ (blk_lt hPB9.out)).trans hPB9.out, fun h => hPT9.out (by simpa using h), fun h => ⟨rfl, rfl⟩⟩
            · exact fun h => (by have h1 := hQ9 (by simpa using h); simp [h1])
          case x1hs7 =>
            intro s a' w' hsk hdep hI K hK
            try dsimp only at hI hK
            obtain ⟨v36, v37, v38, v39, v40, v41, v42, v43, hact, hR, hX, hP9, hQ9, _⟩ := hI
            subst hact
            have HK := Lib.hid hK
            clear hK
            have e36 : v36 = .agg #[.int .i64 X, .int .i64 Y] := by obtain ⟨h36, h37, h38, h39, h40, h41, h42, h43, _⟩ := hR.out; exact h36 (hdep ⟨0, .data⟩ (by simp) rfl)
            subst e36
            have e42 : v42 = .agg #[.int .i64 tx, .int .i64 ty] := by obtain ⟨h36, h37, h38, h39, h40, h41, h42, h43, _⟩ := hR.out; exact h42 (hdep ⟨6, .data⟩ (by simp) rfl)
            subst e42
            have kx0 := (show Pows w' P from (hX.block P hPs (by simp <;> omega)).trans HHP.out)
            obtain ⟨b9_0, b9_1, pb9, pt9, pf9⟩ := hP9
            have hs0 : s 8 = false := Bool.eq_false_iff.2 fun h => (by have := hQ9 h; simp [hsk] at this)
            obtain ⟨q9_0, q9_1⟩ := pf9 hs0
            subst q9_0
            subst q9_1
            clear hs0
            have kp9_0 := cell_of_row w' (O) 0 _ _ _ pb9
            have kp9_1 := cell_of_row w' (O) 1 _ _ _ pb9
            simp only [List.getElem?_toArray, List.getElem?_cons_zero, List.getElem?_cons_succ] at kp9_0 kp9_1
            have kq9 : ∀ o, w'.frozen? ⟨O, o, none⟩ = false := fun o => frozen_of_row w' _ o _ _ pb9
            have hPB9 := Lib.hid pb9
            clear pb9
            have hPT9 := Lib.hid pt9
            clear pt9
            have hPF9 := Lib.hid pf9
            clear pf9
            clear hdep
            refine StepG.mk rfl ?_; rw [ha0]; simp only [putL, Act.put, List.setIfInBounds_toArray, List.set_cons_zero, List.set_cons_succ]
            go_wp2_with fail
            refine ((plus_any _ _ _ _ _ (by omega) (by omega) (by omega) (by omega))).mono ?_
            rintro e wn ⟨rfl, hb⟩
            go_wp2_with fail
            refine HK.out _ _ ?_
            refine ⟨(.agg #[.int .i64 X, .int .i64 Y]), v37, v38, v39, v40, v41, (.agg #[.int .i64 tx, .int .i64 ty]), (.agg #[.int .i64 (X + tx), .int .i64 (Y + ty)]), (by rw [ha0]; simp only [putL, Act.put, List.setIfInBounds_toArray, List.set_cons_zero, List.set_cons_succ]), ?_, ?_, ?_, ?_, trivial⟩
            · obtain ⟨h36, h37, h38, h39, h40, h41, h42, h43, _⟩ := hR.out
              exact Lib.hid ⟨fun _ => rfl, fun h => h37 (by simpa using h), fun h => h38 (by simpa using h), fun h => h39 (by simpa using h), fun h => h40 (by simpa using h), fun h => h41 (by simpa using h), fun _ => rfl, fun _ => rfl, trivial⟩
            · exact hX.call hb
            · exact ⟨_, _, (hb.block _ (blk_lt hPB9.out)).trans hPB9.out, fun h => hPT9.out (by simpa using h), fun h => ⟨rfl, rfl⟩⟩
            · exact fun h => (by have h1 := hQ9 (by simpa using h); simp [h1])
          case x1hs8 =>
            intro s a' w' hsk hdep hI K hK
            try dsimp only at hI hK
            obtain ⟨v36, v37, v38, v39, v40, v41, v42, v43, hact, hR, hX, hP9, hQ9, _⟩ := hI
            subst hact
            have HK := Lib.hid hK
            clear hK
            have e43 : v43 = .agg #[.int .i64 (X + tx), .int .i64 (Y + ty)] := by obtain ⟨h36, h37, h38, h39, h40, h41, h42, h43, _⟩ := hR.out; exact h43 (hdep ⟨7, .data⟩ (by simp) rfl)
            subst e43
            have kx0 := (show Pows w' P from (hX.block P hPs (by simp <;> omega)).trans HHP.out)
            obtain ⟨b9_0, b9_1, pb9, pt9, pf9⟩ := hP9
            have hs0 : s 8 = false := hsk
            obtain ⟨q9_0, q9_1⟩ := pf9 hs0
            subst q9_0
            subst q9_1
            clear hs0
            have kp9_0 := cell_of_row w' (O) 0 _ _ _ pb9
            have kp9_1 := cell_of_row w' (O) 1 _ _ _ pb9
            simp only [List.getElem?_toArray, List.getElem?_cons_zero, List.getElem?_cons_succ] at kp9_0 kp9_1
            have kq9 : ∀ o, w'.frozen? ⟨O, o, none⟩ = false := fun o => frozen_of_row w' _ o _ _ pb9
            have hPB9 := Lib.hid pb9
            clear pb9
            have hPT9 := Lib.hid pt9
            clear pt9
            have hPF9 := Lib.hid pf9
            clear pf9
            have hd0 : s 0 = true := hdep ⟨0, .phase⟩ (by simp) rfl
            have hd1 : s 1 = true := hdep ⟨1, .phase⟩ (by simp) rfl
            have hd2 : s 2 = true := hdep ⟨2, .phase⟩ (by simp) rfl
            have hd3 : s 3 = true := hdep ⟨3, .phase⟩ (by simp) rfl
            have hd4 : s 4 = true := hdep ⟨4, .phase⟩ (by simp) rfl
            have hd5 : s 5 = true := hdep ⟨5, .phase⟩ (by simp) rfl
            have hd6 : s 6 = true := hdep ⟨6, .phase⟩ (by simp) rfl
            have hd7 : s 7 = true := hdep ⟨7, .data⟩ (by simp) rfl
            clear hdep
            refine StepG.mk rfl ?_; rw [ha0]; simp only [putL, Act.put, List.setIfInBounds_toArray, List.set_cons_zero, List.set_cons_succ]
            go_wp2_with fail
            refine HK.out _ _ ?_
            refine ⟨v36, v37, v38, v39, v40, v41, v42, (.agg #[.int .i64 (X + tx), .int .i64 (Y + ty)]), (by rw [ha0]; simp only [putL, Act.put, List.setIfInBounds_toArray, List.set_cons_zero, List.set_cons_succ]), ?_, ?_, ?_, ?_, trivial⟩
            · obtain ⟨h36, h37, h38, h39, h40, h41, h42, h43, _⟩ := hR.out
              exact Lib.hid ⟨fun h => h36 (by simpa using h), fun h => h37 (by simpa using h), fun h => h38 (by simpa using h), fun h => h39 (by simpa using h), fun h => h40 (by simpa using h), fun h => h41 (by simpa using h), fun h => h42 (by simpa using h), fun _ => rfl, trivial⟩
            · exact ((hX.setOld (p := ⟨O, 0, none⟩) (by simp) _).setOld (p := ⟨O, 1, none⟩) (by simp) _)
            · exact ⟨_, _, blk_set2 hPB9.out, fun _ => ⟨rfl, rfl⟩, fun h => (by simp at h)⟩
            · exact fun _ => (by simp [hd0, hd1, hd2, hd3, hd4, hd5, hd6, hd7])
          intro s a' w8 hall hI
          try dsimp only at hI
          obtain ⟨v36, v37, v38, v39, v40, v41, v42, v43, hact, hR, hXR, hP9, hQ9, _⟩ := hI
          subst hact
          obtain ⟨h36, h37, h38, h39, h40, h41, h42, h43, _⟩ := hR.out
          clear hR
          have e36 := h36 (hall 0 (by decide))
          subst e36
          clear h36
          have e37 := h37 (hall 1 (by decide))
          subst e37
          clear h37
          have e38 := h38 (hall 2 (by decide))
          subst e38
          clear h38
          have e39 := h39 (hall 3 (by decide))
          subst e39
          clear h39
          have e40 := h40 (hall 4 (by decide))
          subst e40
          clear h40
          have e41 := h41 (hall 5 (by decide))
          subst e41
          clear h41
          have e42 := h42 (hall 6 (by decide))
          subst e42
          clear h42
          have e43 := h43 (hall 7 (by decide))
          subst e43
          clear h43
          obtain ⟨c0, c1, pblkR9, hpt, _⟩ := hP9
          clear hQ9
          obtain ⟨es0, es1⟩ := hpt (hall 8 (by decide))
          subst es0
          subst es1
          clear hpt
          try clear pblk9
          have pblk9 := pblkR9
          clear pblkR9
          clear hall
          rw [ha0]; simp only [putL, Act.put, List.setIfInBounds_toArray, List.set_cons_zero, List.set_cons_succ]
          clear ha0
          have B8 : Below w.heap.size w w8 := hXR.below (by first | assumption | exact (by repeat (first | exact Below.refl _ _ | exact Nat.le_refl _ | refine Below.alloc ?_ ?_ _ | refine Below.setCell ?_ ?_ _ | refine Below.drew ?_ | refine bl_drewN ?_ _ | (assumption) | refine bl_call ?_ (by assumption) ?_ | omega | (simp <;> omega)))) (by first | omega | (simp <;> omega)) (by simp <;> omega)
          have hp8 : Pows w8 P := (hXR.block P hPs (by simp <;> omega)).trans HHP.out
          have ho8 := own_belX HHO.out hXR (by simp <;> omega)
          have R8 := (hXR.block _ (blk_lt HHR.out) (by simp <;> omega)).trans HHR.out
          clear hXR
          go_wp2_with fail
          go_roundw
          case rel =>
            refine ⟨k + 1, X + tx, Y + ty, by simp, by omega, pblk9, by omega, Lib.hid ?_, hp8, ho8, R8, B8⟩
            rw [← HS.out, HSTEP.out, ← HM0.out, ← GM.add_assoc]
            rfl
          case measure => simp [intOf]; omega
        · obtain rfl : k = b.length := by omega
          have hfin : GM.vl (b.length + 40) L = (X, Y) := by
            rw [← HS.out, List.drop_of_length_le (by omega)]
            exact GM.add_zero _
          have HF := Lib.hid (HVV.out.trans hfin)
          have c0 := row2_0 XO
          have c1 := row2_1 XO
          have d0 := row2_0 R
          have d1 := row2_1 R
          have f1 := row_f R
          clear hfin XO R
          go_wp2_with fail
          exact bodyPost_ret (v := .agg #[.int .i64 X, .int .i64 Y]) (by simp [results, Tryd.results53, go_sem, *]) rfl ⟨.inl ⟨HTT.out, by rw [HF.out]⟩, (by repeat (first | exact Below.refl _ _ | exact Nat.le_refl _ | refine Below.alloc ?_ ?_ _ | refine Below.setCell ?_ ?_ _ | refine Below.drew ?_ | refine bl_drewN ?_ _ | (assumption) | refine bl_call ?_ (by assumption) ?_ | omega | (simp <;> omega)))⟩
    | true =>
      by_cases ha : partOK a = true
      · have HTT := Lib.hid (show textOK l = true by rw [HT.out, hb, ha]; rfl)
        have HVV := Lib.hid (show valOf l = GM.vl (b.length + 40) (b ++ a) by rw [HV.out]; simp)
        obtain ⟨pb1, pb2, pb3⟩ := partOK_len1 hb
        obtain ⟨pa1, pa2, pa3⟩ := partOK_len1 ha
        have HA := Lib.hid ha
        clear HT HV ha
        go_enter Tryd.func53, Tryd.ntmps53
        go_upto_region 5 with (first
          | (go_at_call 77; refine (HCUT.out _).mono ?_; rintro e w1 ⟨rfl, hb1⟩; have R1 : w1.heap[w.heap.size]? = some (.cells #[.int .i64 0, .int .i64 0] 23 (0, 0)) := blk_call hb1 (by repeat (first | assumption | (with_reducible apply blk_set2) | (with_reducible apply blk_set1) | (with_reducible refine blk_far2 ?_ ?_; (first | omega | (simp; done) | (simp; omega))) | (with_reducible refine blk_far1 ?_ ?_; (first | omega | (simp; done) | (simp; omega))) | (with_reducible refine blk_new' _ _ ?_; (first | omega | (simp; done) | (simp; omega))) | (with_reducible refine blk_old ?_) | (with_reducible refine blk_drew ?_))); have B1 : Below w.heap.size w w1 := bl_call (by repeat (first | exact Below.refl _ _ | exact Nat.le_refl _ | refine Below.alloc ?_ ?_ _ | refine Below.setCell ?_ ?_ _ | refine Below.drew ?_ | refine bl_drewN ?_ _ | (assumption) | refine bl_call ?_ (by assumption) ?_ | omega | (simp <;> omega))) hb1 (by simp); clear hb1)
          | (go_at_call 78; refine (digits_yes _ _ hbl hb).mono ?_; rintro e w2 ⟨v, rfl, ho, hb2⟩; have R2 := blk_call hb2 R1; have B2 := bl_call B1 hb2 (by have := blk_lt R1; omega); have hoB := own_mono (B' := w.heap.size + 1) ho (by have := blk_lt R1; omega); obtain ⟨g, cap, rfl, hg, hg'⟩ := World.ownsRow.form hoB (by have := (partOK_len1 hb).1; omega); clear ho R1 B1 hb2)
          | fail)
        go_wp2_with fail
        refine (digits_yes _ _ hal HA.out).mono ?_
        rintro e w3 ⟨v, rfl, ho, hb3⟩
        have R3 := blk_call hb3 R2
        have B3 := bl_call B2 hb3 (by have := blk_lt R2; omega)
        have hoA := own_below hoB hb3
        obtain ⟨g2, cap2, rfl, hg2, hg2'⟩ := World.ownsRow.form ho (by omega)
        have hz3 := blk_lt R3
        clear R2 B2 hb3 hoB hg'
        go_upto_region 6 with (at_builtin; refine wpList_append_lies _ rfl _ _ 79 rfl (w.heap.size + 1) 3 i0 (.int .i64 0) 1 8 Tryd.underlying79 hi hz0 hz1 hz2 rfl (by decide) _ _ _ rfl hoA ⟨g2, 0, none⟩ a.length cap2 (dgs a) rfl (by simp [dgs]) (own_cells ho) (dgs_one a) (by omega) (by unfold maxLen; omega) (by omega) (by omega) w3.heap.size rfl ?_; intro g4 cap4 w4 hown' hgr hgg hglt)
        have hgr' : w3.grownBy w4 (some g) := hgr
        have R4 := (hgr'.block _ hz3 (fun h => by simp at h; omega)).trans R3
        have B4 : Below w.heap.size w w4 := Below.grown B3 hgr' (by omega) (fun j hj => by simp at hj; omega)
        rw [← dgs_app] at hown'
        have ho4 := hown'
        have hLn : (b ++ a).length = b.length + a.length := List.length_append
        have hLd : ∀ c ∈ b ++ a, 48 ≤ c.toNat ∧ c.toNat ≤ 51 := fun c hc => (List.mem_append.1 hc).elim (pb3 c) (pa3 c)
        have hLb : b.length + a.length ≤ b.length + 40 := by omega
        clear hown' hgr hgr' hgg hglt R3 B3 hz3 ho hoA HA pb3 pa3
        generalize b ++ a = L at *
        generalize hN : b.length + a.length = N at *
        obtain ⟨R, hR⟩ : ∃ R, (fl ((List.range 81).map GM.pt)).toArray = R := ⟨_, rfl⟩
        have HR := Lib.hid hR
        clear hR
        go_wp2_with (first
          | (go_at_call 47; refine (newPowers_any _).mono ?_; rintro e w5 ⟨rfl, hb5⟩; rw [HR.out]; have R5 := blk_call hb5 R4; have B5 := bl_call B4 hb5 (by have := blk_lt R4; omega); have ho5 := own_below ho4 hb5; clear R4 B4 ho4 hb5)
          | (refine wpList_store_pows rfl (.tmp 8) (.tmp 28) rfl rfl (by rw [HR.out]; rfl) ?_; intro w6 hp hb6 hs6; have R6 := blk_call hb6 R5; have B6 := bl_call B5 hb6 (by have := blk_lt R5; omega); have ho6 := own_below ho5 hb6; have hP := blk_lt R5; clear R5 B5 ho5 hb6; generalize w5.heap.size = P at hp hs6 hP ⊢)
          | fail)
        obtain ⟨O, hO⟩ : ∃ O, O = w6.heap.size := ⟨_, rfl⟩
        obtain ⟨w7, h7⟩ : ∃ w7, w7 = w6.alloc (.cells #[.int .i64 0, .int .i64 0] 23) := ⟨_, rfl⟩
        rw [← hO, ← h7]
        have R7 : w7.heap[w.heap.size]? = some (.cells #[.int .i64 0, .int .i64 0] 23 (0, 0)) := by rw [h7]; exact blk_old R6
        have O7 : w7.heap[O]? = some (.cells #[.int .i64 0, .int .i64 0] 23 (0, 0)) := by rw [h7, hO]; exact blk_new _ _
        have B7 : Below w.heap.size w w7 := by rw [h7]; exact B6.alloc (by have := blk_lt R6; omega) _
        have hp7 : Pows w7 P := by rw [h7]; exact blk_old hp
        have ho7 : w7.ownsRow (w.heap.size + 1) 3 1 (.slice (some ⟨g4, 0, none⟩) (N) cap4) (N) (dgs L) := by rw [h7]; exact ho6.alloc _
        have hGO : g4 ≠ O := by
          have := (ho6.lt g4 rfl).2
          omega
        have hOG : O ≠ g4 := hGO.symm
        have hPO : P ≠ O := by omega
        have hRO : w.heap.size ≠ O := by omega
        have hRO' : w.heap.size ≤ O := by omega
        clear h7 hO R6 B6 hp ho6 hs6 hP
        have HLD := Lib.hid hLd
        clear hLd
        go_loopw [31] (fun x wr => ∃ (k : Nat) (X Y : Int), x = .int .i64 k ∧ k ≤ N ∧ wr.heap[O]? = some (.cells #[.int .i64 X, .int .i64 Y] 23 (0, 0)) ∧ (-600000000 * (k : Int) ≤ X ∧ X ≤ 600000000 * (k : Int) ∧ -600000000 * (k : Int) ≤ Y ∧ Y ≤ 600000000 * (k : Int)) ∧ Hid (GM.add (X, Y) (GM.vl (b.length + 40 - k) (L.drop k)) = GM.vl (b.length + 40) L) ∧ Pows wr P ∧ wr.ownsRow (w.heap.size + 1) 3 1 (.slice (some ⟨g4, 0, none⟩) (N) cap4) (N) (dgs L) ∧ wr.heap[w.heap.size]? = some (.cells #[.int .i64 0, .int .i64 0] 23 (0, 0)) ∧ Below w.heap.size w wr) (fun x _ => N - (intOf x).toNat)
        case atStart => exact ⟨0, 0, 0, rfl, by omega, O7, by omega, Lib.hid (GM.zero_add _), hp7, ho7, R7, B7⟩
        case round =>
          obtain ⟨k, X, Y, rfl, l1, XO, ⟨x1, x2, x3, x4⟩, HS, hp, ho, R, B⟩ := hrel
          by_cases hk : k < N
          · obtain ⟨c, hc⟩ : ∃ c, L[k]? = some c := ⟨L[k], by simp [hLn, hk]⟩
            have hcd := HLD.out c (List.mem_of_getElem? hc)
            have c0 : wr.cell? ⟨g4, k, none⟩ = some (.int .i64 ((c.toNat : Int) - 48)) := (ho.cellAt k (by omega)).trans (dgs_get _ _ _ hc)
            have hstep := vl_step (b.length + 40) L k c hc
            obtain ⟨m, hm0⟩ : ∃ m, m = b.length + 40 - (k + 1) := ⟨_, rfl⟩
            rw [← hm0] at hstep
            have hm : m < 81 := by omega
            have hmk : 40 + ((b.length : Int) - 1 - k) = m := by omega
            have hq1 : -9000000000000000000 ≤ (b.length : Int) - 1 - k := by omega
            obtain ⟨D, hD⟩ : ∃ D : Int, (c.toNat : Int) - 48 = D := ⟨_, rfl⟩
            rw [hD] at c0 hstep
            have hD0 : 0 ≤ D := by omega
            have hD3 : D ≤ 3 := by omega
            have hof := fun wx h => of_any P ((b.length : Int) - 1 - k) m wx h hmk hm
            have hpb := pt_bd ⟨m, by omega⟩
            dsimp only at hpb
            obtain ⟨⟨px, py⟩, hpt⟩ : ∃ p, GM.pt m = p := ⟨_, rfl⟩
            rw [hpt] at hof hpb hstep
            dsimp only at hof hpb hstep
            obtain ⟨p1, p2, p3, p4⟩ := hpb
            obtain ⟨t1, t2⟩ := mul_bd (a := D) (b := px) (A := 3) (B := 200000000) (by omega) hD3 p1 p2
            obtain ⟨t3, t4⟩ := mul_bd (a := D) (b := py) (A := 3) (B := 200000000) (by omega) hD3 p3 p4
            have htm := fun wx => times_any px py D wx (by omega) (by omega) (by omega) (by omega)
            obtain ⟨tx, htx⟩ : ∃ tx, D * px = tx := ⟨_, rfl⟩
            obtain ⟨ty, hty⟩ : ∃ ty, D * py = ty := ⟨_, rfl⟩
            rw [htx] at t1 t2
            rw [hty] at t3 t4
            rw [htx, hty] at htm hstep
            have HM0 := Lib.hid hm0
            have HOF := Lib.hid hof
            have HTM := Lib.hid htm
            have HSTEP := Lib.hid hstep
            have HHP := Lib.hid hp
            have HHO := Lib.hid ho
            have HHR := Lib.hid R
            have hPs : P < wr.heap.size := blk_lt hp
            have hws : w.heap.size < wr.heap.size := blk_lt R
            clear hof htm hstep hpt htx hty hD hmk hc hm0 hcd hp ho R
            have pblk9 := XO
            clear XO
            go_upto_region 11 with fail
            have pblk9 : wr.heap[O]? = some (.cells #[.int .i64 X, .int .i64 Y] 23 (0, 0)) := by first | assumption | exact hblk9
            refine with_act fun a0 ha0 => ?_
            refine wp_region_inv (by kernel_rfl) (by kernel_rfl) (fun s a' w' => ∃ v36 v37 v38 v39 v40 v41 v42 v43 : Value, a' = putL a0 [(36, v36), (37, v37), (38, v38), (39, v39), (40, v40), (41, v41), (42, v42), (43, v43)] ∧ Hid ((s 0 = true → v36 = .agg #[.int .i64 X, .int .i64 Y]) ∧ (s 1 = true → v37 = .int .i64 ((b.length : Int) - 1)) ∧ (s 2 = true → v38 = .int .i64 k) ∧ (s 3 = true → v39 = .int .i64 ((b.length : Int) - 1 - k)) ∧ (s 4 = true → v40 = .agg #[.int .i64 px, .int .i64 py]) ∧ (s 5 = true → v41 = .int .i64 D) ∧ (s 6 = true → v42 = .agg #[.int .i64 tx, .int .i64 ty]) ∧ (s 7 = true → v43 = .agg #[.int .i64 (X + tx), .int .i64 (Y + ty)]) ∧ True) ∧ BelX [O] wr w' ∧ (∃ (c0 c1 : Value), w'.heap[O]? = some (.cells #[c0, c1] 23 (0, 0)) ∧ (s 8 = true → c0 = .int .i64 (X + tx) ∧ c1 = .int .i64 (Y + ty)) ∧ (s 8 = false → c0 = .int .i64 X ∧ c1 = .int .i64 Y)) ∧ (s 8 = true → s 0 = true ∧ s 1 = true ∧ s 2 = true ∧ s 3 = true ∧ s 4 = true ∧ s 5 = true ∧ s 6 = true ∧ s 7 = true ∧ True) ∧ True) ?x2hzero ⟨?x2hs0, ?x2hs1, ?x2hs2, ?x2hs3, ?x2hs4, ?x2hs5, ?x2hs6, ?x2hs7, ?x2hs8, trivial⟩ ?x2hdone
            case x2hzero =>
              refine ⟨a0.tmps.getD 36 undef, a0.tmps.getD 37 undef, a0.tmps.getD 38 undef, a0.tmps.getD 39 undef, a0.tmps.getD 40 undef, a0.tmps.getD 41 undef, a0.tmps.getD 42 undef, a0.tmps.getD 43 undef, ?_, ?_, ?_, ?_, ?_, trivial⟩
              · simp only [putL, put_self]
              · exact Lib.hid ⟨fun h => (by simp at h), fun h => (by simp at h), fun h => (by simp at h), fun h => (by simp at h), fun h => (by simp at h), fun h => (by simp at h), fun h => (by simp at h), fun h => (by simp at h), trivial⟩
              · exact BelX.start _ _
              · exact ⟨.int .i64 X, .int .i64 Y, pblk9, fun h => (by simp at h), fun _ => ⟨rfl, rfl⟩⟩
              · exact fun h => (by simp at h)
            case x2hs0 =>
              intro s a' w' hsk hdep hI K hK
              try dsimp only at hI hK
              obtain ⟨v36, v37, v38, v39, v40, v41, v42, v43, hact, hR, hX, hP9, hQ9, _⟩ := hI
              subst hact
              have HK := Lib.hid hK
              clear hK
              have kx0 := (show Pows w' P from (hX.block P hPs (by simp <;> omega)).trans HHP.out)
              obtain ⟨b9_0, b9_1, pb9, pt9, pf9⟩ := hP9
              have hs0 : s 8 = false := Bool.eq_false_iff.2 fun h => (by have := hQ9 h; simp [hsk] at this)
              obtain ⟨q9_0, q9_1⟩ := pf9 hs0
              subst q9_0
              subst q9_1
              clear hs0
              have kp9_0 := cell_of_row w' (O) 0 _ _ _ pb9
              have kp9_1 := cell_of_row w' (O) 1 _ _ _ pb9
              simp only [List.getElem?_toArray, List.getElem?_cons_zero, List.getElem?_cons_succ] at kp9_0 kp9_1
              have kq9 : ∀ o, w'.frozen? ⟨O, o, none⟩ = false := fun o => frozen_of_row w' _ o _ _ pb9
              have hPB9 := Lib.hid pb9
              clear pb9
              have hPT9 := Lib.hid pt9
              clear pt9
              have hPF9 := Lib.hid pf9
              clear pf9
              clear hdep
              refine StepG.mk rfl ?_; rw [ha0]; simp only [putL, Act.put, List.setIfInBounds_toArray, List.set_cons_zero, List.set_cons_succ]
              go_wp2_with fail
              refine HK.out _ _ ?_
              refine ⟨(.agg #[.int .i64 X, .int .i64 Y]), v37, v38, v39, v40, v41, v42, v43, (by rw [ha0]; simp only [putL, Act.put, List.setIfInBounds_toArray, List.set_cons_zero, List.set_cons_succ]), ?_, ?_, ?_, ?_, trivial⟩
              · obtain ⟨h36, h37, h38, h39, h40, h41, h42, h43, _⟩ := hR.out
                exact Lib.hid ⟨fun _ => rfl, fun h => h37 (by simpa using h), fun h => h38 (by simpa using h), fun h => h39 (by simpa using h), fun h => h40 (by simpa using h), fun h => h41 (by simpa using h), fun h => h42 (by simpa using h), fun h => h43 (by simpa using h), trivial⟩
              · exact hX
              · exact ⟨_, _, hPB9.out, fun h => hPT9.out (by simpa using h), fun h => ⟨rfl, rfl⟩⟩
              · exact fun h => (by have h1 := hQ9 (by simpa using h); simp [h1])
            case x2hs1 =>
              intro s a' w' hsk hdep hI K hK
              try dsimp only at hI hK
              obtain ⟨v36, v37, v38, v39, v40, v41, v42, v43, hact, hR, hX, hP9, hQ9, _⟩ := hI
              subst hact
              have HK := Lib.hid hK
              clear hK
              have kx0 := (show Pows w' P from (hX.block P hPs (by simp <;> omega)).trans HHP.out)
              obtain ⟨b9_0, b9_1, pb9, pt9, pf9⟩ := hP9
              have hs0 : s 8 = false := Bool.eq_false_iff.2 fun h => (by have := hQ9 h; simp [hsk] at this)
              obtain ⟨q9_0, q9_1⟩ := pf9 hs0
              subst q9_0
              subst q9_1
              clear hs0
              have kp9_0 := cell_of_row w' (O) 0 _ _ _ pb9
              have kp9_1 := cell_of_row w' (O) 1 _ _ _ pb9
              simp only [List.getElem?_toArray, List.getElem?_cons_zero, List.getElem?_cons_succ] at kp9_0 kp9_1
              have kq9 : ∀ o, w'.frozen? ⟨O, o, none⟩ = false := fun o => frozen_of_row w' _ o _ _ pb9
              have hPB9 := Lib.hid pb9
              clear pb9
              have hPT9 := Lib.hid pt9
              clear pt9
              have hPF9 := Lib.hid pf9
              clear pf9
              clear hdep
              refine StepG.mk rfl ?_; rw [ha0]; simp only [putL, Act.put, List.setIfInBounds_toArray, List.set_cons_zero, List.set_cons_succ]
              go_wp2_with fail
              refine HK.out _ _ ?_
              refine ⟨v36, (.int .i64 ((b.length : Int) - 1)), v38, v39, v40, v41, v42, v43, (by rw [ha0]; simp only [putL, Act.put, List.setIfInBounds_toArray, List.set_cons_zero, List.set_cons_succ]), ?_, ?_, ?_, ?_, trivial⟩
              · obtain ⟨h36, h37, h38, h39, h40, h41, h42, h43, _⟩ := hR.out
                exact Lib.hid ⟨fun h => h36 (by simpa using h), fun _ => rfl, fun h => h38 (by simpa using h), fun h => h39 (by simpa using h), fun h => h40 (by simpa using h), fun h => h41 (by simpa using h), fun h => h42 (by simpa using h), fun h => h43 (by simpa using h), trivial⟩
              · exact hX
              · exact ⟨_, _, hPB9.out, fun h => hPT9.out (by simpa using h), fun h => ⟨rfl, rfl⟩⟩
              · exact fun h => (by have h1 := hQ9 (by simpa using h); simp [h1])
            case x2hs2 =>
              intro s a' w' hsk hdep hI K hK
              try dsimp only at hI hK
              obtain ⟨v36, v37, v38, v39, v40, v41, v42, v43, hact, hR, hX, hP9, hQ9, _⟩ := hI
              subst hact
              have HK := Lib.hid hK
              clear hK
              have kx0 := (show Pows w' P from (hX.block P hPs (by simp <;> omega)).trans HHP.out)
              obtain ⟨b9_0, b9_1, pb9, pt9, pf9⟩ := hP9
              have hs0 : s 8 = false := Bool.eq_false_iff.2 fun h => (by have := hQ9 h; simp [hsk] at this)
              obtain ⟨q9_0, q9_1⟩ := pf9 hs0
              subst q9_0
              subst q9_1
              clear hs0
              have kp9_0 := cell_of_row w' (O) 0 _ _ _ pb9
              have kp9_1 := cell_of_row w' (O) 1 _ _ _ pb9
              simp only [List.getElem?_toArray, List.getElem?_cons_zero, List.getElem?_cons_succ] at kp9_0 kp9_1
              have kq9 : ∀ o, w'.frozen? ⟨O, o, none⟩ = false := fun o => frozen_of_row w' _ o _ _ pb9
              have hPB9 := Lib.hid pb9
              clear pb9
              have hPT9 := Lib.hid pt9
              clear pt9
              have hPF9 := Lib.hid pf9
              clear pf9
              clear hdep
              refine StepG.mk rfl ?_; rw [ha0]; simp only [putL, Act.put, List.setIfInBounds_toArray, List.set_cons_zero, List.set_cons_succ]
              go_wp2_with fail
              refine HK.out _ _ ?_
              refine ⟨v36, v37, (.int .i64 k), v39, v40, v41, v42, v43, (by rw [ha0]; simp only [putL, Act.put, List.setIfInBounds_toArray, List.set_cons_zero, List.set_cons_succ]), ?_, ?_, ?_, ?_, trivial⟩
              · obtain ⟨h36, h37, h38, h39, h40, h41, h42, h43, _⟩ := hR.out
                exact Lib.hid ⟨fun h => h36 (by simpa using h), fun h => h37 (by simpa using h), fun _ => rfl, fun h => h39 (by simpa using h), fun h => h40 (by simpa using h), fun h => h41 (by simpa using h), fun h => h42 (by simpa using h), fun h => h43 (by simpa using h), trivial⟩
              · exact hX
              · exact ⟨_, _, hPB9.out, fun h => hPT9.out (by simpa using h), fun h => ⟨rfl, rfl⟩⟩
              · exact fun h => (by have h1 := hQ9 (by simpa using h); simp [h1])
            case x2hs3 =>
              intro s a' w' hsk hdep hI K hK
              try dsimp only at hI hK
              obtain ⟨v36, v37, v38, v39, v40, v41, v42, v43, hact, hR, hX, hP9, hQ9, _⟩ := hI
              subst hact
              have HK := Lib.hid hK
              clear hK
              have e37 : v37 = .int .i64 ((b.length : Int) - 1) := by obtain ⟨h36, h37, h38, h39, h40, h41, h42, h43, _⟩ := hR.out; exact h37 (hdep ⟨1, .data⟩ (by simp) rfl)
              subst e37
              have e38 : v38 = .int .i64 k := by obtain ⟨h36, h37, h38, h39, h40, h41, h42, h43, _⟩ := hR.out; exact h38 (hdep ⟨2, .data⟩ (by simp) rfl)
              subst e38
              have kx0 := (show Pows w' P from (hX.block P hPs (by simp <;> omega)).trans HHP.out)
              obtain ⟨b9_0, b9_1, pb9, pt9, pf9⟩ := hP9
              have hs0 : s 8 = false := Bool.eq_false_iff.2 fun h => (by have := hQ9 h; simp [hsk] at this)
              obtain ⟨q9_0, q9_1⟩ := pf9 hs0
              subst q9_0
              subst q9_1
              clear hs0
              have kp9_0 := cell_of_row w' (O) 0 _ _ _ pb9
              have kp9_1 := cell_of_row w' (O) 1 _ _ _ pb9
              simp only [List.getElem?_toArray, List.getElem?_cons_zero, List.getElem?_cons_succ] at kp9_0 kp9_1
              have kq9 : ∀ o, w'.frozen? ⟨O, o, none⟩ = false := fun o => frozen_of_row w' _ o _ _ pb9
              have hPB9 := Lib.hid pb9
              clear pb9
              have hPT9 := Lib.hid pt9
              clear pt9
              have hPF9 := Lib.hid pf9
              clear pf9
              clear hdep
              refine StepG.mk rfl ?_; rw [ha0]; simp only [putL, Act.put, List.setIfInBounds_toArray, List.set_cons_zero, List.set_cons_succ]
              go_wp2_with fail
              refine HK.out _ _ ?_
              refine ⟨v36, (.int .i64 ((b.length : Int) - 1)), (.int .i64 k), (.int .i64 ((b.length : Int) - 1 - k)), v40, v41, v42, v43, (by rw [ha0]; simp only [putL, Act.put, List.setIfInBounds_toArray, List.set_cons_zero, List.set_cons_succ]), ?_, ?_, ?_, ?_, trivial⟩
              · obtain ⟨h36, h37, h38, h39, h40, h41, h42, h43, _⟩ := hR.out
                exact Lib.hid ⟨fun h => h36 (by simpa using h), fun _ => rfl, fun _ => rfl, fun _ => rfl, fun h => h40 (by simpa using h), fun h => h41 (by simpa using h), fun h => h42 (by simpa using h), fun h => h43 (by simpa using h), trivial⟩
              · exact hX
              · exact ⟨_, _, hPB9.out, fun h => hPT9.out (by simpa using h), fun h => ⟨rfl, rfl⟩⟩
              · exact fun h => (by have h1 := hQ9 (by simpa using h); simp [h1])
            case x2hs4 =>
              intro s a' w' hsk hdep hI K hK
              try dsimp only at hI hK
              obtain ⟨v36, v37, v38, v39, v40, v41, v42, v43, hact, hR, hX, hP9, hQ9, _⟩ := hI
              subst hact
              have HK := Lib.hid hK
              clear hK
              have e39 : v39 = .int .i64 ((b.length : Int) - 1 - k) := by obtain ⟨h36, h37, h38, h39, h40, h41, h42, h43, _⟩ := hR.out; exact h39 (hdep ⟨3, .data⟩ (by simp) rfl)
              subst e39
              have kx0 := (show Pows w' P from (hX.block P hPs (by simp <;> omega)).trans HHP.out)
              obtain ⟨b9_0, b9_1, pb9, pt9, pf9⟩ := hP9
              have hs0 : s 8 = false := Bool.eq_false_iff.2 fun h => (by have := hQ9 h; simp [hsk] at this)
              obtain ⟨q9_0, q9_1⟩ := pf9 hs0
              subst q9_0
              subst q9_1
              clear hs0
              have kp9_0 := cell_of_row w' (O) 0 _ _ _ pb9
              have kp9_1 := cell_of_row w' (O) 1 _ _ _ pb9
              simp only [List.getElem?_toArray, List.getElem?_cons_zero, List.getElem?_cons_succ] at kp9_0 kp9_1
              have kq9 : ∀ o, w'.frozen? ⟨O, o, none⟩ = false := fun o => frozen_of_row w' _ o _ _ pb9
              have hPB9 := Lib.hid pb9
              clear pb9
              have hPT9 := Lib.hid pt9
              clear pt9
              have hPF9 := Lib.hid pf9
              clear pf9
              clear hdep
              refine StepG.mk rfl ?_; rw [ha0]; simp only [putL, Act.put, List.setIfInBounds_toArray, List.set_cons_zero, List.set_cons_succ]
              go_wp2_with fail
              refine ((HOF.out _ kx0)).mono ?_
              rintro e wn ⟨rfl, hb⟩
              go_wp2_with fail
              refine HK.out _ _ ?_
              refine ⟨v36, v37, v38, (.int .i64 ((b.length : Int) - 1 - k)), (.agg #[.int .i64 px, .int .i64 py]), v41, v42, v43, (by rw [ha0]; simp only [putL, Act.put, List.setIfInBounds_toArray, List.set_cons_zero, List.set_cons_succ]), ?_, ?_, ?_, ?_, trivial⟩
              · obtain ⟨h36, h37, h38, h39, h40, h41, h42, h43, _⟩ := hR.out
                exact Lib.hid ⟨fun h => h36 (by simpa using h), fun h => h37 (by simpa using h), fun h => h38 (by simpa using h), fun _ => rfl, fun _ => rfl, fun h => h41 (by simpa using h), fun h => h42 (by simpa using h), fun h => h43 (by simpa using h), trivial⟩
              · exact hX.call hb
              · exact ⟨_, _, (hb.block _ (blk_lt hPB9.out)).trans hPB9.out, fun h => hPT9.out (by simpa using h), fun h => ⟨rfl, rfl⟩⟩
              · exact fun h => (by have h1 := hQ9 (by simpa using h); simp [h1])
            case x2hs5 =>
              intro s a' w' hsk hdep hI K hK
              try dsimp only at hI hK
              obtain ⟨v36, v37, v38, v39, v40, v41, v42, v43, hact, hR, hX, hP9, hQ9, _⟩ := hI
              subst hact
              have HK := Lib.hid hK
              clear hK
              have kx0 := (show Pows w' P from (hX.block P hPs (by simp <;> omega)).trans HHP.out)
              obtain ⟨b9_0, b9_1, pb9, pt9, pf9⟩ := hP9
              have hs0 : s 8 = false := Bool.eq_false_iff.2 fun h => (by have := hQ9 h; simp [hsk] at this)
              obtain ⟨q9_0, q9_1⟩ := pf9 hs0
              subst q9_0
              subst q9_1
              clear hs0
              have kp9_0 := cell_of_row w' (O) 0 _ _ _ pb9
              have kp9_1 := cell_of_row w' (O) 1 _ _ _ pb9
              simp only [List.getElem?_toArray, List.getElem?_cons_zero, List.getElem?_cons_succ] at kp9_0 kp9_1
              have kq9 : ∀ o, w'.frozen? ⟨O, o, none⟩ = false := fun o => frozen_of_row w' _ o _ _ pb9
              have hPB9 := Lib.hid pb9
              clear pb9
              have hPT9 := Lib.hid pt9
              clear pt9
              have hPF9 := Lib.hid pf9
              clear pf9
              clear hdep
              refine StepG.mk rfl ?_; rw [ha0]; simp only [putL, Act.put, List.setIfInBounds_toArray, List.set_cons_zero, List.set_cons_succ]
              go_wp2_with fail
              refine HK.out _ _ ?_
              refine ⟨v36, v37, v38, v39, v40, (.int .i64 D), v42, v43, (by rw [ha0]; simp only [putL, Act.put, List.setIfInBounds_toArray, List.set_cons_zero, List.set_cons_succ]), ?_, ?_, ?_, ?_, trivial⟩
              · obtain ⟨h36, h37, h38, h39, h40, h41, h42, h43, _⟩ := hR.out
                exact Lib.hid ⟨fun h => h36 (by simpa using h), fun h => h37 (by simpa using h), fun h => h38 (by simpa using h), fun h => h39 (by simpa using h), fun h => h40 (by simpa using h), fun _ => rfl, fun h => h42 (by simpa using h), fun h => h43 (by simpa using h), trivial⟩
              · exact hX
              · exact ⟨_, _, hPB9.out, fun h => hPT9.out (by simpa using h), fun h => ⟨rfl, rfl⟩⟩
              · exact fun h => (by have h1 := hQ9 (by simpa using h); simp [h1])
            case x2hs6 =>
              intro s a' w' hsk hdep hI K hK
              try dsimp only at hI hK
              obtain ⟨v36, v37, v38, v39, v40, v41, v42, v43, hact, hR, hX, hP9, hQ9, _⟩ := hI
              subst hact
              have HK := Lib.hid hK
              clear hK
              have e40 : v40 = .agg #[.int .i64 px, .int .i64 py] := by obtain ⟨h36, h37, h38, h39, h40, h41, h42, h43, _⟩ := hR.out; exact h40 (hdep ⟨4, .data⟩ (by simp) rfl)
              subst e40
              have e41 : v41 = .int .i64 D := by obtain ⟨h36, h37, h38, h39, h40, h41, h42, h43, _⟩ := hR.out; exact h41 (hdep ⟨5, .data⟩ (by simp) rfl)
              subst e41
              have kx0 := (show Pows w' P from (hX.block P hPs (by simp <;> omega)).trans HHP.out)
              obtain ⟨b9_0, b9_1, pb9, pt9, pf9⟩ := hP9
              have hs0 : s 8 = false := Bool.eq_false_iff.2 fun h => (by have := hQ9 h; simp [hsk] at this)
              obtain ⟨q9_0, q9_1⟩ := pf9 hs0
              subst q9_0
              subst q9_1
              clear hs0
              have kp9_0 := cell_of_row w' (O) 0 _ _ _ pb9
              have kp9_1 := cell_of_row w' (O) 1 _ _ _ pb9
              simp only [List.getElem?_toArray, List.getElem?_cons_zero, List.getElem?_cons_succ] at kp9_0 kp9_1
              have kq9 : ∀ o, w'.frozen? ⟨O, o, none⟩ = false := fun o => frozen_of_row w' _ o _ _ pb9
              have hPB9 := Lib.hid pb9
              clear pb9
              have hPT9 := Lib.hid pt9
              clear pt9
              have hPF9 := Lib.hid pf9
              clear pf9
              clear hdep
              refine StepG.mk rfl ?_; rw [ha0]; simp only [putL, Act.put, List.setIfInBounds_toArray, List.set_cons_zero, List.set_cons_succ]
              go_wp2_with fail
              refine ((HTM.out _)).mono ?_
              rintro e wn ⟨rfl, hb⟩
              go_wp2_with fail
              refine HK.out _ _ ?_
              refine ⟨v36, v37, v38, v39, (.agg #[.int .i64 px, .int .i64 py]), (.int .i64 D), (.agg #[.int .i64 tx, .int .i64 ty]), v43, (by rw [ha0]; simp only [putL, Act.put, List.setIfInBounds_toArray, List.set_cons_zero, List.set_cons_succ]), ?_, ?_, ?_, ?_, trivial⟩
              · obtain ⟨h36, h37, h38, h39, h40, h41, h42, h43, _⟩ := hR.out
                exact Lib.hid ⟨fun h => h36 (by simpa using h), fun h => h37 (by simpa using h), fun h => h38 (by simpa using h), fun h => h39 (by simpa using h), fun _ => rfl, fun _ => rfl, fun _ => rfl, fun h => h43 (by simpa using h), trivial⟩
              · exact hX.call hb
              · exact ⟨_, _, (hb.block _ (blk_lt hPB9.out)).trans hPB9.out, fun h => hPT9.out (by simpa using h), fun h => ⟨rfl, rfl⟩⟩
              · exact fun h => (by have h1 := hQ9 (by simpa using h); simp [h1])
            case x2hs7 =>
              intro s a' w' hsk hdep hI K hK
              try dsimp only at hI hK
              obtain ⟨v36, v37, v38, v39, v40, v41, v42, v43, hact, hR, hX, hP9, hQ9, _⟩ := hI
              subst hact
              have HK := Lib.hid hK
              clear hK
              have e36 : v36 = .agg #[.int .i64 X, .int .i64 Y] := by obtain ⟨h36, h37, h38, h39, h40, h41, h42, h43, _⟩ := hR.out; exact h36 (hdep ⟨0, .data⟩ (by simp) rfl)
              subst e36
              have e42 : v42 = .agg #[.int .i64 tx, .int .i64 ty] := by obtain ⟨h36, h37, h38, h39, h40, h41, h42, h43, _⟩ := hR.out; exact h42 (hdep ⟨6, .data⟩ (by simp) rfl)
              subst e42
              have kx0 := (show Pows w' P from (hX.block P hPs (by simp <;> omega)).trans HHP.out)
              obtain ⟨b9_0, b9_1, pb9, pt9, pf9⟩ := hP9
              have hs0 : s 8 = false := Bool.eq_false_iff.2 fun h => (by have := hQ9 h; simp [hsk] at this)
              obtain ⟨q9_0, q9_1⟩ := pf9 hs0
              subst q9_0
              subst q9_1
              clear hs0
              have kp9_0 := cell_of_row w' (O) 0 _ _ _ pb9
              have kp9_1 := cell_of_row w' (O) 1 _ _ _ pb9
              simp only [List.getElem?_toArray, List.getElem?_cons_zero, List.getElem?_cons_succ] at kp9_0 kp9_1
              have kq9 : ∀ o, w'.frozen? ⟨O, o, none⟩ = false := fun o => frozen_of_row w' _ o _ _ pb9
              have hPB9 := Lib.hid pb9
              clear pb9
              have hPT9 := Lib.hid pt9
              clear pt9
              have hPF9 := Lib.hid pf9
              clear pf9
              clear hdep
              refine StepG.mk rfl ?_; rw [ha0]; simp only [putL, Act.put, List.setIfInBounds_toArray, List.set_cons_zero, List.set_cons_succ]
              go_wp2_with fail
              refine ((plus_any _ _ _ _ _ (by omega) (by omega) (by omega) (by omega))).mono ?_
              rintro e wn ⟨rfl, hb⟩
              go_wp2_with fail
              refine HK.out _ _ ?_
              refine ⟨(.agg #[.int .i64 X, .int .i64 Y]), v37, v38, v39, v40, v41, (.agg #[.int .i64 tx, .int .i64 ty]), (.agg #[.int .i64 (X + tx), .int .i64 (Y + ty)]), (by rw [ha0]; simp only [putL, Act.put, List.setIfInBounds_toArray, List.set_cons_zero, List.set_cons_succ]), ?_, ?_, ?_, ?_, trivial⟩
              · obtain ⟨h36, h37, h38, h39, h40, h41, h42, h43, _⟩ := hR.out
                exact Lib.hid ⟨fun _ => rfl, fun h => h37 (by simpa using h), fun h => h38 (by simpa using h), fun h => h39 (by simpa using h), fun h => h40 (by simpa using h), fun h => h41 (by simpa using h), fun _ => rfl, fun _ => rfl, trivial⟩
              · exact hX.call hb
              · exact ⟨_, _, (hb.block _ (blk_lt hPB9.out)).trans hPB9.out, fun h => hPT9.out (by simpa using h), fun h => ⟨rfl, rfl⟩⟩
              · exact fun h => (by have h1 := hQ9 (by simpa using h); simp [h1])
            case x2hs8 =>
              intro s a' w' hsk hdep hI K hK
              try dsimp only at hI hK
              obtain ⟨v36, v37, v38, v39, v40, v41, v42, v43, hact, hR, hX, hP9, hQ9, _⟩ := hI
              subst hact
              have HK := Lib.hid hK
              clear hK
              have e43 : v43 = .agg #[.int .i64 (X + tx), .int .i64 (Y + ty)] := by obtain ⟨h36, h37, h38, h39, h40, h41, h42, h43, _⟩ := hR.out; exact h43 (hdep ⟨7, .data⟩ (by simp) rfl)
              subst e43
              have kx0 := (show Pows w' P from (hX.block P hPs (by simp <;> omega)).trans HHP.out)
              obtain ⟨b9_0, b9_1, pb9, pt9, pf9⟩ := hP9
              have hs0 : s 8 = false := hsk
              obtain ⟨q9_0, q9_1⟩ := pf9 hs0
              subst q9_0
              subst q9_1
              clear hs0
              have kp9_0 := cell_of_row w' (O) 0 _ _ _ pb9
              have kp9_1 := cell_of_row w' (O) 1 _ _ _ pb9
              simp only [List.getElem?_toArray, List.getElem?_cons_zero, List.getElem?_cons_succ] at kp9_0 kp9_1
              have kq9 : ∀ o, w'.frozen? ⟨O, o, none⟩ = false := fun o => frozen_of_row w' _ o _ _ pb9
              have hPB9 := Lib.hid pb9
              clear pb9
              have hPT9 := Lib.hid pt9
              clear pt9
              have hPF9 := Lib.hid pf9
              clear pf9
              have hd0 : s 0 = true := hdep ⟨0, .phase⟩ (by simp) rfl
              have hd1 : s 1 = true := hdep ⟨1, .phase⟩ (by simp) rfl
              have hd2 : s 2 = true := hdep ⟨2, .phase⟩ (by simp) rfl
              have hd3 : s 3 = true := hdep ⟨3, .phase⟩ (by simp) rfl
              have hd4 : s 4 = true := hdep ⟨4, .phase⟩ (by simp) rfl
              have hd5 : s 5 = true := hdep ⟨5, .phase⟩ (by simp) rfl
              have hd6 : s 6 = true := hdep ⟨6, .phase⟩ (by simp) rfl
              have hd7 : s 7 = true := hdep ⟨7, .data⟩ (by simp) rfl
              clear hdep
              refine StepG.mk rfl ?_; rw [ha0]; simp only [putL, Act.put, List.setIfInBounds_toArray, List.set_cons_zero, List.set_cons_succ]
              go_wp2_with fail
              refine HK.out _ _ ?_
              refine ⟨v36, v37, v38, v39, v40, v41, v42, (.agg #[.int .i64 (X + tx), .int .i64 (Y + ty)]), (by rw [ha0]; simp only [putL, Act.put, List.setIfInBounds_toArray, List.set_cons_zero, List.set_cons_succ]), ?_, ?_, ?_, ?_, trivial⟩
              · obtain ⟨h36, h37, h38, h39, h40, h41, h42, h43, _⟩ := hR.out
                exact Lib.hid ⟨fun h => h36 (by simpa using h), fun h => h37 (by simpa using h), fun h => h38 (by simpa using h), fun h => h39 (by simpa using h), fun h => h40 (by simpa using h), fun h => h41 (by simpa using h), fun h => h42 (by simpa using h), fun _ => rfl, trivial⟩
              · exact ((hX.setOld (p := ⟨O, 0, none⟩) (by simp) _).setOld (p := ⟨O, 1, none⟩) (by simp) _)
              · exact ⟨_, _, blk_set2 hPB9.out, fun _ => ⟨rfl, rfl⟩, fun h => (by simp at h)⟩
              · exact fun _ => (by simp [hd0, hd1, hd2, hd3, hd4, hd5, hd6, hd7])
            intro s a' w8 hall hI
            try dsimp only at hI
            obtain ⟨v36, v37, v38, v39, v40, v41, v42, v43, hact, hR, hXR, hP9, hQ9, _⟩ := hI
            subst hact
            obtain ⟨h36, h37, h38, h39, h40, h41, h42, h43, _⟩ := hR.out
            clear hR
            have e36 := h36 (hall 0 (by decide))
            subst e36
            clear h36
            have e37 := h37 (hall 1 (by decide))
            subst e37
            clear h37
            have e38 := h38 (hall 2 (by decide))
            subst e38
            clear h38
            have e39 := h39 (hall 3 (by decide))
            subst e39
            clear h39
            have e40 := h40 (hall 4 (by decide))
            subst e40
            clear h40
            have e41 := h41 (hall 5 (by decide))
            subst e41
            clear h41
            have e42 := h42 (hall 6 (by decide))
            subst e42
            clear h42
            have e43 := h43 (hall 7 (by decide))
            subst e43
            clear h43
            obtain ⟨c0, c1, pblkR9, hpt, _⟩ := hP9
            clear hQ9
            obtain ⟨es0, es1⟩ := hpt (hall 8 (by decide))
            subst es0
            subst es1
            clear hpt
            try clear pblk9
            have pblk9 := pblkR9
            clear pblkR9
            clear hall
            rw [ha0]; simp only [putL, Act.put, List.setIfInBounds_toArray, List.set_cons_zero, List.set_cons_succ]
            clear ha0
            have B8 : Below w.heap.size w w8 := hXR.below (by first | assumption | exact (by repeat (first | exact Below.refl _ _ | exact Nat.le_refl _ | refine Below.alloc ?_ ?_ _ | refine Below.setCell ?_ ?_ _ | refine Below.drew ?_ | refine bl_drewN ?_ _ | (assumption) | refine bl_call ?_ (by assumption) ?_ | omega | (simp <;> omega)))) (by first | omega | (simp <;> omega)) (by simp <;> omega)
            have hp8 : Pows w8 P := (hXR.block P hPs (by simp <;> omega)).trans HHP.out
            have ho8 := own_belX HHO.out hXR (by simp <;> omega)
            have R8 := (hXR.block _ (blk_lt HHR.out) (by simp <;> omega)).trans HHR.out
            clear hXR
            go_wp2_with fail
            go_roundw
            case rel =>
              refine ⟨k + 1, X + tx, Y + ty, by simp, by omega, pblk9, by omega, Lib.hid ?_, hp8, ho8, R8, B8⟩
              rw [← HS.out, HSTEP.out, ← HM0.out, ← GM.add_assoc]
              rfl
            case measure => simp [intOf]; omega
          · obtain rfl : k = N := by omega
            have hfin : GM.vl (b.length + 40) L = (X, Y) := by
              rw [← HS.out, List.drop_of_length_le (by omega)]
              exact GM.add_zero _
            have HF := Lib.hid (HVV.out.trans hfin)
            have c0 := row2_0 XO
            have c1 := row2_1 XO
            have d0 := row2_0 R
            have d1 := row2_1 R
            have f1 := row_f R
            clear hfin XO R
            go_wp2_with fail
            exact bodyPost_ret (v := .agg #[.int .i64 X, .int .i64 Y]) (by simp [results, Tryd.results53, go_sem, *]) rfl ⟨.inl ⟨HTT.out, by rw [HF.out]⟩, (by repeat (first | exact Below.refl _ _ | exact Nat.le_refl _ | refine Below.alloc ?_ ?_ _ | refine Below.setCell ?_ ?_ _ | refine Below.drew ?_ | refine bl_drewN ?_ _ | (assumption) | refine bl_call ?_ (by assumption) ?_ | omega | (simp <;> omega)))⟩
      · have ha' : partOK a = false := by simpa using ha
        have HTT := Lib.hid (show textOK l = false by rw [HT.out, hb, ha']; rfl)
        have HA := Lib.hid ha'
        clear HT HV ha ha'
        go_enter Tryd.func53, Tryd.ntmps53
        go_upto_region 5 with (first
          | (go_at_call 77; refine (HCUT.out _).mono ?_; rintro e w1 ⟨rfl, hb1⟩; have R1 : w1.heap[w.heap.size]? = some (.cells #[.int .i64 0, .int .i64 0] 23 (0, 0)) := blk_call hb1 (by repeat (first | assumption | (with_reducible apply blk_set2) | (with_reducible apply blk_set1) | (with_reducible refine blk_far2 ?_ ?_; (first | omega | (simp; done) | (simp; omega))) | (with_reducible refine blk_far1 ?_ ?_; (first | omega | (simp; done) | (simp; omega))) | (with_reducible refine blk_new' _ _ ?_; (first | omega | (simp; done) | (simp; omega))) | (with_reducible refine blk_old ?_) | (with_reducible refine blk_drew ?_))); have B1 : Below w.heap.size w w1 := bl_call (by repeat (first | exact Below.refl _ _ | exact Nat.le_refl _ | refine Below.alloc ?_ ?_ _ | refine Below.setCell ?_ ?_ _ | refine Below.drew ?_ | refine bl_drewN ?_ _ | (assumption) | refine bl_call ?_ (by assumption) ?_ | omega | (simp <;> omega))) hb1 (by simp); clear hb1)
          | (go_at_call 78; refine (digits_yes _ _ hbl hb).mono ?_; rintro e w2 ⟨v, rfl, ho, hb2⟩; have B2 := bl_call B1 hb2 (by have := blk_lt R1; omega); obtain ⟨g, cap, rfl, hg, hg'⟩ := World.ownsRow.form ho (by have := (partOK_len1 hb).1; omega); clear ho R1 B1 hb2)
          | fail)
        go_wp2_with fail
        refine (digits_no _ _ hal HA.out).mono ?_
        rintro e w3 ⟨rfl, hb3⟩
        go_wp2_with fail
        exact ⟨rfl, .inr ⟨HTT.out, rfl⟩, bl_call B2 hb3 B2.size⟩
  · have hb' : partOK b = false := by simpa using hb
    have HTT := Lib.hid (show textOK l = false by rw [HT.out, hb']; rfl)
    have HBB := Lib.hid hb'
    clear HT HV hb hb'
    go_enter Tryd.func53, Tryd.ntmps53
    go_wp2_with (first
      | (go_at_call 77; refine (HCUT.out _).mono ?_; rintro e w1 ⟨rfl, hb1⟩; have R1 : w1.heap[w.heap.size]? = some (.cells #[.int .i64 0, .int .i64 0] 23 (0, 0)) := blk_call hb1 (by repeat (first | assumption | (with_reducible apply blk_set2) | (with_reducible apply blk_set1) | (with_reducible refine blk_far2 ?_ ?_; (first | omega | (simp; done) | (simp; omega))) | (with_reducible refine blk_far1 ?_ ?_; (first | omega | (simp; done) | (simp; omega))) | (with_reducible refine blk_new' _ _ ?_; (first | omega | (simp; done) | (simp; omega))) | (with_reducible refine blk_old ?_) | (with_reducible refine blk_drew ?_))); have B1 : Below w.heap.size w w1 := bl_call (by repeat (first | exact Below.refl _ _ | exact Nat.le_refl _ | refine Below.alloc ?_ ?_ _ | refine Below.setCell ?_ ?_ _ | refine Below.drew ?_ | refine bl_drewN ?_ _ | (assumption) | refine bl_call ?_ (by assumption) ?_ | omega | (simp <;> omega))) hb1 (by simp); clear hb1)
      | (go_at_call 78; refine (digits_no _ _ hbl HBB.out).mono ?_; rintro e w2 ⟨rfl, hb2⟩)
      | fail)
    exact ⟨rfl, .inr ⟨HTT.out, rfl⟩, bl_call B1 hb2 (by have := blk_lt R1; omega)⟩
end Go.Proofs.YtgocloilagcfoabDoor
