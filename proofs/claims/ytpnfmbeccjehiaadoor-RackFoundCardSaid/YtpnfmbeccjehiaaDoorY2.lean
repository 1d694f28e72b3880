/- RackFound: for every two ints and every list the law returns true. -/
import Derived.Test.YtpnfmbeccjehiaaDoorZ8
namespace Go.Proofs.YtpnfmbeccjehiaaDoor
open Go.RowKit Go.Proofs.YtpnfmbeccjehiaaDoorW.PrintWords Go.Proofs.YtpnfmbeccjehiaaDoorW.PrintLast Go.Proofs.YtpnfmbeccjehiaaDoorW.PrintMore
attribute [local go_sem ↓] Go.wp_at_zero Go.wp_at_succ

/-- between the neighbors of a place stands nothing else -/
theorem nb_facts {k : Nat} {m : RK.S} (hs : RK.Supp k m) (y : Nat) (hy : y < RK.R k) :
    ∃ (N : Nat) (b : Int), ((RK.nxv k m y).2 = true → N = (RK.nxv k m y).1) ∧ ((RK.nxv k m y).2 = false → N = RK.R k) ∧ ((RK.bfv m y).2 = true → b = (RK.bfv m y).1) ∧ ((RK.bfv m y).2 = false → b = -1) ∧ y < N ∧ N ≤ RK.R k ∧ b < y ∧ -1 ≤ b ∧
      ∀ j : Nat, j < RK.R k → j ≠ y → b ≤ j → j ≤ N → (m j = true ↔ ((j : Int) = b ∨ j = N)) := by
  obtain ⟨n1, n2⟩ := RK.nxv_spec k hs y
  obtain ⟨b1, b2⟩ := RK.bfv_spec m y
  have hN : ∃ N : Nat, ((RK.nxv k m y).2 = true → N = (RK.nxv k m y).1) ∧ ((RK.nxv k m y).2 = false → N = RK.R k) ∧ y < N ∧ N ≤ RK.R k ∧ (N < RK.R k → m N = true) ∧ ∀ z, y < z → z < N → m z = false := by
    cases h : (RK.nxv k m y).2 with
    | true =>
      obtain ⟨⟨q1, q2⟩, q3⟩ := n1 h
      refine ⟨_, fun _ => rfl, fun h => (by cases h), q2, Nat.le_of_lt (hs _ q1), fun _ => q1, fun z h1 h2 => ?_⟩
      cases hz : m z with
      | false => rfl
      | true => have := q3 z hz h1; omega
    | false =>
      refine ⟨_, fun h => (by cases h), fun _ => rfl, hy, Nat.le_refl _, fun h => by omega, fun z h1 _ => ?_⟩
      cases hz : m z with
      | false => rfl
      | true => have := n2 h z hz; omega
  have hB : ∃ b : Int, ((RK.bfv m y).2 = true → b = (RK.bfv m y).1) ∧ ((RK.bfv m y).2 = false → b = -1) ∧ b < y ∧ -1 ≤ b ∧ (∀ z : Nat, (z : Int) = b → m z = true) ∧ ∀ z : Nat, b < z → z < y → m z = false := by
    cases h : (RK.bfv m y).2 with
    | true =>
      obtain ⟨q1, q2, q3⟩ := b1 h
      exact ⟨_, fun _ => rfl, fun h => (by cases h), by omega, by omega, fun z hz => by rw [show z = (RK.bfv m y).1 by omega]; exact q1, fun z h1 h2 => q3 z (by omega) h2⟩
    | false => exact ⟨-1, fun h => (by cases h), fun _ => rfl, by omega, by omega, fun z hz => by omega, fun z _ h2 => (b2 h).2 z h2⟩
  obtain ⟨N, p1, p2, p3, p4, p5, p6⟩ := hN
  obtain ⟨b, r1, r2, r3, r4, r5, r6⟩ := hB
  refine ⟨N, b, p1, p2, r1, r2, p3, p4, r3, r4, fun j h1 h2 h3 h4 => ?_⟩
  constructor
  · intro hj
    rcases Nat.lt_or_gt_of_ne h2 with h | h
    · left
      rcases Int.lt_or_le b (j : Int) with h5 | h5
      · rw [r6 j h5 h] at hj; cases hj
      · omega
    · right
      rcases Nat.lt_or_ge j N with h5 | h5
      · rw [p6 j h h5] at hj; cases hj
      · omega
  · rintro (h | h)
    · exact r5 j h
    · subst h; exact p5 h1
set_option maxRecDepth 100000 in
set_option maxHeartbeats 16000000 in
theorem RackFound_walk (o : Int) (a : Value) (xs : List Int) (x : Int) (w : World) (ht : Tab w) (ho : -9223372036854775808 ≤ o ∧ o ≤ 9223372036854775807) (ha : LI w a xs) (hr : ∀ x ∈ xs, -9223372036854775808 ≤ x ∧ x ≤ 9223372036854775807) (hx : -9223372036854775808 ≤ x ∧ x ≤ 9223372036854775807) :
    Calls Tryd.prog 6 #[.int .i64 o, a, .int .i64 x] w fun e w' => e = .returned (.bool true) ∧ Below w.heap.size w w' := by
  have HT := Lib.hid ht
  have HFL := Lib.hid (filled_any o a xs w ho ha hr)
  clear ht ha hr ho
  go_enter Tryd.func6, Tryd.ntmps6
  go_wp2_with fail
  refine HFL.out.mono ?_
  rintro e w1 ⟨k, rb, v, F, sv, rfl, -, hk, hB, B1⟩
  obtain ⟨m, hm⟩ : ∃ m, RK.fil k (xs.take 256) = m := ⟨_, rfl⟩
  rw [hm] at hB
  have hR := RK.R_le hk
  have hR0 := RK.R_pos k
  have hmb := modZ_bd x (RK.R k) (by omega)
  obtain ⟨y, hy⟩ : ∃ y : Nat, modZ x (RK.R k) = y := ⟨(modZ x (RK.R k)).toNat, by omega⟩
  have hM := fun wx => mod_any x (RK.R k) wx (by omega) (by omega) hx.1 hx.2
  rw [hy] at hM hmb
  have HM := Lib.hid hM
  have HP := Lib.hid (fun wx => refPlaces k wx hk)
  have HB1 := Lib.hid hB
  have HY := Lib.hid (show y < RK.R k by omega)
  obtain ⟨p1, p2, p3, rfl⟩ := own_form hB.set
  have hsup := hB.rack.2.1.supp
  obtain ⟨N, b, f1, f2, f3, f4, f5, f6, f7, f8, f9⟩ := nb_facts hsup y HY.out
  have HQ := Lib.hid f9
  have f5' : ¬ N ≤ y := by omega
  have f7' : ¬ (y : Int) ≤ b := by omega
  clear hm hM hB hx HFL hy hsup f9
  go_wp2_with fail
  refine (HP.out _).mono ?_
  rintro e w2 ⟨rfl, hb⟩
  have B2 : Below w.heap.size w w2 := bl_call B1 hb B1.size
  have HB2 := Lib.hid (HB1.out.below hb)
  clear hb HB1
  go_wp2_with fail
  refine (HM.out _).mono ?_
  rintro e w2' ⟨rfl, hb⟩
  have B2' : Below w.heap.size w w2' := bl_call B2 hb B2.size
  have HB2' := Lib.hid (HB2.out.below hb)
  clear hb HB2 B2
  go_wp2_with fail
  refine (next_in k rb m v F y w2' hk HB2'.out.rack HY.out).mono ?_
  rintro e w3 ⟨he, hb⟩
  have B3 : Below w.heap.size w w3 := bl_call B2' hb B2'.size
  have HB3 := Lib.hid (HB2'.out.below hb)
  clear hb HB2' B2'
  have hbf := before_in k rb m v F y w3 hk HB3.out.rack HY.out
  unfold foundT at he hbf
  cases h1 : (RK.nxv k m y).2 with
  | true =>
    rw [h1, if_pos rfl, if_pos rfl, ← f1 h1] at he
    subst he
    cases h2 : (RK.bfv m y).2 with
    | true =>
      rw [h2, if_pos rfl, if_pos rfl, ← f3 h2] at hbf
      have HBF := Lib.hid hbf
      clear hbf h1 h2 f1 f2 f3 f4
      go_wp2_with fail
      refine HBF.out.mono ?_
      rintro e w4 ⟨rfl, hb⟩
      have B4 : Below w.heap.size w w4 := bl_call B3 hb B3.size
      have HB4 := Lib.hid (HB3.out.below hb)
      clear hb HB3 B3 HBF
      go_upto_region 12 with fail
      go_loopw [14] (fun i wr => ∃ z : Int, i = .int .i64 z ∧ b ≤ z ∧ z ≤ (N : Int) + 1 ∧ Hid (RackIs wr rb k m v F) ∧ Below w.heap.size w wr) (fun i _ => ((N : Int) + 1 - intOf i).toNat)
      case atStart => exact ⟨b, (by first | rfl | simp), by omega, by omega, Lib.hid HB4.out.rack, B4⟩
      case round =>
        obtain ⟨z, rfl, hz1, hz2, HRr, B⟩ := hrel
        have zr := B.size
        by_cases hzN : z ≤ (N : Int)
        · have HPZ := Lib.hid (fun wx => refPlace k z wx hk)
          by_cases hpl : 0 ≤ z ∧ z < RK.R k
          · rw [decide_eq_true hpl] at HPZ
            obtain ⟨j, rfl⟩ : ∃ j : Nat, z = j := ⟨z.toNat, by omega⟩
            have hj : j < RK.R k := by omega
            have HJ := Lib.hid hj
            clear hpl hj
            by_cases hjy : j = y
            · subst hjy
              go_wp2_with fail
              refine (HPZ.out _).mono ?_
              rintro e w5 ⟨rfl, hb⟩
              have B5 : Below w.heap.size w w5 := bl_call B hb B.size
              have HR5 := Lib.hid (HRr.out.below hb)
              clear hb
              go_wp2_with fail
              go_roundw
              case rel => exact ⟨(j : Int) + 1, (by first | rfl | simp), by omega, by omega, HR5, B5⟩
              case measure => simp [intOf]; omega
            · have hq := HQ.out j (by have := HJ.out; first | omega | (have := HNN.out; omega)) hjy (by omega) (by omega)
              have HHJ := Lib.hid (fun wx h => has_in k rb m v F j wx hk h HJ.out)
              obtain ⟨M, hM⟩ : ∃ M, m j = M := ⟨_, rfl⟩
              rw [hM] at HHJ hq
              have hjy' : ¬ (j : Int) = (y : Int) := by omega
              have HHM := Lib.hid hM
              clear hM
              by_cases c1 : (j : Int) = b
              case pos =>
                obtain rfl : M = true := hq.2 (.inl c1)
                have e1 : ((j : Int) == b) = true := by simp [c1]
                clear c1 hq HHM
                go_wp2_with fail
                refine (HPZ.out _).mono ?_
                rintro e w5 ⟨rfl, hb⟩
                have B5 : Below w.heap.size w w5 := bl_call B hb B.size
                have HR5 := Lib.hid (HRr.out.below hb)
                clear hb
                go_wp2_with fail
                refine (HHJ.out _ HR5.out).mono ?_
                rintro e w6 ⟨rfl, hb⟩
                have B6 : Below w.heap.size w w6 := bl_call B5 hb B5.size
                have HR6 := Lib.hid (HR5.out.below hb)
                clear hb HR5 HRr
                go_wp2_with fail
                go_roundw
                case rel => exact ⟨(j : Int) + 1, (by first | rfl | simp), by omega, by omega, HR6, B6⟩
                case measure => simp [intOf]; omega
              case neg =>
                have e1 : ((j : Int) == b) = false := beq_eq_false_iff_ne.2 c1
                by_cases c2 : j = N
                · obtain rfl : M = true := hq.2 (.inr c2)
                  have e2 : ((j : Int) == (N : Int)) = true := by simp [c2]
                  clear c1 c2 hq HHM
                  go_wp2_with fail
                  refine (HPZ.out _).mono ?_
                  rintro e w5 ⟨rfl, hb⟩
                  have B5 : Below w.heap.size w w5 := bl_call B hb B.size
                  have HR5 := Lib.hid (HRr.out.below hb)
                  clear hb
                  go_wp2_with fail
                  refine (HHJ.out _ HR5.out).mono ?_
                  rintro e w6 ⟨rfl, hb⟩
                  have B6 : Below w.heap.size w w6 := bl_call B5 hb B5.size
                  have HR6 := Lib.hid (HR5.out.below hb)
                  clear hb HR5 HRr
                  go_wp2_with fail
                  go_roundw
                  case rel => exact ⟨(j : Int) + 1, (by first | rfl | simp), by omega, by omega, HR6, B6⟩
                  case measure => simp [intOf]; omega
                · obtain rfl : M = false := by
                    cases M with
                    | false => rfl
                    | true => rcases hq.1 rfl with h | h
                              · exact absurd h c1
                              · exact absurd h c2
                  have e2 : ((j : Int) == (N : Int)) = false := by simp; omega
                  clear c1 c2 hq HHM
                  go_wp2_with fail
                  refine (HPZ.out _).mono ?_
                  rintro e w5 ⟨rfl, hb⟩
                  have B5 : Below w.heap.size w w5 := bl_call B hb B.size
                  have HR5 := Lib.hid (HRr.out.below hb)
                  clear hb
                  go_wp2_with fail
                  refine (HHJ.out _ HR5.out).mono ?_
                  rintro e w6 ⟨rfl, hb⟩
                  have B6 : Below w.heap.size w w6 := bl_call B5 hb B5.size
                  have HR6 := Lib.hid (HR5.out.below hb)
                  clear hb HR5 HRr
                  go_wp2_with fail
                  go_roundw
                  case rel => exact ⟨(j : Int) + 1, (by first | rfl | simp), by omega, by omega, HR6, B6⟩
                  case measure => simp [intOf]; omega
          · rw [decide_eq_false hpl] at HPZ
            go_wp2_with fail
            refine (HPZ.out _).mono ?_
            rintro e w5 ⟨rfl, hb⟩
            have B5 : Below w.heap.size w w5 := bl_call B hb B.size
            have HR5 := Lib.hid (HRr.out.below hb)
            clear hb
            go_wp2_with fail
            go_roundw
            case rel => exact ⟨z + 1, (by first | rfl | simp), by omega, by omega, HR5, B5⟩
            case measure => simp [intOf]; omega
        · go_wp2_with fail
          refine (awake_any _ (HT.out.below B)).mono ?_
          rintro e w5 ⟨rfl, hb⟩
          have B5 : Below w.heap.size w w5 := bl_call B hb B.size
          go_wp2_with fail
          go_ret
          exact ⟨rfl, B5⟩
    | false =>
      rw [h2] at hbf
      simp only [Bool.false_eq_true, if_false] at hbf
      have HBF := Lib.hid hbf
      obtain rfl : b = -1 := f4 h2
      clear hbf h1 h2 f1 f2 f3 f4
      go_wp2_with fail
      refine HBF.out.mono ?_
      rintro e w4 ⟨rfl, hb⟩
      have B4 : Below w.heap.size w w4 := bl_call B3 hb B3.size
      have HB4 := Lib.hid (HB3.out.below hb)
      clear hb HB3 B3 HBF
      go_upto_region 12 with fail
      go_loopw [14] (fun i wr => ∃ z : Int, i = .int .i64 z ∧ (-1) ≤ z ∧ z ≤ (N : Int) + 1 ∧ Hid (RackIs wr rb k m v F) ∧ Below w.heap.size w wr) (fun i _ => ((N : Int) + 1 - intOf i).toNat)
      case atStart => exact ⟨(-1), (by first | rfl | simp), by omega, by omega, Lib.hid HB4.out.rack, B4⟩
      case round =>
        obtain ⟨z, rfl, hz1, hz2, HRr, B⟩ := hrel
        have zr := B.size
        by_cases hzN : z ≤ (N : Int)
        · have HPZ := Lib.hid (fun wx => refPlace k z wx hk)
          by_cases hpl : 0 ≤ z ∧ z < RK.R k
          · rw [decide_eq_true hpl] at HPZ
            obtain ⟨j, rfl⟩ : ∃ j : Nat, z = j := ⟨z.toNat, by omega⟩
            have hj : j < RK.R k := by omega
            have HJ := Lib.hid hj
            clear hpl hj
            by_cases hjy : j = y
            · subst hjy
              go_wp2_with fail
              refine (HPZ.out _).mono ?_
              rintro e w5 ⟨rfl, hb⟩
              have B5 : Below w.heap.size w w5 := bl_call B hb B.size
              have HR5 := Lib.hid (HRr.out.below hb)
              clear hb
              go_wp2_with fail
              go_roundw
              case rel => exact ⟨(j : Int) + 1, (by first | rfl | simp), by omega, by omega, HR5, B5⟩
              case measure => simp [intOf]; omega
            · have hq := HQ.out j (by have := HJ.out; first | omega | (have := HNN.out; omega)) hjy (by omega) (by omega)
              have HHJ := Lib.hid (fun wx h => has_in k rb m v F j wx hk h HJ.out)
              obtain ⟨M, hM⟩ : ∃ M, m j = M := ⟨_, rfl⟩
              rw [hM] at HHJ hq
              have hjy' : ¬ (j : Int) = (y : Int) := by omega
              have HHM := Lib.hid hM
              clear hM
              by_cases c1 : (j : Int) = (-1)
              case pos =>
                exact absurd c1 (by omega)
              case neg =>
                have e1 : ((j : Int) == (-1)) = false := beq_eq_false_iff_ne.2 c1
                by_cases c2 : j = N
                · obtain rfl : M = true := hq.2 (.inr c2)
                  have e2 : ((j : Int) == (N : Int)) = true := by simp [c2]
                  clear c1 c2 hq HHM
                  go_wp2_with fail
                  refine (HPZ.out _).mono ?_
                  rintro e w5 ⟨rfl, hb⟩
                  have B5 : Below w.heap.size w w5 := bl_call B hb B.size
                  have HR5 := Lib.hid (HRr.out.below hb)
                  clear hb
                  go_wp2_with fail
                  refine (HHJ.out _ HR5.out).mono ?_
                  rintro e w6 ⟨rfl, hb⟩
                  have B6 : Below w.heap.size w w6 := bl_call B5 hb B5.size
                  have HR6 := Lib.hid (HR5.out.below hb)
                  clear hb HR5 HRr
                  go_wp2_with fail
                  go_roundw
                  case rel => exact ⟨(j : Int) + 1, (by first | rfl | simp), by omega, by omega, HR6, B6⟩
                  case measure => simp [intOf]; omega
                · obtain rfl : M = false := by
                    cases M with
                    | false => rfl
                    | true => rcases hq.1 rfl with h | h
                              · exact absurd h c1
                              · exact absurd h c2
                  have e2 : ((j : Int) == (N : Int)) = false := by simp; omega
                  clear c1 c2 hq HHM
                  go_wp2_with fail
                  refine (HPZ.out _).mono ?_
                  rintro e w5 ⟨rfl, hb⟩
                  have B5 : Below w.heap.size w w5 := bl_call B hb B.size
                  have HR5 := Lib.hid (HRr.out.below hb)
                  clear hb
                  go_wp2_with fail
                  refine (HHJ.out _ HR5.out).mono ?_
                  rintro e w6 ⟨rfl, hb⟩
                  have B6 : Below w.heap.size w w6 := bl_call B5 hb B5.size
                  have HR6 := Lib.hid (HR5.out.below hb)
                  clear hb HR5 HRr
                  go_wp2_with fail
                  go_roundw
                  case rel => exact ⟨(j : Int) + 1, (by first | rfl | simp), by omega, by omega, HR6, B6⟩
                  case measure => simp [intOf]; omega
          · rw [decide_eq_false hpl] at HPZ
            go_wp2_with fail
            refine (HPZ.out _).mono ?_
            rintro e w5 ⟨rfl, hb⟩
            have B5 : Below w.heap.size w w5 := bl_call B hb B.size
            have HR5 := Lib.hid (HRr.out.below hb)
            clear hb
            go_wp2_with fail
            go_roundw
            case rel => exact ⟨z + 1, (by first | rfl | simp), by omega, by omega, HR5, B5⟩
            case measure => simp [intOf]; omega
        · go_wp2_with fail
          refine (awake_any _ (HT.out.below B)).mono ?_
          rintro e w5 ⟨rfl, hb⟩
          have B5 : Below w.heap.size w w5 := bl_call B hb B.size
          go_wp2_with fail
          go_ret
          exact ⟨rfl, B5⟩
  | false =>
    rw [h1] at he
    simp only [Bool.false_eq_true, if_false] at he
    subst he
    obtain rfl : N = RK.R k := f2 h1
    cases h2 : (RK.bfv m y).2 with
    | true =>
      rw [h2, if_pos rfl, if_pos rfl, ← f3 h2] at hbf
      have HBF := Lib.hid hbf
      clear hbf h1 h2 f1 f2 f3 f4
      go_wp2_with fail
      refine HBF.out.mono ?_
      rintro e w4 ⟨rfl, hb⟩
      have B4 : Below w.heap.size w w4 := bl_call B3 hb B3.size
      have HB4 := Lib.hid (HB3.out.below hb)
      clear hb HB3 B3 HBF
      go_wp2_with fail
      refine (HP.out _).mono ?_
      rintro e w4' ⟨rfl, hb⟩
      have B4' := bl_call B4 hb B4.size
      have HB4' := Lib.hid (HB4.out.below hb)
      clear hb HB4 B4
      have B4 := B4'
      have HB4 := HB4'
      clear B4' HB4'
      obtain ⟨N, hN⟩ : ∃ N, RK.R k = N := ⟨_, rfl⟩
      rw [hN] at HQ f5 f5' f6
      rw [hN]
      have HNN := Lib.hid hN
      have hN4 : N ≤ 256 := by omega
      clear hN
      go_upto_region 12 with fail
      go_loopw [14] (fun i wr => ∃ z : Int, i = .int .i64 z ∧ b ≤ z ∧ z ≤ (N : Int) + 1 ∧ Hid (RackIs wr rb k m v F) ∧ Below w.heap.size w wr) (fun i _ => ((N : Int) + 1 - intOf i).toNat)
      case atStart => exact ⟨b, (by first | rfl | simp), by omega, by omega, Lib.hid HB4.out.rack, B4⟩
      case round =>
        obtain ⟨z, rfl, hz1, hz2, HRr, B⟩ := hrel
        have zr := B.size
        by_cases hzN : z ≤ (N : Int)
        · have HPZ := Lib.hid (fun wx => refPlace k z wx hk)
          by_cases hpl : 0 ≤ z ∧ z < RK.R k
          · rw [decide_eq_true hpl] at HPZ
            obtain ⟨j, rfl⟩ : ∃ j : Nat, z = j := ⟨z.toNat, by omega⟩
            have hj : j < RK.R k := by omega
            have HJ := Lib.hid hj
            clear hpl hj
            by_cases hjy : j = y
            · subst hjy
              go_wp2_with fail
              refine (HPZ.out _).mono ?_
              rintro e w5 ⟨rfl, hb⟩
              have B5 : Below w.heap.size w w5 := bl_call B hb B.size
              have HR5 := Lib.hid (HRr.out.below hb)
              clear hb
              go_wp2_with fail
              go_roundw
              case rel => exact ⟨(j : Int) + 1, (by first | rfl | simp), by omega, by omega, HR5, B5⟩
              case measure => simp [intOf]; omega
            · have hq := HQ.out j (by have := HJ.out; first | omega | (have := HNN.out; omega)) hjy (by omega) (by omega)
              have HHJ := Lib.hid (fun wx h => has_in k rb m v F j wx hk h HJ.out)
              obtain ⟨M, hM⟩ : ∃ M, m j = M := ⟨_, rfl⟩
              rw [hM] at HHJ hq
              have hjy' : ¬ (j : Int) = (y : Int) := by omega
              have HHM := Lib.hid hM
              clear hM
              by_cases c1 : (j : Int) = b
              case pos =>
                obtain rfl : M = true := hq.2 (.inl c1)
                have e1 : ((j : Int) == b) = true := by simp [c1]
                clear c1 hq HHM
                go_wp2_with fail
                refine (HPZ.out _).mono ?_
                rintro e w5 ⟨rfl, hb⟩
                have B5 : Below w.heap.size w w5 := bl_call B hb B.size
                have HR5 := Lib.hid (HRr.out.below hb)
                clear hb
                go_wp2_with fail
                refine (HHJ.out _ HR5.out).mono ?_
                rintro e w6 ⟨rfl, hb⟩
                have B6 : Below w.heap.size w w6 := bl_call B5 hb B5.size
                have HR6 := Lib.hid (HR5.out.below hb)
                clear hb HR5 HRr
                go_wp2_with fail
                go_roundw
                case rel => exact ⟨(j : Int) + 1, (by first | rfl | simp), by omega, by omega, HR6, B6⟩
                case measure => simp [intOf]; omega
              case neg =>
                have e1 : ((j : Int) == b) = false := beq_eq_false_iff_ne.2 c1
                by_cases c2 : j = N
                · obtain rfl : M = true := hq.2 (.inr c2)
                  have e2 : ((j : Int) == (N : Int)) = true := by simp [c2]
                  clear c1 c2 hq HHM
                  go_wp2_with fail
                  refine (HPZ.out _).mono ?_
                  rintro e w5 ⟨rfl, hb⟩
                  have B5 : Below w.heap.size w w5 := bl_call B hb B.size
                  have HR5 := Lib.hid (HRr.out.below hb)
                  clear hb
                  go_wp2_with fail
                  refine (HHJ.out _ HR5.out).mono ?_
                  rintro e w6 ⟨rfl, hb⟩
                  have B6 : Below w.heap.size w w6 := bl_call B5 hb B5.size
                  have HR6 := Lib.hid (HR5.out.below hb)
                  clear hb HR5 HRr
                  go_wp2_with fail
                  go_roundw
                  case rel => exact ⟨(j : Int) + 1, (by first | rfl | simp), by omega, by omega, HR6, B6⟩
                  case measure => simp [intOf]; omega
                · obtain rfl : M = false := by
                    cases M with
                    | false => rfl
                    | true => rcases hq.1 rfl with h | h
                              · exact absurd h c1
                              · exact absurd h c2
                  have e2 : ((j : Int) == (N : Int)) = false := by simp; omega
                  clear c1 c2 hq HHM
                  go_wp2_with fail
                  refine (HPZ.out _).mono ?_
                  rintro e w5 ⟨rfl, hb⟩
                  have B5 : Below w.heap.size w w5 := bl_call B hb B.size
                  have HR5 := Lib.hid (HRr.out.below hb)
                  clear hb
                  go_wp2_with fail
                  refine (HHJ.out _ HR5.out).mono ?_
                  rintro e w6 ⟨rfl, hb⟩
                  have B6 : Below w.heap.size w w6 := bl_call B5 hb B5.size
                  have HR6 := Lib.hid (HR5.out.below hb)
                  clear hb HR5 HRr
                  go_wp2_with fail
                  go_roundw
                  case rel => exact ⟨(j : Int) + 1, (by first | rfl | simp), by omega, by omega, HR6, B6⟩
                  case measure => simp [intOf]; omega
          · rw [decide_eq_false hpl] at HPZ
            go_wp2_with fail
            refine (HPZ.out _).mono ?_
            rintro e w5 ⟨rfl, hb⟩
            have B5 : Below w.heap.size w w5 := bl_call B hb B.size
            have HR5 := Lib.hid (HRr.out.below hb)
            clear hb
            go_wp2_with fail
            go_roundw
            case rel => exact ⟨z + 1, (by first | rfl | simp), by omega, by omega, HR5, B5⟩
            case measure => simp [intOf]; omega
        · go_wp2_with fail
          refine (awake_any _ (HT.out.below B)).mono ?_
          rintro e w5 ⟨rfl, hb⟩
          have B5 : Below w.heap.size w w5 := bl_call B hb B.size
          go_wp2_with fail
          go_ret
          exact ⟨rfl, B5⟩
    | false =>
      rw [h2] at hbf
      simp only [Bool.false_eq_true, if_false] at hbf
      have HBF := Lib.hid hbf
      obtain rfl : b = -1 := f4 h2
      clear hbf h1 h2 f1 f2 f3 f4
      go_wp2_with fail
      refine HBF.out.mono ?_
      rintro e w4 ⟨rfl, hb⟩
      have B4 : Below w.heap.size w w4 := bl_call B3 hb B3.size
      have HB4 := Lib.hid (HB3.out.below hb)
      clear hb HB3 B3 HBF
      go_wp2_with fail
      refine (HP.out _).mono ?_
      rintro e w4' ⟨rfl, hb⟩
      have B4' := bl_call B4 hb B4.size
      have HB4' := Lib.hid (HB4.out.below hb)
      clear hb HB4 B4
      have B4 := B4'
      have HB4 := HB4'
      clear B4' HB4'
      obtain ⟨N, hN⟩ : ∃ N, RK.R k = N := ⟨_, rfl⟩
      rw [hN] at HQ f5 f5' f6
      rw [hN]
      have HNN := Lib.hid hN
      have hN4 : N ≤ 256 := by omega
      clear hN
      go_upto_region 12 with fail
      go_loopw [14] (fun i wr => ∃ z : Int, i = .int .i64 z ∧ (-1) ≤ z ∧ z ≤ (N : Int) + 1 ∧ Hid (RackIs wr rb k m v F) ∧ Below w.heap.size w wr) (fun i _ => ((N : Int) + 1 - intOf i).toNat)
      case atStart => exact ⟨(-1), (by first | rfl | simp), by omega, by omega, Lib.hid HB4.out.rack, B4⟩
      case round =>
        obtain ⟨z, rfl, hz1, hz2, HRr, B⟩ := hrel
        have zr := B.size
        by_cases hzN : z ≤ (N : Int)
        · have HPZ := Lib.hid (fun wx => refPlace k z wx hk)
          by_cases hpl : 0 ≤ z ∧ z < RK.R k
          · rw [decide_eq_true hpl] at HPZ
            obtain ⟨j, rfl⟩ : ∃ j : Nat, z = j := ⟨z.toNat, by omega⟩
            have hj : j < RK.R k := by omega
            have HJ := Lib.hid hj
            clear hpl hj
            by_cases hjy : j = y
            · subst hjy
              go_wp2_with fail
              refine (HPZ.out _).mono ?_
              rintro e w5 ⟨rfl, hb⟩
              have B5 : Below w.heap.size w w5 := bl_call B hb B.size
              have HR5 := Lib.hid (HRr.out.below hb)
              clear hb
              go_wp2_with fail
              go_roundw
              case rel => exact ⟨(j : Int) + 1, (by first | rfl | simp), by omega, by omega, HR5, B5⟩
              case measure => simp [intOf]; omega
            · have hq := HQ.out j (by have := HJ.out; first | omega | (have := HNN.out; omega)) hjy (by omega) (by omega)
              have HHJ := Lib.hid (fun wx h => has_in k rb m v F j wx hk h HJ.out)
              obtain ⟨M, hM⟩ : ∃ M, m j = M := ⟨_, rfl⟩
              rw [hM] at HHJ hq
              have hjy' : ¬ (j : Int) = (y : Int) := by omega
              have HHM := Lib.hid hM
              clear hM
              by_cases c1 : (j : Int) = (-1)
              case pos =>
                exact absurd c1 (by omega)
              case neg =>
                have e1 : ((j : Int) == (-1)) = false := beq_eq_false_iff_ne.2 c1
                by_cases c2 : j = N
                · obtain rfl : M = true := hq.2 (.inr c2)
                  have e2 : ((j : Int) == (N : Int)) = true := by simp [c2]
                  clear c1 c2 hq HHM
                  go_wp2_with fail
                  refine (HPZ.out _).mono ?_
                  rintro e w5 ⟨rfl, hb⟩
                  have B5 : Below w.heap.size w w5 := bl_call B hb B.size
                  have HR5 := Lib.hid (HRr.out.below hb)
                  clear hb
                  go_wp2_with fail
                  refine (HHJ.out _ HR5.out).mono ?_
                  rintro e w6 ⟨rfl, hb⟩
                  have B6 : Below w.heap.size w w6 := bl_call B5 hb B5.size
                  have HR6 := Lib.hid (HR5.out.below hb)
                  clear hb HR5 HRr
                  go_wp2_with fail
                  go_roundw
                  case rel => exact ⟨(j : Int) + 1, (by first | rfl | simp), by omega, by omega, HR6, B6⟩
                  case measure => simp [intOf]; omega
                · obtain rfl : M = false := by
                    cases M with
                    | false => rfl
                    | true => rcases hq.1 rfl with h | h
                              · exact absurd h c1
                              · exact absurd h c2
                  have e2 : ((j : Int) == (N : Int)) = false := by simp; omega
                  clear c1 c2 hq HHM
                  go_wp2_with fail
                  refine (HPZ.out _).mono ?_
                  rintro e w5 ⟨rfl, hb⟩
                  have B5 : Below w.heap.size w w5 := bl_call B hb B.size
                  have HR5 := Lib.hid (HRr.out.below hb)
                  clear hb
                  go_wp2_with fail
                  refine (HHJ.out _ HR5.out).mono ?_
                  rintro e w6 ⟨rfl, hb⟩
                  have B6 : Below w.heap.size w w6 := bl_call B5 hb B5.size
                  have HR6 := Lib.hid (HR5.out.below hb)
                  clear hb HR5 HRr
                  go_wp2_with fail
                  go_roundw
                  case rel => exact ⟨(j : Int) + 1, (by first | rfl | simp), by omega, by omega, HR6, B6⟩
                  case measure => simp [intOf]; omega
          · rw [decide_eq_false hpl] at HPZ
            go_wp2_with fail
            refine (HPZ.out _).mono ?_
            rintro e w5 ⟨rfl, hb⟩
            have B5 : Below w.heap.size w w5 := bl_call B hb B.size
            have HR5 := Lib.hid (HRr.out.below hb)
            clear hb
            go_wp2_with fail
            go_roundw
            case rel => exact ⟨z + 1, (by first | rfl | simp), by omega, by omega, HR5, B5⟩
            case measure => simp [intOf]; omega
        · go_wp2_with fail
          refine (awake_any _ (HT.out.below B)).mono ?_
          rintro e w5 ⟨rfl, hb⟩
          have B5 : Below w.heap.size w w5 := bl_call B hb B.size
          go_wp2_with fail
          go_ret
          exact ⟨rfl, B5⟩
namespace rackFound
open Go.ChangeShapes Go.WideShapes Go.ChangeAt Go.RowKit
open Go.Lib Go.Joins
set_option maxRecDepth 100000 in
theorem contract (H : Type) (enc : TypeId × Value → H) (W : World) (base : Nat) (args : Array Value) (ds gs : List (DataW H)) (before : List MemPlace)
    (hval : ∀ (j : Nat) t v, Tryd.f6.params[j]? = some t → args[j]? = some v → Value.okWide Tryd.prog W .any base t v)
    (hW : DataW.Whole enc Tryd.prog Tryd.f6.params.toList Rows.rackFoundSpec.vars false W args.toList ds gs before) (hL : laidMetH Tryd.prog tabs W) :
    Calls Tryd.prog 6 args W fun e W' => ∃ v, e = .returned v ∧ Rows.rackFoundSpec.post enc Tryd.prog Tryd.f6 false true false false W args v W' := by
  have hW' := hW
  obtain ⟨p, q, hA0, hV, rfl, hfz, hnd⟩ := hW
  have hA : DataW.TrodAll enc Tryd.prog W 0 (fun _ => true) true Tryd.f6.params.toList args.toList ds p := hA0
  rw [Tryd.params6] at hA hval
  obtain ⟨v0, vs0, d0, ds0, p0, q0, hargs, rfl, rfl, h0, r0⟩ := trodAll_cons hA
  obtain ⟨v1, vs1, d1, ds1, p1, q1, rfl, rfl, rfl, h1, r1⟩ := trodAll_cons r0
  obtain ⟨v2, vs2, d2, ds2, p2, q2, rfl, rfl, rfl, h2, r2⟩ := trodAll_cons r1
  obtain ⟨rfl, rfl, rfl⟩ := trodAll_nil r2
  obtain rfl : args = #[v0, v1, v2] := by cases args; simp_all
  obtain ⟨rfl, rfl⟩ := trodVars_none hV
  obtain ⟨x0, rfl, rfl, rfl, wx0⟩ := open_int Tryd.underlying3 (hval 0 3 v0 rfl rfl) h0
  obtain ⟨x1, li1, wx1⟩ := LI_of (hval 1 23 v1 rfl rfl) h1
  have lt1 : ∀ x ∈ p1, x.block < W.heap.size := by obtain ⟨fuel, hf⟩ := h1; exact DataW.trod_lt fuel _ _ _ hf
  obtain ⟨x2, rfl, rfl, rfl, wx2⟩ := open_int Tryd.underlying3 (hval 2 3 v2 rfl rfl) h2
  clear hA0
  try simp only [List.append_nil] at hW'
  refine (show Calls Tryd.prog 6 _ W _ from (RackFound_walk x0 v1 x1 x2 W (tab_of hL) (inI wx0) li1 wx1 (inI wx2))).mono fun e W' ⟨he, hb⟩ => ?_
  subst he
  exact ⟨_, rfl, _, _, _, _, _, _, hW', trodAll_mk1 (shut_bool Tryd.underlying4 _), trodAll_cons_mk (shut_int Tryd.underlying3 wx0) (trodAll_cons_mk (Below.trod laidOut (by kernel_rfl) (of_decide_eq_true (by kernel_rfl)) h1 hb lt1) (trodAll_cons_mk (shut_int Tryd.underlying3 wx2) (trodAll_mk0))), rfl, hb.frame _, fun h => by cases h⟩
theorem reads (os : Os) {H : Type} (enc : TypeId × Value → H) : ∃ places, DataW.whole enc Tryd.prog ((laidWorld os).forCall (fun _ _ => 0) ⟨#[], #[.int .i64 0, .slice none 0 0, .int .i64 0], []⟩).memory Tryd.f6.params.toList Rows.rackFoundSpec.vars false (#[.int .i64 0, .slice none 0 0, .int .i64 0] : Array Value).toList 8 = some ([.lit (.int .i64 0), .nil, .lit (.int .i64 0)], [], places) :=
  ⟨[], by kernel_rfl⟩
set_option maxRecDepth 100000 in
theorem lifted (os : Os) (started : os.Started) (H : Type) (enc : TypeId × Value → H) (F : Stop.Interp) :
    ReturnsInHanded {} Tryd.checked os 6 .any ((OpenSpec.ofChange Rows.rackFoundSpec).preRow enc Tryd.prog Tryd.f6 Rows.rackFoundRow.domain false Rows.rackFoundRow.laid) (((OpenSpec.ofChange Rows.rackFoundSpec).at F).post enc Tryd.prog Tryd.f6 false true false false) := by
  obtain ⟨places, hx⟩ := reads os enc
  refine returnsInHanded_of_row (C := Tryd.checked) (s := OpenSpec.ofChange Rows.rackFoundSpec) own started (by kernel_rfl) Tryd.func6
    (witness_row_at (enc := enc) (C := Tryd.checked) false (laidWorld os) #[.int .i64 0, .slice none 0 0, .int .i64 0] rfl (by kernel_rfl) (by kernel_rfl) (by kernel_rfl)
      (OpenSpec.preRow_of_cond 8 hx (by kernel_rfl) (fun k hk => by cases hk) (by kernel_rfl) (laid_met os _))) ?_
  intro W base args ds gs before hval hW _ _ _ hL _ _
  exact contract H enc W base args ds gs before hval hW hL
theorem said : Rows.RackFoundSaid :=
  OpenClaim.holds_of_cond 6 Tryd.f6 rfl rfl rfl rfl rfl rfl rfl ⟨rfl, rfl, rfl, rfl, rfl⟩ rfl rfl rfl rfl rfl (by kernel_rfl) Tryd.func6 (by kernel_rfl)
    (of_decide_eq_true (by kernel_rfl)) (by unfold Func.isWrapper; first | (rw [if_pos (by decide +kernel)]; kernel_rfl) | (rw [if_neg (by decide +kernel)]; exact ⟨rfl, rfl⟩))
    (fun os started H enc _ F => by rw [OpenClaim.pre_eq_preRow]; exact lifted os started H enc F)
theorem plain (f : FuncId) (fn : Func) (hf : Tryd.pinned.checked.prog.funcNamed "remould/remouldlaw07.RackFound" = some f) (hfn : Tryd.pinned.checked.prog.funcs[f]? = some fn) :
    true = Tryd.pinned.checked.prog.looks [] ∧ ∀ (j : Nat) t, fn.params[j]? = some t → Tryd.pinned.checked.prog.wantsStandIn t = false := by
  obtain rfl : f = 6 := Option.some.inj ((show Tryd.prog.funcNamed "remould/remouldlaw07.RackFound" = some 6 by kernel_rfl).symm.trans hf) |>.symm
  obtain rfl : fn = Tryd.f6 := (Option.some.inj (Tryd.func6.symm.trans hfn)).symm
  refine ⟨by kernel_rfl, fun j t ht => ?_⟩
  rw [Tryd.params6] at ht
  have hm : t ∈ [3, 23, 3] := by simpa using Array.mem_of_getElem? ht
  have hall : ([3, 23, 3].all fun u => !Tryd.prog.wantsStandIn u) = true := by kernel_rfl
  exact (show Tryd.prog.wantsStandIn t = false by simpa using List.all_eq_true.1 hall t (by simpa using hm))
theorem card : Rows.RackFoundCardSaid :=
  Claim7.holds_tied_plain_at .later [] _ _ _ _ said (fun _ h => by cases h) (by kernel_rfl) (fun _ h => by cases h) rackFound_row_tie rfl ⟨rfl, rfl⟩ (by kernel_rfl) rfl plain (by kernel_rfl)
end rackFound
theorem RackFound_holds : Rows.RackFoundCardSaid := rackFound.card
end Go.Proofs.YtpnfmbeccjehiaaDoor
