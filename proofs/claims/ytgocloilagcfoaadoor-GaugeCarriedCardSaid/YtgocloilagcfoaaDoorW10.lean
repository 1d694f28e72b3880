/- GaugeCarried: for every string and every two ints the law returns true. -/
import Derived.Test.YtgocloilagcfoaaDoorL1
import Derived.Test.YtgocloilagcfoaaDoorM8
import Derived.Test.YtgocloilagcfoaaDoorF1
namespace Go.Proofs.YtgocloilagcfoaaDoor
open Go.RowKit
attribute [local go_sem ↓] Go.wp_at_zero Go.wp_at_succ

theorem str_app3 (a b : List UInt8) : (⟨a.toArray⟩ : ByteArray) ++ ⟨b.toArray⟩ = ⟨(a ++ b).toArray⟩ := by
  have h : ((⟨a.toArray⟩ : ByteArray) ++ ⟨b.toArray⟩).data = (a ++ b).toArray := by simp [ByteArray.data_append]
  exact congrArg ByteArray.mk h
set_option maxRecDepth 100000 in
set_option maxHeartbeats 8000000 in
theorem GaugeCarried_walk (l : List UInt8) (p q : Int) (w : World) (h : l.length ≤ 9223372036854775807) (hp : -9223372036854775808 ≤ p ∧ p ≤ 9223372036854775807) (hq : -9223372036854775808 ≤ q ∧ q ≤ 9223372036854775807) :
    Calls Tryd.prog 10 #[.string ⟨l.toArray⟩, .int .i64 p, .int .i64 q] w fun e w' => e = .returned (.bool true) ∧ Below w.heap.size w w' := by
  have hT := fun wx => text_any2 l 30 wx h (by omega) (by omega)
  have hM2 := fun wx => mod_any p 2 wx (by omega) (by omega) hp.1 hp.2
  rw [show (1 + modZ 30 12).toNat = 7 by decide] at hT
  obtain ⟨P, Q, hF, hP, hQ⟩ := txt_form 7 2 (.inl rfl) (by omega) (by omega) l
  obtain ⟨m, hm⟩ : ∃ m, txt 7 2 l = m := ⟨_, rfl⟩
  rw [hm] at hT hF
  clear hm h
  generalize (⟨l.toArray⟩ : ByteArray) = s0 at *
  have hl := hF.len
  have hQ' : Q.length ≤ 19 := by
    rcases hQ with h | h
    · rw [h]; simp
    · omega
  have hM1 := fun wx => mod_any q ((m.length : Int) + 1) wx (by omega) (by omega) hq.1 hq.2
  have hmb := modZ_bd q ((m.length : Int) + 1) (by omega)
  obtain ⟨k, hk⟩ : ∃ k : Nat, modZ q ((m.length : Int) + 1) = k := ⟨(modZ q ((m.length : Int) + 1)).toNat, by omega⟩
  rw [hk] at hM1 hmb
  have hkm : k ≤ m.length := by omega
  obtain ⟨P1, Q1, P2, Q2, f1, f2, e12⟩ := hF.put (by omega) hQ' k hkm [48, 49, 49] [49, 48, 48] (by simp) rfl (by decide) (by decide) carry1
  obtain ⟨P3, Q3, P4, Q4, f3, f4, e34⟩ := hF.put (by omega) hQ' k hkm [48, 50, 48, 48] [49, 48, 48, 49] (by simp) rfl (by decide) (by decide) carry2
  have v1 := fun wx => Value_yes _ wx (by have := f1.len; omega) f1.ok f1.isN
  have v2 := fun wx => Value_yes _ wx (by have := f2.len; omega) f2.ok f2.isN
  have v3 := fun wx => Value_yes _ wx (by have := f3.len; omega) f3.ok f3.isN
  have v4 := fun wx => Value_yes _ wx (by have := f4.len; omega) f4.ok f4.isN
  rw [e12] at v1
  rw [e34] at v3
  have la : (m.take k).length ≤ 40 := by rw [List.length_take]; omega
  have lb : (m.drop k).length ≤ 40 := by rw [List.length_drop]; omega
  have x1 : (⟨m.toArray⟩ : ByteArray).extract 0 k = ⟨(m.take k).toArray⟩ := by rw [Lib.extract_mk, List.drop_zero, Nat.sub_zero]
  have x2 : (⟨m.toArray⟩ : ByteArray).extract k m.length = ⟨(m.drop k).toArray⟩ := by rw [Lib.extract_mk, List.take_of_length_le (by simp)]
  have j1 := str_app3 (m.take k) [48, 49, 49]
  have j2 := str_app3 (m.take k) [49, 48, 48]
  have j3 := str_app3 (m.take k) [48, 50, 48, 48]
  have j4 := str_app3 (m.take k) [49, 48, 48, 49]
  have i1 := str_app3 (m.take k ++ [48, 49, 49]) (m.drop k)
  have i2 := str_app3 (m.take k ++ [49, 48, 48]) (m.drop k)
  have i3 := str_app3 (m.take k ++ [48, 50, 48, 48]) (m.drop k)
  have i4 := str_app3 (m.take k ++ [49, 48, 48, 49]) (m.drop k)
  have s1 := str_size (m.take k ++ [48, 49, 49])
  have s2 := str_size (m.take k ++ [49, 48, 48])
  have s3 := str_size (m.take k ++ [48, 50, 48, 48])
  have s4 := str_size (m.take k ++ [49, 48, 48, 49])
  have sa := str_size (m.take k)
  have sb := str_size (m.drop k)
  have st := str_size m
  rw [List.length_append] at s1 s2 s3 s4
  simp only [List.length_cons, List.length_nil] at s1 s2 s3 s4
  obtain ⟨⟨X, Y⟩, hXY⟩ : ∃ x, valOf (m.take k ++ [49, 48, 48] ++ m.drop k) = x := ⟨_, rfl⟩
  obtain ⟨⟨X', Y'⟩, hXY'⟩ : ∃ x, valOf (m.take k ++ [49, 48, 48, 49] ++ m.drop k) = x := ⟨_, rfl⟩
  rw [hXY] at v1 v2
  rw [hXY'] at v3 v4
  dsimp only at v1 v2 v3 v4
  clear hXY hXY' e12 e34 f1 f2 f3 f4 hF hP hQ hQ' hk
  generalize (⟨(m.take k ++ [48, 49, 49] ++ m.drop k).toArray⟩ : ByteArray) = z1 at *
  generalize (⟨(m.take k ++ [49, 48, 48] ++ m.drop k).toArray⟩ : ByteArray) = z2 at *
  generalize (⟨(m.take k ++ [48, 50, 48, 48] ++ m.drop k).toArray⟩ : ByteArray) = z3 at *
  generalize (⟨(m.take k ++ [49, 48, 48, 49] ++ m.drop k).toArray⟩ : ByteArray) = z4 at *
  generalize (⟨(m.take k ++ [48, 49, 49]).toArray⟩ : ByteArray) = u1 at *
  generalize (⟨(m.take k ++ [49, 48, 48]).toArray⟩ : ByteArray) = u2 at *
  generalize (⟨(m.take k ++ [48, 50, 48, 48]).toArray⟩ : ByteArray) = u3 at *
  generalize (⟨(m.take k ++ [49, 48, 48, 49]).toArray⟩ : ByteArray) = u4 at *
  generalize (⟨(m.take k).toArray⟩ : ByteArray) = a at *
  generalize (⟨(m.drop k).toArray⟩ : ByteArray) = b at *
  generalize (⟨m.toArray⟩ : ByteArray) = t at *
  have za : a.size ≤ 40 := by omega
  have zb : b.size ≤ 40 := by omega
  have y1 : u1.size ≤ 50 := by omega
  have y2 : u2.size ≤ 50 := by omega
  have y3 : u3.size ≤ 50 := by omega
  have y4 : u4.size ≤ 50 := by omega
  obtain ⟨n, hn⟩ : ∃ n, m.length = n := ⟨_, rfl⟩
  rw [hn] at hl hM1 hmb hkm x2 st
  clear hn la lb s1 s2 s3 s4 sa sb
  change a ++ ⟨#[48, 49, 49]⟩ = u1 at j1
  change a ++ ⟨#[49, 48, 48]⟩ = u2 at j2
  change a ++ ⟨#[48, 50, 48, 48]⟩ = u3 at j3
  change a ++ ⟨#[49, 48, 48, 49]⟩ = u4 at j4
  obtain ⟨J, hJ⟩ : ∃ J, modZ p 2 = J := ⟨_, rfl⟩
  rw [hJ] at hM2
  clear hJ hp hq
  have HT := Lib.hid hT
  have HM1 := Lib.hid hM1
  have HM2 := Lib.hid hM2
  have HV1 := Lib.hid v1
  have HV2 := Lib.hid v2
  have HV3 := Lib.hid v3
  have HV4 := Lib.hid v4
  clear hT hM1 hM2 v1 v2 v3 v4 hmb
  go_enter Tryd.func10, Tryd.ntmps10
  go_wp2_with fail
  refine (HT.out _).mono ?_
  rintro e w1 ⟨rfl, hb1⟩
  have B1 : Below w.heap.size w w1 := bl_call (by repeat (first | exact Below.refl _ _ | exact Nat.le_refl _ | refine Below.alloc ?_ ?_ _ | refine Below.setCell ?_ ?_ _ | refine Below.drew ?_ | refine bl_drewN ?_ _ | (assumption) | refine bl_call ?_ (by assumption) ?_ | omega | (simp <;> omega))) hb1 (by first | assumption | (simp; done) | (simp; omega) | omega)
  clear hb1
  have hsz_1 := B1.size
  go_wp2_with fail
  refine (HM1.out _).mono ?_
  rintro e w2 ⟨rfl, hb2⟩
  have B2 : Below w.heap.size w w2 := bl_call (by repeat (first | exact Below.refl _ _ | exact Nat.le_refl _ | refine Below.alloc ?_ ?_ _ | refine Below.setCell ?_ ?_ _ | refine Below.drew ?_ | refine bl_drewN ?_ _ | (assumption) | refine bl_call ?_ (by assumption) ?_ | omega | (simp <;> omega))) hb2 (by first | assumption | (simp; done) | (simp; omega) | omega)
  clear hb2
  have hsz_2 := B2.size
  go_upto_region 5 with fail
  obtain ⟨w3, h3⟩ : ∃ w3, w3 = (w2.alloc (.cells #[.int .i64 0, .int .i64 0] 23)).alloc (.cells #[.int .i64 0, .int .i64 0] 23) := ⟨_, rfl⟩
  rw [← h3]
  have B3 : Below w.heap.size w w3 := by rw [h3]; exact (by repeat (first | exact Below.refl _ _ | exact Nat.le_refl _ | refine Below.alloc ?_ ?_ _ | refine Below.setCell ?_ ?_ _ | refine Below.drew ?_ | refine bl_drewN ?_ _ | (assumption) | refine bl_call ?_ (by assumption) ?_ | omega | (simp <;> omega)))
  have R3 : w3.heap[w2.heap.size]? = some (.cells #[.int .i64 0, .int .i64 0] 23 (0, 0)) := by rw [h3]; exact (by repeat (first | assumption | (with_reducible apply blk_set2) | (with_reducible apply blk_set1) | (with_reducible refine blk_far2 ?_ ?_; (first | omega | (simp; done) | (simp; omega))) | (with_reducible refine blk_far1 ?_ ?_; (first | omega | (simp; done) | (simp; omega))) | (with_reducible refine blk_new' _ _ ?_; (first | omega | (simp; done) | (simp; omega))) | (with_reducible refine blk_old ?_) | (with_reducible refine blk_drew ?_)))
  have S3 : w3.heap[w2.heap.size + 1]? = some (.cells #[.int .i64 0, .int .i64 0] 23 (0, 0)) := by rw [h3]; exact (by repeat (first | assumption | (with_reducible apply blk_set2) | (with_reducible apply blk_set1) | (with_reducible refine blk_far2 ?_ ?_; (first | omega | (simp; done) | (simp; omega))) | (with_reducible refine blk_far1 ?_ ?_; (first | omega | (simp; done) | (simp; omega))) | (with_reducible refine blk_new' _ _ ?_; (first | omega | (simp; done) | (simp; omega))) | (with_reducible refine blk_old ?_) | (with_reducible refine blk_drew ?_)))
  clear h3
  have hOw : w.heap.size ≤ w2.heap.size := by have := B2.size; omega
  obtain ⟨O, hO⟩ : ∃ O, w2.heap.size = O := ⟨_, rfl⟩
  rw [hO] at R3 S3 hOw
  rw [hO]
  clear hO B2 HT HM1
  go_wp2_with fail
  refine (HM2.out _).mono ?_
  rintro e w4 ⟨rfl, hb4⟩
  have R4 := blk_call hb4 R3
  have S4 := blk_call hb4 S3
  have B4 := bl_call B3 hb4 (by have := blk_lt R3; omega)
  have z4' := blk_lt S4
  clear hb4 R3 S3 B3
  by_cases hJ : J = 0
  · clear HV3 HV4 j3 j4 i3 i4 y3 y4
    have pblk9 := R4
    go_upto_region 6 with fail
    have pblk9 : w4.heap[O]? = some (.cells #[.int .i64 0, .int .i64 0] 23 (0, 0)) := by first | assumption | exact hblk9
    refine with_act fun a0 ha0 => ?_
    refine wp_region_inv (by kernel_rfl) (by kernel_rfl) (fun s a' w' => ∃ v24 v25 v26 v27 v28 v29 v30 v31 v32 v23 v33 v34 v11 : Value, a' = putL a0 [(24, v24), (25, v25), (26, v26), (27, v27), (28, v28), (29, v29), (30, v30), (31, v31), (32, v32), (23, v23), (33, v33), (34, v34), (11, v11)] ∧ Hid ((s 0 = true → v24 = .string t) ∧ (s 1 = true → v25 = .int .i64 k) ∧ (s 2 = true → v26 = .string a) ∧ (s 3 = true → v27 = .string u1) ∧ (s 4 = true → v28 = .string t) ∧ (s 5 = true → v29 = .int .i64 k) ∧ (s 6 = true → v30 = .string b) ∧ (s 7 = true → v31 = .string z1) ∧ (s 8 = true → v32 = .tuple #[.agg #[.int .i64 X, .int .i64 Y], .int .i64 0]) ∧ (s 9 = true → v23 = .tuple #[.agg #[.int .i64 X, .int .i64 Y], .int .i64 0]) ∧ (s 10 = true → v33 = .agg #[.int .i64 X, .int .i64 Y]) ∧ (s 11 = true → v34 = .int .i64 0) ∧ (s 13 = true → v11 = .int .i64 0) ∧ True) ∧ BelX [O] w4 w' ∧ (∃ (c0 c1 : Value), w'.heap[O]? = some (.cells #[c0, c1] 23 (0, 0)) ∧ (s 12 = true → c0 = .int .i64 X ∧ c1 = .int .i64 Y) ∧ (s 12 = false → c0 = .int .i64 0 ∧ c1 = .int .i64 0)) ∧ (s 12 = true → s 0 = true ∧ s 1 = true ∧ s 2 = true ∧ s 3 = true ∧ s 4 = true ∧ s 5 = true ∧ s 6 = true ∧ s 7 = true ∧ s 8 = true ∧ s 9 = true ∧ s 10 = true ∧ True) ∧ True) ?x1hzero ⟨?x1hs0, ?x1hs1, ?x1hs2, ?x1hs3, ?x1hs4, ?x1hs5, ?x1hs6, ?x1hs7, ?x1hs8, ?x1hs9, ?x1hs10, ?x1hs11, ?x1hs12, ?x1hs13, trivial⟩ ?x1hdone
    case x1hzero =>
      refine ⟨a0.tmps.getD 24 undef, a0.tmps.getD 25 undef, a0.tmps.getD 26 undef, a0.tmps.getD 27 undef, a0.tmps.getD 28 undef, a0.tmps.getD 29 undef, a0.tmps.getD 30 undef, a0.tmps.getD 31 undef, a0.tmps.getD 32 undef, a0.tmps.getD 23 undef, a0.tmps.getD 33 undef, a0.tmps.getD 34 undef, a0.tmps.getD 11 undef, ?_, ?_, ?_, ?_, ?_, trivial⟩
      · simp only [putL, put_self]
      · exact Lib.hid ⟨fun h => (by simp at h), fun h => (by simp at h), fun h => (by simp at h), fun h => (by simp at h), fun h => (by simp at h), fun h => (by simp at h), fun h => (by simp at h), fun h => (by simp at h), fun h => (by simp at h), fun h => (by simp at h), fun h => (by simp at h), fun h => (by simp at h), fun h => (by simp at h), trivial⟩
      · exact BelX.start _ _
      · exact ⟨.int .i64 0, .int .i64 0, pblk9, fun h => (by simp at h), fun _ => ⟨rfl, rfl⟩⟩
      · exact fun h => (by simp at h)
    case x1hs0 =>
      intro s a' w' hsk hdep hI K hK
      try dsimp only at hI hK
      obtain ⟨v24, v25, v26, v27, v28, v29, v30, v31, v32, v23, v33, v34, v11, hact, hR, hX, hP9, hQ9, _⟩ := hI
      subst hact
      have HK := Lib.hid hK
      clear hK
      obtain ⟨b9_0, b9_1, pb9, pt9, pf9⟩ := hP9
      have hs0 : s 12 = false := Bool.eq_false_iff.2 fun h => (by have := hQ9 h; simp [hsk] at this)
      obtain ⟨q9_0, q9_1⟩ := pf9 hs0
      subst q9_0
      subst q9_1
      clear hs0
      have kp9_0 := cell_of_row w' (O) 0 _ _ _ pb9
      have kp9_1 := cell_of_row w' (O) 1 _ _ _ pb9
      simp only [List.getElem?_toArray, List.getElem?_cons_zero, List.getElem?_cons_succ] at kp9_0 kp9_1
      have kq9 : ∀ o, w'.frozen? ⟨O, o, none⟩ = false := fun o => frozen_of_row w' _ o _ _ pb9
      have hPB9 := Lib.hid pb9
      clear pb9
      have hPT9 := Lib.hid pt9
      clear pt9
      have hPF9 := Lib.hid pf9
      clear pf9
      clear hdep
      refine StepG.mk rfl ?_; rw [ha0]; simp only [putL, Act.put, List.setIfInBounds_toArray, List.set_cons_zero, List.set_cons_succ]
      go_wp2_with fail
      refine HK.out _ _ ?_
      refine ⟨(.string t), v25, v26, v27, v28, v29, v30, v31, v32, v23, v33, v34, v11, (by rw [ha0]; simp only [putL, Act.put, List.setIfInBounds_toArray, List.set_cons_zero, List.set_cons_succ]), ?_, ?_, ?_, ?_, trivial⟩
      · obtain ⟨h24, h25, h26, h27, h28, h29, h30, h31, h32, h23, h33, h34, h11, _⟩ := hR.out
        exact Lib.hid ⟨fun _ => rfl, fun h => h25 (by simpa using h), fun h => h26 (by simpa using h), fun h => h27 (by simpa using h), fun h => h28 (by simpa using h), fun h => h29 (by simpa using h), fun h => h30 (by simpa using h), fun h => h31 (by simpa using h), fun h => h32 (by simpa using h), fun h => h23 (by simpa using h), fun h => h33 (by simpa using h), fun h => h34 (by simpa using h), fun h => h11 (by simpa using h), trivial⟩
      · exact hX
      · exact ⟨_, _, hPB9.out, fun h => hPT9.out (by simpa using h), fun h => ⟨rfl, rfl⟩⟩
      · exact fun h => (by have h1 := hQ9 (by simpa using h); simp [h1])
    case x1hs1 =>
      intro s a' w' hsk hdep hI K hK
      try dsimp only at hI hK
      obtain ⟨v24, v25, v26, v27, v28, v29, v30, v31, v32, v23, v33, v34, v11, hact, hR, hX, hP9, hQ9, _⟩ := hI
      subst hact
      have HK := Lib.hid hK
      clear hK
      obtain ⟨b9_0, b9_1, pb9, pt9, pf9⟩ := hP9
      have hs0 : s 12 = false := Bool.eq_false_iff.2 fun h => (by have := hQ9 h; simp [hsk] at this)
      obtain ⟨q9_0, q9_1⟩ := pf9 hs0
      subst q9_0
      subst q9_1
      clear hs0
      have kp9_0 := cell_of_row w' (O) 0 _ _ _ pb9
      have kp9_1 := cell_of_row w' (O) 1 _ _ _ pb9
      simp only [List.getElem?_toArray, List.getElem?_cons_zero, List.getElem?_cons_succ] at kp9_0 kp9_1
      have kq9 : ∀ o, w'.frozen? ⟨O, o, none⟩ = false := fun o => frozen_of_row w' _ o _ _ pb9
      have hPB9 := Lib.hid pb9
      clear pb9
      have hPT9 := Lib.hid pt9
      clear pt9
      have hPF9 := Lib.hid pf9
      clear pf9
      clear hdep
      refine StepG.mk rfl ?_; rw [ha0]; simp only [putL, Act.put, List.setIfInBounds_toArray, List.set_cons_zero, List.set_cons_succ]
      go_wp2_with fail
      refine HK.out _ _ ?_
      refine ⟨v24, (.int .i64 k), v26, v27, v28, v29, v30, v31, v32, v23, v33, v34, v11, (by rw [ha0]; simp only [putL, Act.put, List.setIfInBounds_toArray, List.set_cons_zero, List.set_cons_succ]), ?_, ?_, ?_, ?_, trivial⟩
      · obtain ⟨h24, h25, h26, h27, h28, h29, h30, h31, h32, h23, h33, h34, h11, _⟩ := hR.out
        exact Lib.hid ⟨fun h => h24 (by simpa using h), fun _ => rfl, fun h => h26 (by simpa using h), fun h => h27 (by simpa using h), fun h => h28 (by simpa using h), fun h => h29 (by simpa using h), fun h => h30 (by simpa using h), fun h => h31 (by simpa using h), fun h => h32 (by simpa using h), fun h => h23 (by simpa using h), fun h => h33 (by simpa using h), fun h => h34 (by simpa using h), fun h => h11 (by simpa using h), trivial⟩
      · exact hX
      · exact ⟨_, _, hPB9.out, fun h => hPT9.out (by simpa using h), fun h => ⟨rfl, rfl⟩⟩
      · exact fun h => (by have h1 := hQ9 (by simpa using h); simp [h1])
    case x1hs2 =>
      intro s a' w' hsk hdep hI K hK
      try dsimp only at hI hK
      obtain ⟨v24, v25, v26, v27, v28, v29, v30, v31, v32, v23, v33, v34, v11, hact, hR, hX, hP9, hQ9, _⟩ := hI
      subst hact
      have HK := Lib.hid hK
      clear hK
      have e24 : v24 = .string t := by obtain ⟨h24, h25, h26, h27, h28, h29, h30, h31, h32, h23, h33, h34, h11, _⟩ := hR.out; exact h24 (hdep ⟨0, .data⟩ (by simp) rfl)
      subst e24
      have e25 : v25 = .int .i64 k := by obtain ⟨h24, h25, h26, h27, h28, h29, h30, h31, h32, h23, h33, h34, h11, _⟩ := hR.out; exact h25 (hdep ⟨1, .data⟩ (by simp) rfl)
      subst e25
      obtain ⟨b9_0, b9_1, pb9, pt9, pf9⟩ := hP9
      have hs0 : s 12 = false := Bool.eq_false_iff.2 fun h => (by have := hQ9 h; simp [hsk] at this)
      obtain ⟨q9_0, q9_1⟩ := pf9 hs0
      subst q9_0
      subst q9_1
      clear hs0
      have kp9_0 := cell_of_row w' (O) 0 _ _ _ pb9
      have kp9_1 := cell_of_row w' (O) 1 _ _ _ pb9
      simp only [List.getElem?_toArray, List.getElem?_cons_zero, List.getElem?_cons_succ] at kp9_0 kp9_1
      have kq9 : ∀ o, w'.frozen? ⟨O, o, none⟩ = false := fun o => frozen_of_row w' _ o _ _ pb9
      have hPB9 := Lib.hid pb9
      clear pb9
      have hPT9 := Lib.hid pt9
      clear pt9
      have hPF9 := Lib.hid pf9
      clear pf9
      clear hdep
      refine StepG.mk rfl ?_; rw [ha0]; simp only [putL, Act.put, List.setIfInBounds_toArray, List.set_cons_zero, List.set_cons_succ]
      go_wp2_with fail
      refine HK.out _ _ ?_
      refine ⟨(.string t), (.int .i64 k), (.string a), v27, v28, v29, v30, v31, v32, v23, v33, v34, v11, (by rw [ha0]; simp only [putL, Act.put, List.setIfInBounds_toArray, List.set_cons_zero, List.set_cons_succ]), ?_, ?_, ?_, ?_, trivial⟩
      · obtain ⟨h24, h25, h26, h27, h28, h29, h30, h31, h32, h23, h33, h34, h11, _⟩ := hR.out
        exact Lib.hid ⟨fun _ => rfl, fun _ => rfl, fun _ => rfl, fun h => h27 (by simpa using h), fun h => h28 (by simpa using h), fun h => h29 (by simpa using h), fun h => h30 (by simpa using h), fun h => h31 (by simpa using h), fun h => h32 (by simpa using h), fun h => h23 (by simpa using h), fun h => h33 (by simpa using h), fun h => h34 (by simpa using h), fun h => h11 (by simpa using h), trivial⟩
      · exact hX
      · exact ⟨_, _, hPB9.out, fun h => hPT9.out (by simpa using h), fun h => ⟨rfl, rfl⟩⟩
      · exact fun h => (by have h1 := hQ9 (by simpa using h); simp [h1])
    case x1hs3 =>
      intro s a' w' hsk hdep hI K hK
      try dsimp only at hI hK
      obtain ⟨v24, v25, v26, v27, v28, v29, v30, v31, v32, v23, v33, v34, v11, hact, hR, hX, hP9, hQ9, _⟩ := hI
      subst hact
      have HK := Lib.hid hK
      clear hK
      have e26 : v26 = .string a := by obtain ⟨h24, h25, h26, h27, h28, h29, h30, h31, h32, h23, h33, h34, h11, _⟩ := hR.out; exact h26 (hdep ⟨2, .data⟩ (by simp) rfl)
      subst e26
      obtain ⟨b9_0, b9_1, pb9, pt9, pf9⟩ := hP9
      have hs0 : s 12 = false := Bool.eq_false_iff.2 fun h => (by have := hQ9 h; simp [hsk] at this)
      obtain ⟨q9_0, q9_1⟩ := pf9 hs0
      subst q9_0
      subst q9_1
      clear hs0
      have kp9_0 := cell_of_row w' (O) 0 _ _ _ pb9
      have kp9_1 := cell_of_row w' (O) 1 _ _ _ pb9
      simp only [List.getElem?_toArray, List.getElem?_cons_zero, List.getElem?_cons_succ] at kp9_0 kp9_1
      have kq9 : ∀ o, w'.frozen? ⟨O, o, none⟩ = false := fun o => frozen_of_row w' _ o _ _ pb9
      have hPB9 := Lib.hid pb9
      clear pb9
      have hPT9 := Lib.hid pt9
      clear pt9
      have hPF9 := Lib.hid pf9
      clear pf9
      clear hdep
      refine StepG.mk rfl ?_; rw [ha0]; simp only [putL, Act.put, List.setIfInBounds_toArray, List.set_cons_zero, List.set_cons_succ]
      go_wp2_with fail
      refine HK.out _ _ ?_
      refine ⟨v24, v25, (.string a), (.string u1), v28, v29, v30, v31, v32, v23, v33, v34, v11, (by rw [ha0]; simp only [putL, Act.put, List.setIfInBounds_toArray, List.set_cons_zero, List.set_cons_succ]), ?_, ?_, ?_, ?_, trivial⟩
      · obtain ⟨h24, h25, h26, h27, h28, h29, h30, h31, h32, h23, h33, h34, h11, _⟩ := hR.out
        exact Lib.hid ⟨fun h => h24 (by simpa using h), fun h => h25 (by simpa using h), fun _ => rfl, fun _ => rfl, fun h => h28 (by simpa using h), fun h => h29 (by simpa using h), fun h => h30 (by simpa using h), fun h => h31 (by simpa using h), fun h => h32 (by simpa using h), fun h => h23 (by simpa using h), fun h => h33 (by simpa using h), fun h => h34 (by simpa using h), fun h => h11 (by simpa using h), trivial⟩
      · exact hX
      · exact ⟨_, _, hPB9.out, fun h => hPT9.out (by simpa using h), fun h => ⟨rfl, rfl⟩⟩
      · exact fun h => (by have h1 := hQ9 (by simpa using h); simp [h1])
    case x1hs4 =>
      intro s a' w' hsk hdep hI K hK
      try dsimp only at hI hK
      obtain ⟨v24, v25, v26, v27, v28, v29, v30, v31, v32, v23, v33, v34, v11, hact, hR, hX, hP9, hQ9, _⟩ := hI
      subst hact
      have HK := Lib.hid hK
      clear hK
      obtain ⟨b9_0, b9_1, pb9, pt9, pf9⟩ := hP9
      have hs0 : s 12 = false := Bool.eq_false_iff.2 fun h => (by have := hQ9 h; simp [hsk] at this)
      obtain ⟨q9_0, q9_1⟩ := pf9 hs0
      subst q9_0
      subst q9_1
      clear hs0
      have kp9_0 := cell_of_row w' (O) 0 _ _ _ pb9
      have kp9_1 := cell_of_row w' (O) 1 _ _ _ pb9
      simp only [List.getElem?_toArray, List.getElem?_cons_zero, List.getElem?_cons_succ] at kp9_0 kp9_1
      have kq9 : ∀ o, w'.frozen? ⟨O, o, none⟩ = false := fun o => frozen_of_row w' _ o _ _ pb9
      have hPB9 := Lib.hid pb9
      clear pb9
      have hPT9 := Lib.hid pt9
      clear pt9
      have hPF9 := Lib.hid pf9
      clear pf9
      clear hdep
      refine StepG.mk rfl ?_; rw [ha0]; simp only [putL, Act.put, List.setIfInBounds_toArray, List.set_cons_zero, List.set_cons_succ]
      go_wp2_with fail
      refine HK.out _ _ ?_
      refine ⟨v24, v25, v26, v27, (.string t), v29, v30, v31, v32, v23, v33, v34, v11, (by rw [ha0]; simp only [putL, Act.put, List.setIfInBounds_toArray, List.set_cons_zero, List.set_cons_succ]), ?_, ?_, ?_, ?_, trivial⟩
      · obtain ⟨h24, h25, h26, h27, h28, h29, h30, h31, h32, h23, h33, h34, h11, _⟩ := hR.out
        exact Lib.hid ⟨fun h => h24 (by simpa using h), fun h => h25 (by simpa using h), fun h => h26 (by simpa using h), fun h => h27 (by simpa using h), fun _ => rfl, fun h => h29 (by simpa using h), fun h => h30 (by simpa using h), fun h => h31 (by simpa using h), fun h => h32 (by simpa using h), fun h => h23 (by simpa using h), fun h => h33 (by simpa using h), fun h => h34 (by simpa using h), fun h => h11 (by simpa using h), trivial⟩
      · exact hX
      · exact ⟨_, _, hPB9.out, fun h => hPT9.out (by simpa using h), fun h => ⟨rfl, rfl⟩⟩
      · exact fun h => (by have h1 := hQ9 (by simpa using h); simp [h1])
    case x1hs5 =>
      intro s a' w' hsk hdep hI K hK
      try dsimp only at hI hK
      obtain ⟨v24, v25, v26, v27, v28, v29, v30, v31, v32, v23, v33, v34, v11, hact, hR, hX, hP9, hQ9, _⟩ := hI
      subst hact
      have HK := Lib.hid hK
      clear hK
      obtain ⟨b9_0, b9_1, pb9, pt9, pf9⟩ := hP9
      have hs0 : s 12 = false := Bool.eq_false_iff.2 fun h => (by have := hQ9 h; simp [hsk] at this)
      obtain ⟨q9_0, q9_1⟩ := pf9 hs0
      subst q9_0
      subst q9_1
      clear hs0
      have kp9_0 := cell_of_row w' (O) 0 _ _ _ pb9
      have kp9_1 := cell_of_row w' (O) 1 _ _ _ pb9
      simp only [List.getElem?_toArray, List.getElem?_cons_zero, List.getElem?_cons_succ] at kp9_0 kp9_1
      have kq9 : ∀ o, w'.frozen? ⟨O, o, none⟩ = false := fun o => frozen_of_row w' _ o _ _ pb9
      have hPB9 := Lib.hid pb9
      clear pb9
      have hPT9 := Lib.hid pt9
      clear pt9
      have hPF9 := Lib.hid pf9
      clear pf9
      clear hdep
      refine StepG.mk rfl ?_; rw [ha0]; simp only [putL, Act.put, List.setIfInBounds_toArray, List.set_cons_zero, List.set_cons_succ]
      go_wp2_with fail
      refine HK.out _ _ ?_
      refine ⟨v24, v25, v26, v27, v28, (.int .i64 k), v30, v31, v32, v23, v33, v34, v11, (by rw [ha0]; simp only [putL, Act.put, List.setIfInBounds_toArray, List.set_cons_zero, List.set_cons_succ]), ?_, ?_, ?_, ?_, trivial⟩
      · obtain ⟨h24, h25, h26, h27, h28, h29, h30, h31, h32, h23, h33, h34, h11, _⟩ := hR.out
        exact Lib.hid ⟨fun h => h24 (by simpa using h), fun h => h25 (by simpa using h), fun h => h26 (by simpa using h), fun h => h27 (by simpa using h), fun h => h28 (by simpa using h), fun _ => rfl, fun h => h30 (by simpa using h), fun h => h31 (by simpa using h), fun h => h32 (by simpa using h), fun h => h23 (by simpa using h), fun h => h33 (by simpa using h), fun h => h34 (by simpa using h), fun h => h11 (by simpa using h), trivial⟩
      · exact hX
      · exact ⟨_, _, hPB9.out, fun h => hPT9.out (by simpa using h), fun h => ⟨rfl, rfl⟩⟩
      · exact fun h => (by have h1 := hQ9 (by simpa using h); simp [h1])
    case x1hs6 =>
      intro s a' w' hsk hdep hI K hK
      try dsimp only at hI hK
      obtain ⟨v24, v25, v26, v27, v28, v29, v30, v31, v32, v23, v33, v34, v11, hact, hR, hX, hP9, hQ9, _⟩ := hI
      subst hact
      have HK := Lib.hid hK
      clear hK
      have e28 : v28 = .string t := by obtain ⟨h24, h25, h26, h27, h28, h29, h30, h31, h32, h23, h33, h34, h11, _⟩ := hR.out; exact h28 (hdep ⟨4, .data⟩ (by simp) rfl)
      subst e28
      have e29 : v29 = .int .i64 k := by obtain ⟨h24, h25, h26, h27, h28, h29, h30, h31, h32, h23, h33, h34, h11, _⟩ := hR.out; exact h29 (hdep ⟨5, .data⟩ (by simp) rfl)
      subst e29
      obtain ⟨b9_0, b9_1, pb9, pt9, pf9⟩ := hP9
      have hs0 : s 12 = false := Bool.eq_false_iff.2 fun h => (by have := hQ9 h; simp [hsk] at this)
      obtain ⟨q9_0, q9_1⟩ := pf9 hs0
      subst q9_0
      subst q9_1
      clear hs0
      have kp9_0 := cell_of_row w' (O) 0 _ _ _ pb9
      have kp9_1 := cell_of_row w' (O) 1 _ _ _ pb9
      simp only [List.getElem?_toArray, List.getElem?_cons_zero, List.getElem?_cons_succ] at kp9_0 kp9_1
      have kq9 : ∀ o, w'.frozen? ⟨O, o, none⟩ = false := fun o => frozen_of_row w' _ o _ _ pb9
      have hPB9 := Lib.hid pb9
      clear pb9
      have hPT9 := Lib.hid pt9
      clear pt9
      have hPF9 := Lib.hid pf9
      clear pf9
      clear hdep
      refine StepG.mk rfl ?_; rw [ha0]; simp only [putL, Act.put, List.setIfInBounds_toArray, List.set_cons_zero, List.set_cons_succ]
      go_wp2_with fail
      refine HK.out _ _ ?_
      refine ⟨v24, v25, v26, v27, (.string t), (.int .i64 k), (.string b), v31, v32, v23, v33, v34, v11, (by rw [ha0]; simp only [putL, Act.put, List.setIfInBounds_toArray, List.set_cons_zero, List.set_cons_succ]), ?_, ?_, ?_, ?_, trivial⟩
      · obtain ⟨h24, h25, h26, h27, h28, h29, h30, h31, h32, h23, h33, h34, h11, _⟩ := hR.out
        exact Lib.hid ⟨fun h => h24 (by simpa using h), fun h => h25 (by simpa using h), fun h => h26 (by simpa using h), fun h => h27 (by simpa using h), fun _ => rfl, fun _ => rfl, fun _ => rfl, fun h => h31 (by simpa using h), fun h => h32 (by simpa using h), fun h => h23 (by simpa using h), fun h => h33 (by simpa using h), fun h => h34 (by simpa using h), fun h => h11 (by simpa using h), trivial⟩
      · exact hX
      · exact ⟨_, _, hPB9.out, fun h => hPT9.out (by simpa using h), fun h => ⟨rfl, rfl⟩⟩
      · exact fun h => (by have h1 := hQ9 (by simpa using h); simp [h1])
    case x1hs7 =>
      intro s a' w' hsk hdep hI K hK
      try dsimp only at hI hK
      obtain ⟨v24, v25, v26, v27, v28, v29, v30, v31, v32, v23, v33, v34, v11, hact, hR, hX, hP9, hQ9, _⟩ := hI
      subst hact
      have HK := Lib.hid hK
      clear hK
      have e27 : v27 = .string u1 := by obtain ⟨h24, h25, h26, h27, h28, h29, h30, h31, h32, h23, h33, h34, h11, _⟩ := hR.out; exact h27 (hdep ⟨3, .data⟩ (by simp) rfl)
      subst e27
      have e30 : v30 = .string b := by obtain ⟨h24, h25, h26, h27, h28, h29, h30, h31, h32, h23, h33, h34, h11, _⟩ := hR.out; exact h30 (hdep ⟨6, .data⟩ (by simp) rfl)
      subst e30
      obtain ⟨b9_0, b9_1, pb9, pt9, pf9⟩ := hP9
      have hs0 : s 12 = false := Bool.eq_false_iff.2 fun h => (by have := hQ9 h; simp [hsk] at this)
      obtain ⟨q9_0, q9_1⟩ := pf9 hs0
      subst q9_0
      subst q9_1
      clear hs0
      have kp9_0 := cell_of_row w' (O) 0 _ _ _ pb9
      have kp9_1 := cell_of_row w' (O) 1 _ _ _ pb9
      simp only [List.getElem?_toArray, List.getElem?_cons_zero, List.getElem?_cons_succ] at kp9_0 kp9_1
      have kq9 : ∀ o, w'.frozen? ⟨O, o, none⟩ = false := fun o => frozen_of_row w' _ o _ _ pb9
      have hPB9 := Lib.hid pb9
      clear pb9
      have hPT9 := Lib.hid pt9
      clear pt9
      have hPF9 := Lib.hid pf9
      clear pf9
      clear hdep
      refine StepG.mk rfl ?_; rw [ha0]; simp only [putL, Act.put, List.setIfInBounds_toArray, List.set_cons_zero, List.set_cons_succ]
      go_wp2_with fail
      refine HK.out _ _ ?_
      refine ⟨v24, v25, v26, (.string u1), v28, v29, (.string b), (.string z1), v32, v23, v33, v34, v11, (by rw [ha0]; simp only [putL, Act.put, List.setIfInBounds_toArray, List.set_cons_zero, List.set_cons_succ]), ?_, ?_, ?_, ?_, trivial⟩
      · obtain ⟨h24, h25, h26, h27, h28, h29, h30, h31, h32, h23, h33, h34, h11, _⟩ := hR.out
        exact Lib.hid ⟨fun h => h24 (by simpa using h), fun h => h25 (by simpa using h), fun h => h26 (by simpa using h), fun _ => rfl, fun h => h28 (by simpa using h), fun h => h29 (by simpa using h), fun _ => rfl, fun _ => rfl, fun h => h32 (by simpa using h), fun h => h23 (by simpa using h), fun h => h33 (by simpa using h), fun h => h34 (by simpa using h), fun h => h11 (by simpa using h), trivial⟩
      · exact hX
      · exact ⟨_, _, hPB9.out, fun h => hPT9.out (by simpa using h), fun h => ⟨rfl, rfl⟩⟩
      · exact fun h => (by have h1 := hQ9 (by simpa using h); simp [h1])
    case x1hs8 =>
      intro s a' w' hsk hdep hI K hK
      try dsimp only at hI hK
      obtain ⟨v24, v25, v26, v27, v28, v29, v30, v31, v32, v23, v33, v34, v11, hact, hR, hX, hP9, hQ9, _⟩ := hI
      subst hact
      have HK := Lib.hid hK
      clear hK
      have e31 : v31 = .string z1 := by obtain ⟨h24, h25, h26, h27, h28, h29, h30, h31, h32, h23, h33, h34, h11, _⟩ := hR.out; exact h31 (hdep ⟨7, .data⟩ (by simp) rfl)
      subst e31
      obtain ⟨b9_0, b9_1, pb9, pt9, pf9⟩ := hP9
      have hs0 : s 12 = false := Bool.eq_false_iff.2 fun h => (by have := hQ9 h; simp [hsk] at this)
      obtain ⟨q9_0, q9_1⟩ := pf9 hs0
      subst q9_0
      subst q9_1
      clear hs0
      have kp9_0 := cell_of_row w' (O) 0 _ _ _ pb9
      have kp9_1 := cell_of_row w' (O) 1 _ _ _ pb9
      simp only [List.getElem?_toArray, List.getElem?_cons_zero, List.getElem?_cons_succ] at kp9_0 kp9_1
      have kq9 : ∀ o, w'.frozen? ⟨O, o, none⟩ = false := fun o => frozen_of_row w' _ o _ _ pb9
      have hPB9 := Lib.hid pb9
      clear pb9
      have hPT9 := Lib.hid pt9
      clear pt9
      have hPF9 := Lib.hid pf9
      clear pf9
      clear hdep
      refine StepG.mk rfl ?_; rw [ha0]; simp only [putL, Act.put, List.setIfInBounds_toArray, List.set_cons_zero, List.set_cons_succ]
      go_wp2_with fail
      refine ((HV1.out _)).mono ?_
      rintro e wn ⟨rfl, hb⟩
      go_wp2_with fail
      refine HK.out _ _ ?_
      refine ⟨v24, v25, v26, v27, v28, v29, v30, (.string z1), (.tuple #[.agg #[.int .i64 X, .int .i64 Y], .int .i64 0]), v23, v33, v34, v11, (by rw [ha0]; simp only [putL, Act.put, List.setIfInBounds_toArray, List.set_cons_zero, List.set_cons_succ]), ?_, ?_, ?_, ?_, trivial⟩
      · obtain ⟨h24, h25, h26, h27, h28, h29, h30, h31, h32, h23, h33, h34, h11, _⟩ := hR.out
        exact Lib.hid ⟨fun h => h24 (by simpa using h), fun h => h25 (by simpa using h), fun h => h26 (by simpa using h), fun h => h27 (by simpa using h), fun h => h28 (by simpa using h), fun h => h29 (by simpa using h), fun h => h30 (by simpa using h), fun _ => rfl, fun _ => rfl, fun h => h23 (by simpa using h), fun h => h33 (by simpa using h), fun h => h34 (by simpa using h), fun h => h11 (by simpa using h), trivial⟩
      · exact hX.call hb
      · exact ⟨_, _, (hb.block _ (blk_lt hPB9.out)).trans hPB9.out, fun h => hPT9.out (by simpa using h), fun h => ⟨rfl, rfl⟩⟩
      · exact fun h => (by have h1 := hQ9 (by simpa using h); simp [h1])
    case x1hs9 =>
      intro s a' w' hsk hdep hI K hK
      try dsimp only at hI hK
      obtain ⟨v24, v25, v26, v27, v28, v29, v30, v31, v32, v23, v33, v34, v11, hact, hR, hX, hP9, hQ9, _⟩ := hI
      subst hact
      have HK := Lib.hid hK
      clear hK
      have e32 : v32 = .tuple #[.agg #[.int .i64 X, .int .i64 Y], .int .i64 0] := by obtain ⟨h24, h25, h26, h27, h28, h29, h30, h31, h32, h23, h33, h34, h11, _⟩ := hR.out; exact h32 (hdep ⟨8, .data⟩ (by simp) rfl)
      subst e32
      obtain ⟨b9_0, b9_1, pb9, pt9, pf9⟩ := hP9
      have hs0 : s 12 = false := Bool.eq_false_iff.2 fun h => (by have := hQ9 h; simp [hsk] at this)
      obtain ⟨q9_0, q9_1⟩ := pf9 hs0
      subst q9_0
      subst q9_1
      clear hs0
      have kp9_0 := cell_of_row w' (O) 0 _ _ _ pb9
      have kp9_1 := cell_of_row w' (O) 1 _ _ _ pb9
      simp only [List.getElem?_toArray, List.getElem?_cons_zero, List.getElem?_cons_succ] at kp9_0 kp9_1
      have kq9 : ∀ o, w'.frozen? ⟨O, o, none⟩ = false := fun o => frozen_of_row w' _ o _ _ pb9
      have hPB9 := Lib.hid pb9
      clear pb9
      have hPT9 := Lib.hid pt9
      clear pt9
      have hPF9 := Lib.hid pf9
      clear pf9
      clear hdep
      refine StepG.mk rfl ?_; rw [ha0]; simp only [putL, Act.put, List.setIfInBounds_toArray, List.set_cons_zero, List.set_cons_succ]
      go_wp2_with fail
      refine HK.out _ _ ?_
      refine ⟨v24, v25, v26, v27, v28, v29, v30, v31, (.tuple #[.agg #[.int .i64 X, .int .i64 Y], .int .i64 0]), (.tuple #[.agg #[.int .i64 X, .int .i64 Y], .int .i64 0]), v33, v34, v11, (by rw [ha0]; simp only [putL, Act.put, List.setIfInBounds_toArray, List.set_cons_zero, List.set_cons_succ]), ?_, ?_, ?_, ?_, trivial⟩
      · obtain ⟨h24, h25, h26, h27, h28, h29, h30, h31, h32, h23, h33, h34, h11, _⟩ := hR.out
        exact Lib.hid ⟨fun h => h24 (by simpa using h), fun h => h25 (by simpa using h), fun h => h26 (by simpa using h), fun h => h27 (by simpa using h), fun h => h28 (by simpa using h), fun h => h29 (by simpa using h), fun h => h30 (by simpa using h), fun h => h31 (by simpa using h), fun _ => rfl, fun _ => rfl, fun h => h33 (by simpa using h), fun h => h34 (by simpa using h), fun h => h11 (by simpa using h), trivial⟩
      · exact hX
      · exact ⟨_, _, hPB9.out, fun h => hPT9.out (by simpa using h), fun h => ⟨rfl, rfl⟩⟩
      · exact fun h => (by have h1 := hQ9 (by simpa using h); simp [h1])
    case x1hs10 =>
      intro s a' w' hsk hdep hI K hK
      try dsimp only at hI hK
      obtain ⟨v24, v25, v26, v27, v28, v29, v30, v31, v32, v23, v33, v34, v11, hact, hR, hX, hP9, hQ9, _⟩ := hI
      subst hact
      have HK := Lib.hid hK
      clear hK
      have e23 : v23 = .tuple #[.agg #[.int .i64 X, .int .i64 Y], .int .i64 0] := by obtain ⟨h24, h25, h26, h27, h28, h29, h30, h31, h32, h23, h33, h34, h11, _⟩ := hR.out; exact h23 (hdep ⟨9, .data⟩ (by simp) rfl)
      subst e23
      obtain ⟨b9_0, b9_1, pb9, pt9, pf9⟩ := hP9
      have hs0 : s 12 = false := Bool.eq_false_iff.2 fun h => (by have := hQ9 h; simp [hsk] at this)
      obtain ⟨q9_0, q9_1⟩ := pf9 hs0
      subst q9_0
      subst q9_1
      clear hs0
      have kp9_0 := cell_of_row w' (O) 0 _ _ _ pb9
      have kp9_1 := cell_of_row w' (O) 1 _ _ _ pb9
      simp only [List.getElem?_toArray, List.getElem?_cons_zero, List.getElem?_cons_succ] at kp9_0 kp9_1
      have kq9 : ∀ o, w'.frozen? ⟨O, o, none⟩ = false := fun o => frozen_of_row w' _ o _ _ pb9
      have hPB9 := Lib.hid pb9
      clear pb9
      have hPT9 := Lib.hid pt9
      clear pt9
      have hPF9 := Lib.hid pf9
      clear pf9
      clear hdep
      refine StepG.mk rfl ?_; rw [ha0]; simp only [putL, Act.put, List.setIfInBounds_toArray, List.set_cons_zero, List.set_cons_succ]
      go_wp2_with fail
      refine HK.out _ _ ?_
      refine ⟨v24, v25, v26, v27, v28, v29, v30, v31, v32, (.tuple #[.agg #[.int .i64 X, .int .i64 Y], .int .i64 0]), (.agg #[.int .i64 X, .int .i64 Y]), v34, v11, (by rw [ha0]; simp only [putL, Act.put, List.setIfInBounds_toArray, List.set_cons_zero, List.set_cons_succ]), ?_, ?_, ?_, ?_, trivial⟩
      · obtain ⟨h24, h25, h26, h27, h28, h29, h30, h31, h32, h23, h33, h34, h11, _⟩ := hR.out
        exact Lib.hid ⟨fun h => h24 (by simpa using h), fun h => h25 (by simpa using h), fun h => h26 (by simpa using h), fun h => h27 (by simpa using h), fun h => h28 (by simpa using h), fun h => h29 (by simpa using h), fun h => h30 (by simpa using h), fun h => h31 (by simpa using h), fun h => h32 (by simpa using h), fun _ => rfl, fun _ => rfl, fun h => h34 (by simpa using h), fun h => h11 (by simpa using h), trivial⟩
      · exact hX
      · exact ⟨_, _, hPB9.out, fun h => hPT9.out (by simpa using h), fun h => ⟨rfl, rfl⟩⟩
      · exact fun h => (by have h1 := hQ9 (by simpa using h); simp [h1])
    case x1hs11 =>
      intro s a' w' hsk hdep hI K hK
      try dsimp only at hI hK
      obtain ⟨v24, v25, v26, v27, v28, v29, v30, v31, v32, v23, v33, v34, v11, hact, hR, hX, hP9, hQ9, _⟩ := hI
      subst hact
      have HK := Lib.hid hK
      clear hK
      have e23 : v23 = .tuple #[.agg #[.int .i64 X, .int .i64 Y], .int .i64 0] := by obtain ⟨h24, h25, h26, h27, h28, h29, h30, h31, h32, h23, h33, h34, h11, _⟩ := hR.out; exact h23 (hdep ⟨9, .data⟩ (by simp) rfl)
      subst e23
      obtain ⟨b9_0, b9_1, pb9, pt9, pf9⟩ := hP9
      have kp9_0 := cell_of_row w' (O) 0 _ _ _ pb9
      have kp9_1 := cell_of_row w' (O) 1 _ _ _ pb9
      simp only [List.getElem?_toArray, List.getElem?_cons_zero, List.getElem?_cons_succ] at kp9_0 kp9_1
      have kq9 : ∀ o, w'.frozen? ⟨O, o, none⟩ = false := fun o => frozen_of_row w' _ o _ _ pb9
      have hPB9 := Lib.hid pb9
      clear pb9
      have hPT9 := Lib.hid pt9
      clear pt9
      have hPF9 := Lib.hid pf9
      clear pf9
      clear hdep
      refine StepG.mk rfl ?_; rw [ha0]; simp only [putL, Act.put, List.setIfInBounds_toArray, List.set_cons_zero, List.set_cons_succ]
      go_wp2_with fail
      refine HK.out _ _ ?_
      refine ⟨v24, v25, v26, v27, v28, v29, v30, v31, v32, (.tuple #[.agg #[.int .i64 X, .int .i64 Y], .int .i64 0]), v33, (.int .i64 0), v11, (by rw [ha0]; simp only [putL, Act.put, List.setIfInBounds_toArray, List.set_cons_zero, List.set_cons_succ]), ?_, ?_, ?_, ?_, trivial⟩
      · obtain ⟨h24, h25, h26, h27, h28, h29, h30, h31, h32, h23, h33, h34, h11, _⟩ := hR.out
        exact Lib.hid ⟨fun h => h24 (by simpa using h), fun h => h25 (by simpa using h), fun h => h26 (by simpa using h), fun h => h27 (by simpa using h), fun h => h28 (by simpa using h), fun h => h29 (by simpa using h), fun h => h30 (by simpa using h), fun h => h31 (by simpa using h), fun h => h32 (by simpa using h), fun _ => rfl, fun h => h33 (by simpa using h), fun _ => rfl, fun h => h11 (by simpa using h), trivial⟩
      · exact hX
      · exact ⟨_, _, hPB9.out, fun h => hPT9.out (by simpa using h), fun h => (hPF9.out (by simpa using h))⟩
      · exact fun h => (by have h1 := hQ9 (by simpa using h); simp [h1])
    case x1hs12 =>
      intro s a' w' hsk hdep hI K hK
      try dsimp only at hI hK
      obtain ⟨v24, v25, v26, v27, v28, v29, v30, v31, v32, v23, v33, v34, v11, hact, hR, hX, hP9, hQ9, _⟩ := hI
      subst hact
      have HK := Lib.hid hK
      clear hK
      have e33 : v33 = .agg #[.int .i64 X, .int .i64 Y] := by obtain ⟨h24, h25, h26, h27, h28, h29, h30, h31, h32, h23, h33, h34, h11, _⟩ := hR.out; exact h33 (hdep ⟨10, .data⟩ (by simp) rfl)
      subst e33
      obtain ⟨b9_0, b9_1, pb9, pt9, pf9⟩ := hP9
      have hs0 : s 12 = false := hsk
      obtain ⟨q9_0, q9_1⟩ := pf9 hs0
      subst q9_0
      subst q9_1
      clear hs0
      have kp9_0 := cell_of_row w' (O) 0 _ _ _ pb9
      have kp9_1 := cell_of_row w' (O) 1 _ _ _ pb9
      simp only [List.getElem?_toArray, List.getElem?_cons_zero, List.getElem?_cons_succ] at kp9_0 kp9_1
      have kq9 : ∀ o, w'.frozen? ⟨O, o, none⟩ = false := fun o => frozen_of_row w' _ o _ _ pb9
      have hPB9 := Lib.hid pb9
      clear pb9
      have hPT9 := Lib.hid pt9
      clear pt9
      have hPF9 := Lib.hid pf9
      clear pf9
      have hd0 : s 0 = true := hdep ⟨0, .phase⟩ (by simp) rfl
      have hd1 : s 1 = true := hdep ⟨1, .phase⟩ (by simp) rfl
      have hd2 : s 2 = true := hdep ⟨2, .phase⟩ (by simp) rfl
      have hd3 : s 3 = true := hdep ⟨3, .phase⟩ (by simp) rfl
      have hd4 : s 4 = true := hdep ⟨4, .phase⟩ (by simp) rfl
      have hd5 : s 5 = true := hdep ⟨5, .phase⟩ (by simp) rfl
      have hd6 : s 6 = true := hdep ⟨6, .phase⟩ (by simp) rfl
      have hd7 : s 7 = true := hdep ⟨7, .phase⟩ (by simp) rfl
      have hd8 : s 8 = true := hdep ⟨8, .chain⟩ (by simp) rfl
      have hd9 : s 9 = true := hdep ⟨9, .phase⟩ (by simp) rfl
      have hd10 : s 10 = true := hdep ⟨10, .data⟩ (by simp) rfl
      clear hdep
      refine StepG.mk rfl ?_; rw [ha0]; simp only [putL, Act.put, List.setIfInBounds_toArray, List.set_cons_zero, List.set_cons_succ]
      go_wp2_with fail
      refine HK.out _ _ ?_
      refine ⟨v24, v25, v26, v27, v28, v29, v30, v31, v32, v23, (.agg #[.int .i64 X, .int .i64 Y]), v34, v11, (by rw [ha0]; simp only [putL, Act.put, List.setIfInBounds_toArray, List.set_cons_zero, List.set_cons_succ]), ?_, ?_, ?_, ?_, trivial⟩
      · obtain ⟨h24, h25, h26, h27, h28, h29, h30, h31, h32, h23, h33, h34, h11, _⟩ := hR.out
        exact Lib.hid ⟨fun h => h24 (by simpa using h), fun h => h25 (by simpa using h), fun h => h26 (by simpa using h), fun h => h27 (by simpa using h), fun h => h28 (by simpa using h), fun h => h29 (by simpa using h), fun h => h30 (by simpa using h), fun h => h31 (by simpa using h), fun h => h32 (by simpa using h), fun h => h23 (by simpa using h), fun _ => rfl, fun h => h34 (by simpa using h), fun h => h11 (by simpa using h), trivial⟩
      · exact ((hX.setOld (p := ⟨O, 0, none⟩) (by simp) _).setOld (p := ⟨O, 1, none⟩) (by simp) _)
      · exact ⟨_, _, blk_set2 hPB9.out, fun _ => ⟨rfl, rfl⟩, fun h => (by simp at h)⟩
      · exact fun _ => (by simp [hd0, hd1, hd2, hd3, hd4, hd5, hd6, hd7, hd8, hd9, hd10])
    case x1hs13 =>
      intro s a' w' hsk hdep hI K hK
      try dsimp only at hI hK
      obtain ⟨v24, v25, v26, v27, v28, v29, v30, v31, v32, v23, v33, v34, v11, hact, hR, hX, hP9, hQ9, _⟩ := hI
      subst hact
      have HK := Lib.hid hK
      clear hK
      have e34 : v34 = .int .i64 0 := by obtain ⟨h24, h25, h26, h27, h28, h29, h30, h31, h32, h23, h33, h34, h11, _⟩ := hR.out; exact h34 (hdep ⟨11, .data⟩ (by simp) rfl)
      subst e34
      obtain ⟨b9_0, b9_1, pb9, pt9, pf9⟩ := hP9
      have kp9_0 := cell_of_row w' (O) 0 _ _ _ pb9
      have kp9_1 := cell_of_row w' (O) 1 _ _ _ pb9
      simp only [List.getElem?_toArray, List.getElem?_cons_zero, List.getElem?_cons_succ] at kp9_0 kp9_1
      have kq9 : ∀ o, w'.frozen? ⟨O, o, none⟩ = false := fun o => frozen_of_row w' _ o _ _ pb9
      have hPB9 := Lib.hid pb9
      clear pb9
      have hPT9 := Lib.hid pt9
      clear pt9
      have hPF9 := Lib.hid pf9
      clear pf9
      clear hdep
      refine StepG.mk rfl ?_; rw [ha0]; simp only [putL, Act.put, List.setIfInBounds_toArray, List.set_cons_zero, List.set_cons_succ]
      go_wp2_with fail
      refine HK.out _ _ ?_
      refine ⟨v24, v25, v26, v27, v28, v29, v30, v31, v32, v23, v33, (.int .i64 0), (.int .i64 0), (by rw [ha0]; simp only [putL, Act.put, List.setIfInBounds_toArray, List.set_cons_zero, List.set_cons_succ]), ?_, ?_, ?_, ?_, trivial⟩
      · obtain ⟨h24, h25, h26, h27, h28, h29, h30, h31, h32, h23, h33, h34, h11, _⟩ := hR.out
        exact Lib.hid ⟨fun h => h24 (by simpa using h), fun h => h25 (by simpa using h), fun h => h26 (by simpa using h), fun h => h27 (by simpa using h), fun h => h28 (by simpa using h), fun h => h29 (by simpa using h), fun h => h30 (by simpa using h), fun h => h31 (by simpa using h), fun h => h32 (by simpa using h), fun h => h23 (by simpa using h), fun h => h33 (by simpa using h), fun _ => rfl, fun _ => rfl, trivial⟩
      · exact hX
      · exact ⟨_, _, hPB9.out, fun h => hPT9.out (by simpa using h), fun h => (hPF9.out (by simpa using h))⟩
      · exact fun h => (by have h1 := hQ9 (by simpa using h); simp [h1])
    intro s a' w5 hall hI
    try dsimp only at hI
    obtain ⟨v24, v25, v26, v27, v28, v29, v30, v31, v32, v23, v33, v34, v11, hact, hR, hXR, hP9, hQ9, _⟩ := hI
    subst hact
    obtain ⟨h24, h25, h26, h27, h28, h29, h30, h31, h32, h23, h33, h34, h11, _⟩ := hR.out
    clear hR
    have e24 := h24 (hall 0 (by decide))
    subst e24
    clear h24
    have e25 := h25 (hall 1 (by decide))
    subst e25
    clear h25
    have e26 := h26 (hall 2 (by decide))
    subst e26
    clear h26
    have e27 := h27 (hall 3 (by decide))
    subst e27
    clear h27
    have e28 := h28 (hall 4 (by decide))
    subst e28
    clear h28
    have e29 := h29 (hall 5 (by decide))
    subst e29
    clear h29
    have e30 := h30 (hall 6 (by decide))
    subst e30
    clear h30
    have e31 := h31 (hall 7 (by decide))
    subst e31
    clear h31
    have e32 := h32 (hall 8 (by decide))
    subst e32
    clear h32
    have e23 := h23 (hall 9 (by decide))
    subst e23
    clear h23
    have e33 := h33 (hall 10 (by decide))
    subst e33
    clear h33
    have e34 := h34 (hall 11 (by decide))
    subst e34
    clear h34
    have e11 := h11 (hall 13 (by decide))
    subst e11
    clear h11
    obtain ⟨c0, c1, pblkR9, hpt, _⟩ := hP9
    clear hQ9
    obtain ⟨es0, es1⟩ := hpt (hall 12 (by decide))
    subst es0
    subst es1
    clear hpt
    try clear pblk9
    have pblk9 := pblkR9
    clear pblkR9
    clear hall
    rw [ha0]; simp only [putL, Act.put, List.setIfInBounds_toArray, List.set_cons_zero, List.set_cons_succ]
    clear ha0
    have B5 : Below w.heap.size w w5 := hXR.below (by first | assumption | exact (by repeat (first | exact Below.refl _ _ | exact Nat.le_refl _ | refine Below.alloc ?_ ?_ _ | refine Below.setCell ?_ ?_ _ | refine Below.drew ?_ | refine bl_drewN ?_ _ | (assumption) | refine bl_call ?_ (by assumption) ?_ | omega | (simp <;> omega)))) (by first | omega | (simp <;> omega)) (by simp <;> omega)
    have S5 := (hXR.block (O + 1) (blk_lt S4) (by simp)).trans S4
    have zz5 := blk_lt pblk9
    have zy5 := blk_lt S5
    clear hXR R4 S4
    have R5 := pblk9
    clear pblk9
    have pblk10 := S5
    go_upto_region 7 with fail
    have pblk10 : w5.heap[O + 1]? = some (.cells #[.int .i64 0, .int .i64 0] 23 (0, 0)) := by first | assumption | exact hblk10
    refine with_act fun a0 ha0 => ?_
    refine wp_region_inv (by kernel_rfl) (by kernel_rfl) (fun s a' w' => ∃ v36 v37 v38 v39 v40 v41 v42 v43 v44 v35 v45 v46 v12 : Value, a' = putL a0 [(36, v36), (37, v37), (38, v38), (39, v39), (40, v40), (41, v41), (42, v42), (43, v43), (44, v44), (35, v35), (45, v45), (46, v46), (12, v12)] ∧ Hid ((s 0 = true → v36 = .string t) ∧ (s 1 = true → v37 = .int .i64 k) ∧ (s 2 = true → v38 = .string a) ∧ (s 3 = true → v39 = .string u2) ∧ (s 4 = true → v40 = .string t) ∧ (s 5 = true → v41 = .int .i64 k) ∧ (s 6 = true → v42 = .string b) ∧ (s 7 = true → v43 = .string z2) ∧ (s 8 = true → v44 = .tuple #[.agg #[.int .i64 X, .int .i64 Y], .int .i64 0]) ∧ (s 9 = true → v35 = .tuple #[.agg #[.int .i64 X, .int .i64 Y], .int .i64 0]) ∧ (s 10 = true → v45 = .agg #[.int .i64 X, .int .i64 Y]) ∧ (s 11 = true → v46 = .int .i64 0) ∧ (s 13 = true → v12 = .int .i64 0) ∧ True) ∧ BelX [O + 1] w5 w' ∧ (∃ (c0 c1 : Value), w'.heap[O + 1]? = some (.cells #[c0, c1] 23 (0, 0)) ∧ (s 12 = true → c0 = .int .i64 X ∧ c1 = .int .i64 Y) ∧ (s 12 = false → c0 = .int .i64 0 ∧ c1 = .int .i64 0)) ∧ (s 12 = true → s 0 = true ∧ s 1 = true ∧ s 2 = true ∧ s 3 = true ∧ s 4 = true ∧ s 5 = true ∧ s 6 = true ∧ s 7 = true ∧ s 8 = true ∧ s 9 = true ∧ s 10 = true ∧ True) ∧ True) ?x2hzero ⟨?x2hs0, ?x2hs1, ?x2hs2, ?x2hs3, ?x2hs4, ?x2hs5, ?x2hs6, ?x2hs7, ?x2hs8, ?x2hs9, ?x2hs10, ?x2hs11, ?x2hs12, ?x2hs13, trivial⟩ ?x2hdone
    case x2hzero =>
      refine ⟨a0.tmps.getD 36 undef, a0.tmps.getD 37 undef, a0.tmps.getD 38 undef, a0.tmps.getD 39 undef, a0.tmps.getD 40 undef, a0.tmps.getD 41 undef, a0.tmps.getD 42 undef, a0.tmps.getD 43 undef, a0.tmps.getD 44 undef, a0.tmps.getD 35 undef, a0.tmps.getD 45 undef, a0.tmps.getD 46 undef, a0.tmps.getD 12 undef, ?_, ?_, ?_, ?_, ?_, trivial⟩
      · simp only [putL, put_self]
      · exact Lib.hid ⟨fun h => (by simp at h), fun h => (by simp at h), fun h => (by simp at h), fun h => (by simp at h), fun h => (by simp at h), fun h => (by simp at h), fun h => (by simp at h), fun h => (by simp at h), fun h => (by simp at h), fun h => (by simp at h), fun h => (by simp at h), fun h => (by simp at h), fun h => (by simp at h), trivial⟩
      · exact BelX.start _ _
      · exact ⟨.int .i64 0, .int .i64 0, pblk10, fun h => (by simp at h), fun _ => ⟨rfl, rfl⟩⟩
      · exact fun h => (by simp at h)
    case x2hs0 =>
      intro s a' w' hsk hdep hI K hK
      try dsimp only at hI hK
      obtain ⟨v36, v37, v38, v39, v40, v41, v42, v43, v44, v35, v45, v46, v12, hact, hR, hX, hP10, hQ10, _⟩ := hI
      subst hact
      have HK := Lib.hid hK
      clear hK
      obtain ⟨b10_0, b10_1, pb10, pt10, pf10⟩ := hP10
      have hs0 : s 12 = false := Bool.eq_false_iff.2 fun h => (by have := hQ10 h; simp [hsk] at this)
      obtain ⟨q10_0, q10_1⟩ := pf10 hs0
      subst q10_0
      subst q10_1
      clear hs0
      have kp10_0 := cell_of_row w' (O + 1) 0 _ _ _ pb10
      have kp10_1 := cell_of_row w' (O + 1) 1 _ _ _ pb10
      simp only [List.getElem?_toArray, List.getElem?_cons_zero, List.getElem?_cons_succ] at kp10_0 kp10_1
      have kq10 : ∀ o, w'.frozen? ⟨O + 1, o, none⟩ = false := fun o => frozen_of_row w' _ o _ _ pb10
      have hPB10 := Lib.hid pb10
      clear pb10
      have hPT10 := Lib.hid pt10
      clear pt10
      have hPF10 := Lib.hid pf10
      clear pf10
      clear hdep
      refine StepG.mk rfl ?_; rw [ha0]; simp only [putL, Act.put, List.setIfInBounds_toArray, List.set_cons_zero, List.set_cons_succ]
      go_wp2_with fail
      refine HK.out _ _ ?_
      refine ⟨(.string t), v37, v38, v39, v40, v41, v42, v43, v44, v35, v45, v46, v12, (by rw [ha0]; simp only [putL, Act.put, List.setIfInBounds_toArray, List.set_cons_zero, List.set_cons_succ]), ?_, ?_, ?_, ?_, trivial⟩
      · obtain ⟨h36, h37, h38, h39, h40, h41, h42, h43, h44, h35, h45, h46, h12, _⟩ := hR.out
        exact Lib.hid ⟨fun _ => rfl, fun h => h37 (by simpa using h), fun h => h38 (by simpa using h), fun h => h39 (by simpa using h), fun h => h40 (by simpa using h), fun h => h41 (by simpa using h), fun h => h42 (by simpa using h), fun h => h43 (by simpa using h), fun h => h44 (by simpa using h), fun h => h35 (by simpa using h), fun h => h45 (by simpa using h), fun h => h46 (by simpa using h), fun h => h12 (by simpa using h), trivial⟩
      · exact hX
      · exact ⟨_, _, hPB10.out, fun h => hPT10.out (by simpa using h), fun h => ⟨rfl, rfl⟩⟩
      · exact fun h => (by have h1 := hQ10 (by simpa using h); simp [h1])
    case x2hs1 =>
      intro s a' w' hsk hdep hI K hK
      try dsimp only at hI hK
      obtain ⟨v36, v37, v38, v39, v40, v41, v42, v43, v44, v35, v45, v46, v12, hact, hR, hX, hP10, hQ10, _⟩ := hI
      subst hact
      have HK := Lib.hid hK
      clear hK
      obtain ⟨b10_0, b10_1, pb10, pt10, pf10⟩ := hP10
      have hs0 : s 12 = false := Bool.eq_false_iff.2 fun h => (by have := hQ10 h; simp [hsk] at this)
      obtain ⟨q10_0, q10_1⟩ := pf10 hs0
      subst q10_0
      subst q10_1
      clear hs0
      have kp10_0 := cell_of_row w' (O + 1) 0 _ _ _ pb10
      have kp10_1 := cell_of_row w' (O + 1) 1 _ _ _ pb10
      simp only [List.getElem?_toArray, List.getElem?_cons_zero, List.getElem?_cons_succ] at kp10_0 kp10_1
      have kq10 : ∀ o, w'.frozen? ⟨O + 1, o, none⟩ = false := fun o => frozen_of_row w' _ o _ _ pb10
      have hPB10 := Lib.hid pb10
      clear pb10
      have hPT10 := Lib.hid pt10
      clear pt10
      have hPF10 := Lib.hid pf10
      clear pf10
      clear hdep
      refine StepG.mk rfl ?_; rw [ha0]; simp only [putL, Act.put, List.setIfInBounds_toArray, List.set_cons_zero, List.set_cons_succ]
      go_wp2_with fail
      refine HK.out _ _ ?_
      refine ⟨v36, (.int .i64 k), v38, v39, v40, v41, v42, v43, v44, v35, v45, v46, v12, (by rw [ha0]; simp only [putL, Act.put, List.setIfInBounds_toArray, List.set_cons_zero, List.set_cons_succ]), ?_, ?_, ?_, ?_, trivial⟩
      · obtain ⟨h36, h37, h38, h39, h40, h41, h42, h43, h44, h35, h45, h46, h12, _⟩ := hR.out
        exact Lib.hid ⟨fun h => h36 (by simpa using h), fun _ => rfl, fun h => h38 (by simpa using h), fun h => h39 (by simpa using h), fun h => h40 (by simpa using h), fun h => h41 (by simpa using h), fun h => h42 (by simpa using h), fun h => h43 (by simpa using h), fun h => h44 (by simpa using h), fun h => h35 (by simpa using h), fun h => h45 (by simpa using h), fun h => h46 (by simpa using h), fun h => h12 (by simpa using h), trivial⟩
      · exact hX
      · exact ⟨_, _, hPB10.out, fun h => hPT10.out (by simpa using h), fun h => ⟨rfl, rfl⟩⟩
      · exact fun h => (by have h1 := hQ10 (by simpa using h); simp [h1])
    case x2hs2 =>
      intro s a' w' hsk hdep hI K hK
      try dsimp only at hI hK
      obtain ⟨v36, v37, v38, v39, v40, v41, v42, v43, v44, v35, v45, v46, v12, hact, hR, hX, hP10, hQ10, _⟩ := hI
      subst hact
      have HK := Lib.hid hK
      clear hK
      have e36 : v36 = .string t := by obtain ⟨h36, h37, h38, h39, h40, h41, h42, h43, h44, h35, h45, h46, h12, _⟩ := hR.out; exact h36 (hdep ⟨0, .data⟩ (by simp) rfl)
      subst e36
      have e37 : v37 = .int .i64 k := by obtain ⟨h36, h37, h38, h39, h40, h41, h42, h43, h44, h35, h45, h46, h12, _⟩ := hR.out; exact h37 (hdep ⟨1, .data⟩ (by simp) rfl)
      subst e37
      obtain ⟨b10_0, b10_1, pb10, pt10, pf10⟩ := hP10
      have hs0 : s 12 = false := Bool.eq_false_iff.2 fun h => (by have := hQ10 h; simp [hsk] at this)
      obtain ⟨q10_0, q10_1⟩ := pf10 hs0
      subst q10_0
      subst q10_1
      clear hs0
      have kp10_0 := cell_of_row w' (O + 1) 0 _ _ _ pb10
      have kp10_1 := cell_of_row w' (O + 1) 1 _ _ _ pb10
      simp only [List.getElem?_toArray, List.getElem?_cons_zero, List.getElem?_cons_succ] at kp10_0 kp10_1
      have kq10 : ∀ o, w'.frozen? ⟨O + 1, o, none⟩ = false := fun o => frozen_of_row w' _ o _ _ pb10
      have hPB10 := Lib.hid pb10
      clear pb10
      have hPT10 := Lib.hid pt10
      clear pt10
      have hPF10 := Lib.hid pf10
      clear pf10
      clear hdep
      refine StepG.mk rfl ?_; rw [ha0]; simp only [putL, Act.put, List.setIfInBounds_toArray, List.set_cons_zero, List.set_cons_succ]
      go_wp2_with fail
      refine HK.out _ _ ?_
      refine ⟨(.string t), (.int .i64 k), (.string a), v39, v40, v41, v42, v43, v44, v35, v45, v46, v12, (by rw [ha0]; simp only [putL, Act.put, List.setIfInBounds_toArray, List.set_cons_zero, List.set_cons_succ]), ?_, ?_, ?_, ?_, trivial⟩
      · obtain ⟨h36, h37, h38, h39, h40, h41, h42, h43, h44, h35, h45, h46, h12, _⟩ := hR.out
        exact Lib.hid ⟨fun _ => rfl, fun _ => rfl, fun _ => rfl, fun h => h39 (by simpa using h), fun h => h40 (by simpa using h), fun h => h41 (by simpa using h), fun h => h42 (by simpa using h), fun h => h43 (by simpa using h), fun h => h44 (by simpa using h), fun h => h35 (by simpa using h), fun h => h45 (by simpa using h), fun h => h46 (by simpa using h), fun h => h12 (by simpa using h), trivial⟩
      · exact hX
      · exact ⟨_, _, hPB10.out, fun h => hPT10.out (by simpa using h), fun h => ⟨rfl, rfl⟩⟩
      · exact fun h => (by have h1 := hQ10 (by simpa using h); simp [h1])
    case x2hs3 =>
      intro s a' w' hsk hdep hI K hK
      try dsimp only at hI hK
      obtain ⟨v36, v37, v38, v39, v40, v41, v42, v43, v44, v35, v45, v46, v12, hact, hR, hX, hP10, hQ10, _⟩ := hI
      subst hact
      have HK := Lib.hid hK
      clear hK
      have e38 : v38 = .string a := by obtain ⟨h36, h37, h38, h39, h40, h41, h42, h43, h44, h35, h45, h46, h12, _⟩ := hR.out; exact h38 (hdep ⟨2, .data⟩ (by simp) rfl)
      subst e38
      obtain ⟨b10_0, b10_1, pb10, pt10, pf10⟩ := hP10
      have hs0 : s 12 = false := Bool.eq_false_iff.2 fun h => (by have := hQ10 h; simp [hsk] at this)
      obtain ⟨q10_0, q10_1⟩ := pf10 hs0
      subst q10_0
      subst q10_1
      clear hs0
      have kp10_0 := cell_of_row w' (O + 1) 0 _ _ _ pb10
      have kp10_1 := cell_of_row w' (O + 1) 1 _ _ _ pb10
      simp only [List.getElem?_toArray, List.getElem?_cons_zero, List.getElem?_cons_succ] at kp10_0 kp10_1
      have kq10 : ∀ o, w'.frozen? ⟨O + 1, o, none⟩ = false := fun o => frozen_of_row w' _ o _ _ pb10
      have hPB10 := Lib.hid pb10
      clear pb10
      have hPT10 := Lib.hid pt10
      clear pt10
      have hPF10 := Lib.hid pf10
      clear pf10
      clear hdep
      refine StepG.mk rfl ?_; rw [ha0]; simp only [putL, Act.put, List.setIfInBounds_toArray, List.set_cons_zero, List.set_cons_succ]
      go_wp2_with fail
      refine HK.out _ _ ?_
      refine ⟨v36, v37, (.string a), (.string u2), v40, v41, v42, v43, v44, v35, v45, v46, v12, (by rw [ha0]; simp only [putL, Act.put, List.setIfInBounds_toArray, List.set_cons_zero, List.set_cons_succ]), ?_, ?_, ?_, ?_, trivial⟩
      · obtain ⟨h36, h37, h38, h39, h40, h41, h42, h43, h44, h35, h45, h46, h12, _⟩ := hR.out
        exact Lib.hid ⟨fun h => h36 (by simpa using h), fun h => h37 (by simpa using h), fun _ => rfl, fun _ => rfl, fun h => h40 (by simpa using h), fun h => h41 (by simpa using h), fun h => h42 (by simpa using h), fun h => h43 (by simpa using h), fun h => h44 (by simpa using h), fun h => h35 (by simpa using h), fun h => h45 (by simpa using h), fun h => h46 (by simpa using h), fun h => h12 (by simpa using h), trivial⟩
      · exact hX
      · exact ⟨_, _, hPB10.out, fun h => hPT10.out (by simpa using h), fun h => ⟨rfl, rfl⟩⟩
      · exact fun h => (by have h1 := hQ10 (by simpa using h); simp [h1])
    case x2hs4 =>
      intro s a' w' hsk hdep hI K hK
      try dsimp only at hI hK
      obtain ⟨v36, v37, v38, v39, v40, v41, v42, v43, v44, v35, v45, v46, v12, hact, hR, hX, hP10, hQ10, _⟩ := hI
      subst hact
      have HK := Lib.hid hK
      clear hK
      obtain ⟨b10_0, b10_1, pb10, pt10, pf10⟩ := hP10
      have hs0 : s 12 = false := Bool.eq_false_iff.2 fun h => (by have := hQ10 h; simp [hsk] at this)
      obtain ⟨q10_0, q10_1⟩ := pf10 hs0
      subst q10_0
      subst q10_1
      clear hs0
      have kp10_0 := cell_of_row w' (O + 1) 0 _ _ _ pb10
      have kp10_1 := cell_of_row w' (O + 1) 1 _ _ _ pb10
      simp only [List.getElem?_toArray, List.getElem?_cons_zero, List.getElem?_cons_succ] at kp10_0 kp10_1
      have kq10 : ∀ o, w'.frozen? ⟨O + 1, o, none⟩ = false := fun o => frozen_of_row w' _ o _ _ pb10
      have hPB10 := Lib.hid pb10
      clear pb10
      have hPT10 := Lib.hid pt10
      clear pt10
      have hPF10 := Lib.hid pf10
      clear pf10
      clear hdep
      refine StepG.mk rfl ?_; rw [ha0]; simp only [putL, Act.put, List.setIfInBounds_toArray, List.set_cons_zero, List.set_cons_succ]
      go_wp2_with fail
      refine HK.out _ _ ?_
      refine ⟨v36, v37, v38, v39, (.string t), v41, v42, v43, v44, v35, v45, v46, v12, (by rw [ha0]; simp only [putL, Act.put, List.setIfInBounds_toArray, List.set_cons_zero, List.set_cons_succ]), ?_, ?_, ?_, ?_, trivial⟩
      · obtain ⟨h36, h37, h38, h39, h40, h41, h42, h43, h44, h35, h45, h46, h12, _⟩ := hR.out
        exact Lib.hid ⟨fun h => h36 (by simpa using h), fun h => h37 (by simpa using h), fun h => h38 (by simpa using h), fun h => h39 (by simpa using h), fun _ => rfl, fun h => h41 (by simpa using h), fun h => h42 (by simpa using h), fun h => h43 (by simpa using h), fun h => h44 (by simpa using h), fun h => h35 (by simpa using h), fun h => h45 (by simpa using h), fun h => h46 (by simpa using h), fun h => h12 (by simpa using h), trivial⟩
      · exact hX
      · exact ⟨_, _, hPB10.out, fun h => hPT10.out (by simpa using h), fun h => ⟨rfl, rfl⟩⟩
      · exact fun h => (by have h1 := hQ10 (by simpa using h); simp [h1])
    case x2hs5 =>
      intro s a' w' hsk hdep hI K hK
      try dsimp only at hI hK
      obtain ⟨v36, v37, v38, v39, v40, v41, v42, v43, v44, v35, v45, v46, v12, hact, hR, hX, hP10, hQ10, _⟩ := hI
      subst hact
      have HK := Lib.hid hK
      clear hK
      obtain ⟨b10_0, b10_1, pb10, pt10, pf10⟩ := hP10
      have hs0 : s 12 = false := Bool.eq_false_iff.2 fun h => (by have := hQ10 h; simp [hsk] at this)
      obtain ⟨q10_0, q10_1⟩ := pf10 hs0
      subst q10_0
      subst q10_1
      clear hs0
      have kp10_0 := cell_of_row w' (O + 1) 0 _ _ _ pb10
      have kp10_1 := cell_of_row w' (O + 1) 1 _ _ _ pb10
      simp only [List.getElem?_toArray, List.getElem?_cons_zero, List.getElem?_cons_succ] at kp10_0 kp10_1
      have kq10 : ∀ o, w'.frozen? ⟨O + 1, o, none⟩ = false := fun o => frozen_of_row w' _ o _ _ pb10
      have hPB10 := Lib.hid pb10
      clear pb10
      have hPT10 := Lib.hid pt10
      clear pt10
      have hPF10 := Lib.hid pf10
      clear pf10
      clear hdep
      refine StepG.mk rfl ?_; rw [ha0]; simp only [putL, Act.put, List.setIfInBounds_toArray, List.set_cons_zero, List.set_cons_succ]
      go_wp2_with fail
      refine HK.out _ _ ?_
      refine ⟨v36, v37, v38, v39, v40, (.int .i64 k), v42, v43, v44, v35, v45, v46, v12, (by rw [ha0]; simp only [putL, Act.put, List.setIfInBounds_toArray, List.set_cons_zero, List.set_cons_succ]), ?_, ?_, ?_, ?_, trivial⟩
      · obtain ⟨h36, h37, h38, h39, h40, h41, h42, h43, h44, h35, h45, h46, h12, _⟩ := hR.out
        exact Lib.hid ⟨fun h => h36 (by simpa using h), fun h => h37 (by simpa using h), fun h => h38 (by simpa using h), fun h => h39 (by simpa using h), fun h => h40 (by simpa using h), fun _ => rfl, fun h => h42 (by simpa using h), fun h => h43 (by simpa using h), fun h => h44 (by simpa using h), fun h => h35 (by simpa using h), fun h => h45 (by simpa using h), fun h => h46 (by simpa using h), fun h => h12 (by simpa using h), trivial⟩
      · exact hX
      · exact ⟨_, _, hPB10.out, fun h => hPT10.out (by simpa using h), fun h => ⟨rfl, rfl⟩⟩
      · exact fun h => (by have h1 := hQ10 (by simpa using h); simp [h1])
    case x2hs6 =>
      intro s a' w' hsk hdep hI K hK
      try dsimp only at hI hK
      obtain ⟨v36, v37, v38, v39, v40, v41, v42, v43, v44, v35, v45, v46, v12, hact, hR, hX, hP10, hQ10, _⟩ := hI
      subst hact
      have HK := Lib.hid hK
      clear hK
      have e40 : v40 = .string t := by obtain ⟨h36, h37, h38, h39, h40, h41, h42, h43, h44, h35, h45, h46, h12, _⟩ := hR.out; exact h40 (hdep ⟨4, .data⟩ (by simp) rfl)
      subst e40
      have e41 : v41 = .int .i64 k := by obtain ⟨h36, h37, h38, h39, h40, h41, h42, h43, h44, h35, h45, h46, h12, _⟩ := hR.out; exact h41 (hdep ⟨5, .data⟩ (by simp) rfl)
      subst e41
      obtain ⟨b10_0, b10_1, pb10, pt10, pf10⟩ := hP10
      have hs0 : s 12 = false := Bool.eq_false_iff.2 fun h => (by have := hQ10 h; simp [hsk] at this)
      obtain ⟨q10_0, q10_1⟩ := pf10 hs0
      subst q10_0
      subst q10_1
      clear hs0
      have kp10_0 := cell_of_row w' (O + 1) 0 _ _ _ pb10
      have kp10_1 := cell_of_row w' (O + 1) 1 _ _ _ pb10
      simp only [List.getElem?_toArray, List.getElem?_cons_zero, List.getElem?_cons_succ] at kp10_0 kp10_1
      have kq10 : ∀ o, w'.frozen? ⟨O + 1, o, none⟩ = false := fun o => frozen_of_row w' _ o _ _ pb10
      have hPB10 := Lib.hid pb10
      clear pb10
      have hPT10 := Lib.hid pt10
      clear pt10
      have hPF10 := Lib.hid pf10
      clear pf10
      clear hdep
      refine StepG.mk rfl ?_; rw [ha0]; simp only [putL, Act.put, List.setIfInBounds_toArray, List.set_cons_zero, List.set_cons_succ]
      go_wp2_with fail
      refine HK.out _ _ ?_
      refine ⟨v36, v37, v38, v39, (.string t), (.int .i64 k), (.string b), v43, v44, v35, v45, v46, v12, (by rw [ha0]; simp only [putL, Act.put, List.setIfInBounds_toArray, List.set_cons_zero, List.set_cons_succ]), ?_, ?_, ?_, ?_, trivial⟩
      · obtain ⟨h36, h37, h38, h39, h40, h41, h42, h43, h44, h35, h45, h46, h12, _⟩ := hR.out
        exact Lib.hid ⟨fun h => h36 (by simpa using h), fun h => h37 (by simpa using h), fun h => h38 (by simpa using h), fun h => h39 (by simpa using h), fun _ => rfl, fun _ => rfl, fun _ => rfl, fun h => h43 (by simpa using h), fun h => h44 (by simpa using h), fun h => h35 (by simpa using h), fun h => h45 (by simpa using h), fun h => h46 (by simpa using h), fun h => h12 (by simpa using h), trivial⟩
      · exact hX
      · exact ⟨_, _, hPB10.out, fun h => hPT10.out (by simpa using h), fun h => ⟨rfl, rfl⟩⟩
      · exact fun h => (by have h1 := hQ10 (by simpa using h); simp [h1])
    case x2hs7 =>
      intro s a' w' hsk hdep hI K hK
      try dsimp only at hI hK
      obtain ⟨v36, v37, v38, v39, v40, v41, v42, v43, v44, v35, v45, v46, v12, hact, hR, hX, hP10, hQ10, _⟩ := hI
      subst hact
      have HK := Lib.hid hK
      clear hK
      have e39 : v39 = .string u2 := by obtain ⟨h36, h37, h38, h39, h40, h41, h42, h43, h44, h35, h45, h46, h12, _⟩ := hR.out; exact h39 (hdep ⟨3, .data⟩ (by simp) rfl)
      subst e39
      have e42 : v42 = .string b := by obtain ⟨h36, h37, h38, h39, h40, h41, h42, h43, h44, h35, h45, h46, h12, _⟩ := hR.out; exact h42 (hdep ⟨6, .data⟩ (by simp) rfl)
      subst e42
      obtain ⟨b10_0, b10_1, pb10, pt10, pf10⟩ := hP10
      have hs0 : s 12 = false := Bool.eq_false_iff.2 fun h => (by have := hQ10 h; simp [hsk] at this)
      obtain ⟨q10_0, q10_1⟩ := pf10 hs0
      subst q10_0
      subst q10_1
      clear hs0
      have kp10_0 := cell_of_row w' (O + 1) 0 _ _ _ pb10
      have kp10_1 := cell_of_row w' (O + 1) 1 _ _ _ pb10
      simp only [List.getElem?_toArray, List.getElem?_cons_zero, List.getElem?_cons_succ] at kp10_0 kp10_1
      have kq10 : ∀ o, w'.frozen? ⟨O + 1, o, none⟩ = false := fun o => frozen_of_row w' _ o _ _ pb10
      have hPB10 := Lib.hid pb10
      clear pb10
      have hPT10 := Lib.hid pt10
      clear pt10
      have hPF10 := Lib.hid pf10
      clear pf10
      clear hdep
      refine StepG.mk rfl ?_; rw [ha0]; simp only [putL, Act.put, List.setIfInBounds_toArray, List.set_cons_zero, List.set_cons_succ]
      go_wp2_with fail
      refine HK.out _ _ ?_
      refine ⟨v36, v37, v38, (.string u2), v40, v41, (.string b), (.string z2), v44, v35, v45, v46, v12, (by rw [ha0]; simp only [putL, Act.put, List.setIfInBounds_toArray, List.set_cons_zero, List.set_cons_succ]), ?_, ?_, ?_, ?_, trivial⟩
      · obtain ⟨h36, h37, h38, h39, h40, h41, h42, h43, h44, h35, h45, h46, h12, _⟩ := hR.out
        exact Lib.hid ⟨fun h => h36 (by simpa using h), fun h => h37 (by simpa using h), fun h => h38 (by simpa using h), fun _ => rfl, fun h => h40 (by simpa using h), fun h => h41 (by simpa using h), fun _ => rfl, fun _ => rfl, fun h => h44 (by simpa using h), fun h => h35 (by simpa using h), fun h => h45 (by simpa using h), fun h => h46 (by simpa using h), fun h => h12 (by simpa using h), trivial⟩
      · exact hX
      · exact ⟨_, _, hPB10.out, fun h => hPT10.out (by simpa using h), fun h => ⟨rfl, rfl⟩⟩
      · exact fun h => (by have h1 := hQ10 (by simpa using h); simp [h1])
    case x2hs8 =>
      intro s a' w' hsk hdep hI K hK
      try dsimp only at hI hK
      obtain ⟨v36, v37, v38, v39, v40, v41, v42, v43, v44, v35, v45, v46, v12, hact, hR, hX, hP10, hQ10, _⟩ := hI
      subst hact
      have HK := Lib.hid hK
      clear hK
      have e43 : v43 = .string z2 := by obtain ⟨h36, h37, h38, h39, h40, h41, h42, h43, h44, h35, h45, h46, h12, _⟩ := hR.out; exact h43 (hdep ⟨7, .data⟩ (by simp) rfl)
      subst e43
      obtain ⟨b10_0, b10_1, pb10, pt10, pf10⟩ := hP10
      have hs0 : s 12 = false := Bool.eq_false_iff.2 fun h => (by have := hQ10 h; simp [hsk] at this)
      obtain ⟨q10_0, q10_1⟩ := pf10 hs0
      subst q10_0
      subst q10_1
      clear hs0
      have kp10_0 := cell_of_row w' (O + 1) 0 _ _ _ pb10
      have kp10_1 := cell_of_row w' (O + 1) 1 _ _ _ pb10
      simp only [List.getElem?_toArray, List.getElem?_cons_zero, List.getElem?_cons_succ] at kp10_0 kp10_1
      have kq10 : ∀ o, w'.frozen? ⟨O + 1, o, none⟩ = false := fun o => frozen_of_row w' _ o _ _ pb10
      have hPB10 := Lib.hid pb10
      clear pb10
      have hPT10 := Lib.hid pt10
      clear pt10
      have hPF10 := Lib.hid pf10
      clear pf10
      clear hdep
      refine StepG.mk rfl ?_; rw [ha0]; simp only [putL, Act.put, List.setIfInBounds_toArray, List.set_cons_zero, List.set_cons_succ]
      go_wp2_with fail
      refine ((HV2.out _)).mono ?_
      rintro e wn ⟨rfl, hb⟩
      go_wp2_with fail
      refine HK.out _ _ ?_
      refine ⟨v36, v37, v38, v39, v40, v41, v42, (.string z2), (.tuple #[.agg #[.int .i64 X, .int .i64 Y], .int .i64 0]), v35, v45, v46, v12, (by rw [ha0]; simp only [putL, Act.put, List.setIfInBounds_toArray, List.set_cons_zero, List.set_cons_succ]), ?_, ?_, ?_, ?_, trivial⟩
      · obtain ⟨h36, h37, h38, h39, h40, h41, h42, h43, h44, h35, h45, h46, h12, _⟩ := hR.out
        exact Lib.hid ⟨fun h => h36 (by simpa using h), fun h => h37 (by simpa using h), fun h => h38 (by simpa using h), fun h => h39 (by simpa using h), fun h => h40 (by simpa using h), fun h => h41 (by simpa using h), fun h => h42 (by simpa using h), fun _ => rfl, fun _ => rfl, fun h => h35 (by simpa using h), fun h => h45 (by simpa using h), fun h => h46 (by simpa using h), fun h => h12 (by simpa using h), trivial⟩
      · exact hX.call hb
      · exact ⟨_, _, (hb.block _ (blk_lt hPB10.out)).trans hPB10.out, fun h => hPT10.out (by simpa using h), fun h => ⟨rfl, rfl⟩⟩
      · exact fun h => (by have h1 := hQ10 (by simpa using h); simp [h1])
    case x2hs9 =>
      intro s a' w' hsk hdep hI K hK
      try dsimp only at hI hK
      obtain ⟨v36, v37, v38, v39, v40, v41, v42, v43, v44, v35, v45, v46, v12, hact, hR, hX, hP10, hQ10, _⟩ := hI
      subst hact
      have HK := Lib.hid hK
      clear hK
      have e44 : v44 = .tuple #[.agg #[.int .i64 X, .int .i64 Y], .int .i64 0] := by obtain ⟨h36, h37, h38, h39, h40, h41, h42, h43, h44, h35, h45, h46, h12, _⟩ := hR.out; exact h44 (hdep ⟨8, .data⟩ (by simp) rfl)
      subst e44
      obtain ⟨b10_0, b10_1, pb10, pt10, pf10⟩ := hP10
      have hs0 : s 12 = false := Bool.eq_false_iff.2 fun h => (by have := hQ10 h; simp [hsk] at this)
      obtain ⟨q10_0, q10_1⟩ := pf10 hs0
      subst q10_0
      subst q10_1
      clear hs0
      have kp10_0 := cell_of_row w' (O + 1) 0 _ _ _ pb10
      have kp10_1 := cell_of_row w' (O + 1) 1 _ _ _ pb10
      simp only [List.getElem?_toArray, List.getElem?_cons_zero, List.getElem?_cons_succ] at kp10_0 kp10_1
      have kq10 : ∀ o, w'.frozen? ⟨O + 1, o, none⟩ = false := fun o => frozen_of_row w' _ o _ _ pb10
      have hPB10 := Lib.hid pb10
      clear pb10
      have hPT10 := Lib.hid pt10
      clear pt10
      have hPF10 := Lib.hid pf10
      clear pf10
      clear hdep
      refine StepG.mk rfl ?_; rw [ha0]; simp only [putL, Act.put, List.setIfInBounds_toArray, List.set_cons_zero, List.set_cons_succ]
      go_wp2_with fail
      refine HK.out _ _ ?_
      refine ⟨v36, v37, v38, v39, v40, v41, v42, v43, (.tuple #[.agg #[.int .i64 X, .int .i64 Y], .int .i64 0]), (.tuple #[.agg #[.int .i64 X, .int .i64 Y], .int .i64 0]), v45, v46, v12, (by rw [ha0]; simp only [putL, Act.put, List.setIfInBounds_toArray, List.set_cons_zero, List.set_cons_succ]), ?_, ?_, ?_, ?_, trivial⟩
      · obtain ⟨h36, h37, h38, h39, h40, h41, h42, h43, h44, h35, h45, h46, h12, _⟩ := hR.out
        exact Lib.hid ⟨fun h => h36 (by simpa using h), fun h => h37 (by simpa using h), fun h => h38 (by simpa using h), fun h => h39 (by simpa using h), fun h => h40 (by simpa using h), fun h => h41 (by simpa using h), fun h => h42 (by simpa using h), fun h => h43 (by simpa using h), fun _ => rfl, fun _ => rfl, fun h => h45 (by simpa using h), fun h => h46 (by simpa using h), fun h => h12 (by simpa using h), trivial⟩
      · exact hX
      · exact ⟨_, _, hPB10.out, fun h => hPT10.out (by simpa using h), fun h => ⟨rfl, rfl⟩⟩
      · exact fun h => (by have h1 := hQ10 (by simpa using h); simp [h1])
    case x2hs10 =>
      intro s a' w' hsk hdep hI K hK
      try dsimp only at hI hK
      obtain ⟨v36, v37, v38, v39, v40, v41, v42, v43, v44, v35, v45, v46, v12, hact, hR, hX, hP10, hQ10, _⟩ := hI
      subst hact
      have HK := Lib.hid hK
      clear hK
      have e35 : v35 = .tuple #[.agg #[.int .i64 X, .int .i64 Y], .int .i64 0] := by obtain ⟨h36, h37, h38, h39, h40, h41, h42, h43, h44, h35, h45, h46, h12, _⟩ := hR.out; exact h35 (hdep ⟨9, .data⟩ (by simp) rfl)
      subst e35
      obtain ⟨b10_0, b10_1, pb10, pt10, pf10⟩ := hP10
      have hs0 : s 12 = false := Bool.eq_false_iff.2 fun h => (by have := hQ10 h; simp [hsk] at this)
      obtain ⟨q10_0, q10_1⟩ := pf10 hs0
      subst q10_0
      subst q10_1
      clear hs0
      have kp10_0 := cell_of_row w' (O + 1) 0 _ _ _ pb10
      have kp10_1 := cell_of_row w' (O + 1) 1 _ _ _ pb10
      simp only [List.getElem?_toArray, List.getElem?_cons_zero, List.getElem?_cons_succ] at kp10_0 kp10_1
      have kq10 : ∀ o, w'.frozen? ⟨O + 1, o, none⟩ = false := fun o => frozen_of_row w' _ o _ _ pb10
      have hPB10 := Lib.hid pb10
      clear pb10
      have hPT10 := Lib.hid pt10
      clear pt10
      have hPF10 := Lib.hid pf10
      clear pf10
      clear hdep
      refine StepG.mk rfl ?_; rw [ha0]; simp only [putL, Act.put, List.setIfInBounds_toArray, List.set_cons_zero, List.set_cons_succ]
      go_wp2_with fail
      refine HK.out _ _ ?_
      refine ⟨v36, v37, v38, v39, v40, v41, v42, v43, v44, (.tuple #[.agg #[.int .i64 X, .int .i64 Y], .int .i64 0]), (.agg #[.int .i64 X, .int .i64 Y]), v46, v12, (by rw [ha0]; simp only [putL, Act.put, List.setIfInBounds_toArray, List.set_cons_zero, List.set_cons_succ]), ?_, ?_, ?_, ?_, trivial⟩
      · obtain ⟨h36, h37, h38, h39, h40, h41, h42, h43, h44, h35, h45, h46, h12, _⟩ := hR.out
        exact Lib.hid ⟨fun h => h36 (by simpa using h), fun h => h37 (by simpa using h), fun h => h38 (by simpa using h), fun h => h39 (by simpa using h), fun h => h40 (by simpa using h), fun h => h41 (by simpa using h), fun h => h42 (by simpa using h), fun h => h43 (by simpa using h), fun h => h44 (by simpa using h), fun _ => rfl, fun _ => rfl, fun h => h46 (by simpa using h), fun h => h12 (by simpa using h), trivial⟩
      · exact hX
      · exact ⟨_, _, hPB10.out, fun h => hPT10.out (by simpa using h), fun h => ⟨rfl, rfl⟩⟩
      · exact fun h => (by have h1 := hQ10 (by simpa using h); simp [h1])
    case x2hs11 =>
      intro s a' w' hsk hdep hI K hK
      try dsimp only at hI hK
      obtain ⟨v36, v37, v38, v39, v40, v41, v42, v43, v44, v35, v45, v46, v12, hact, hR, hX, hP10, hQ10, _⟩ := hI
      subst hact
      have HK := Lib.hid hK
      clear hK
      have e35 : v35 = .tuple #[.agg #[.int .i64 X, .int .i64 Y], .int .i64 0] := by obtain ⟨h36, h37, h38, h39, h40, h41, h42, h43, h44, h35, h45, h46, h12, _⟩ := hR.out; exact h35 (hdep ⟨9, .data⟩ (by simp) rfl)
      subst e35
      obtain ⟨b10_0, b10_1, pb10, pt10, pf10⟩ := hP10
      have kp10_0 := cell_of_row w' (O + 1) 0 _ _ _ pb10
      have kp10_1 := cell_of_row w' (O + 1) 1 _ _ _ pb10
      simp only [List.getElem?_toArray, List.getElem?_cons_zero, List.getElem?_cons_succ] at kp10_0 kp10_1
      have kq10 : ∀ o, w'.frozen? ⟨O + 1, o, none⟩ = false := fun o => frozen_of_row w' _ o _ _ pb10
      have hPB10 := Lib.hid pb10
      clear pb10
      have hPT10 := Lib.hid pt10
      clear pt10
      have hPF10 := Lib.hid pf10
      clear pf10
      clear hdep
      refine StepG.mk rfl ?_; rw [ha0]; simp only [putL, Act.put, List.setIfInBounds_toArray, List.set_cons_zero, List.set_cons_succ]
      go_wp2_with fail
      refine HK.out _ _ ?_
      refine ⟨v36, v37, v38, v39, v40, v41, v42, v43, v44, (.tuple #[.agg #[.int .i64 X, .int .i64 Y], .int .i64 0]), v45, (.int .i64 0), v12, (by rw [ha0]; simp only [putL, Act.put, List.setIfInBounds_toArray, List.set_cons_zero, List.set_cons_succ]), ?_, ?_, ?_, ?_, trivial⟩
      · obtain ⟨h36, h37, h38, h39, h40, h41, h42, h43, h44, h35, h45, h46, h12, _⟩ := hR.out
        exact Lib.hid ⟨fun h => h36 (by simpa using h), fun h => h37 (by simpa using h), fun h => h38 (by simpa using h), fun h => h39 (by simpa using h), fun h => h40 (by simpa using h), fun h => h41 (by simpa using h), fun h => h42 (by simpa using h), fun h => h43 (by simpa using h), fun h => h44 (by simpa using h), fun _ => rfl, fun h => h45 (by simpa using h), fun _ => rfl, fun h => h12 (by simpa using h), trivial⟩
      · exact hX
      · exact ⟨_, _, hPB10.out, fun h => hPT10.out (by simpa using h), fun h => (hPF10.out (by simpa using h))⟩
      · exact fun h => (by have h1 := hQ10 (by simpa using h); simp [h1])
    case x2hs12 =>
      intro s a' w' hsk hdep hI K hK
      try dsimp only at hI hK
      obtain ⟨v36, v37, v38, v39, v40, v41, v42, v43, v44, v35, v45, v46, v12, hact, hR, hX, hP10, hQ10, _⟩ := hI
      subst hact
      have HK := Lib.hid hK
      clear hK
      have e45 : v45 = .agg #[.int .i64 X, .int .i64 Y] := by obtain ⟨h36, h37, h38, h39, h40, h41, h42, h43, h44, h35, h45, h46, h12, _⟩ := hR.out; exact h45 (hdep ⟨10, .data⟩ (by simp) rfl)
      subst e45
      obtain ⟨b10_0, b10_1, pb10, pt10, pf10⟩ := hP10
      have hs0 : s 12 = false := hsk
      obtain ⟨q10_0, q10_1⟩ := pf10 hs0
      subst q10_0
      subst q10_1
      clear hs0
      have kp10_0 := cell_of_row w' (O + 1) 0 _ _ _ pb10
      have kp10_1 := cell_of_row w' (O + 1) 1 _ _ _ pb10
      simp only [List.getElem?_toArray, List.getElem?_cons_zero, List.getElem?_cons_succ] at kp10_0 kp10_1
      have kq10 : ∀ o, w'.frozen? ⟨O + 1, o, none⟩ = false := fun o => frozen_of_row w' _ o _ _ pb10
      have hPB10 := Lib.hid pb10
      clear pb10
      have hPT10 := Lib.hid pt10
      clear pt10
      have hPF10 := Lib.hid pf10
      clear pf10
      have hd0 : s 0 = true := hdep ⟨0, .phase⟩ (by simp) rfl
      have hd1 : s 1 = true := hdep ⟨1, .phase⟩ (by simp) rfl
      have hd2 : s 2 = true := hdep ⟨2, .phase⟩ (by simp) rfl
      have hd3 : s 3 = true := hdep ⟨3, .phase⟩ (by simp) rfl
      have hd4 : s 4 = true := hdep ⟨4, .phase⟩ (by simp) rfl
      have hd5 : s 5 = true := hdep ⟨5, .phase⟩ (by simp) rfl
      have hd6 : s 6 = true := hdep ⟨6, .phase⟩ (by simp) rfl
      have hd7 : s 7 = true := hdep ⟨7, .phase⟩ (by simp) rfl
      have hd8 : s 8 = true := hdep ⟨8, .chain⟩ (by simp) rfl
      have hd9 : s 9 = true := hdep ⟨9, .phase⟩ (by simp) rfl
      have hd10 : s 10 = true := hdep ⟨10, .data⟩ (by simp) rfl
      clear hdep
      refine StepG.mk rfl ?_; rw [ha0]; simp only [putL, Act.put, List.setIfInBounds_toArray, List.set_cons_zero, List.set_cons_succ]
      go_wp2_with fail
      refine HK.out _ _ ?_
      refine ⟨v36, v37, v38, v39, v40, v41, v42, v43, v44, v35, (.agg #[.int .i64 X, .int .i64 Y]), v46, v12, (by rw [ha0]; simp only [putL, Act.put, List.setIfInBounds_toArray, List.set_cons_zero, List.set_cons_succ]), ?_, ?_, ?_, ?_, trivial⟩
      · obtain ⟨h36, h37, h38, h39, h40, h41, h42, h43, h44, h35, h45, h46, h12, _⟩ := hR.out
        exact Lib.hid ⟨fun h => h36 (by simpa using h), fun h => h37 (by simpa using h), fun h => h38 (by simpa using h), fun h => h39 (by simpa using h), fun h => h40 (by simpa using h), fun h => h41 (by simpa using h), fun h => h42 (by simpa using h), fun h => h43 (by simpa using h), fun h => h44 (by simpa using h), fun h => h35 (by simpa using h), fun _ => rfl, fun h => h46 (by simpa using h), fun h => h12 (by simpa using h), trivial⟩
      · exact ((hX.setOld (p := ⟨O + 1, 0, none⟩) (by simp) _).setOld (p := ⟨O + 1, 1, none⟩) (by simp) _)
      · exact ⟨_, _, blk_set2 hPB10.out, fun _ => ⟨rfl, rfl⟩, fun h => (by simp at h)⟩
      · exact fun _ => (by simp [hd0, hd1, hd2, hd3, hd4, hd5, hd6, hd7, hd8, hd9, hd10])
    case x2hs13 =>
      intro s a' w' hsk hdep hI K hK
      try dsimp only at hI hK
      obtain ⟨v36, v37, v38, v39, v40, v41, v42, v43, v44, v35, v45, v46, v12, hact, hR, hX, hP10, hQ10, _⟩ := hI
      subst hact
      have HK := Lib.hid hK
      clear hK
      have e46 : v46 = .int .i64 0 := by obtain ⟨h36, h37, h38, h39, h40, h41, h42, h43, h44, h35, h45, h46, h12, _⟩ := hR.out; exact h46 (hdep ⟨11, .data⟩ (by simp) rfl)
      subst e46
      obtain ⟨b10_0, b10_1, pb10, pt10, pf10⟩ := hP10
      have kp10_0 := cell_of_row w' (O + 1) 0 _ _ _ pb10
      have kp10_1 := cell_of_row w' (O + 1) 1 _ _ _ pb10
      simp only [List.getElem?_toArray, List.getElem?_cons_zero, List.getElem?_cons_succ] at kp10_0 kp10_1
      have kq10 : ∀ o, w'.frozen? ⟨O + 1, o, none⟩ = false := fun o => frozen_of_row w' _ o _ _ pb10
      have hPB10 := Lib.hid pb10
      clear pb10
      have hPT10 := Lib.hid pt10
      clear pt10
      have hPF10 := Lib.hid pf10
      clear pf10
      clear hdep
      refine StepG.mk rfl ?_; rw [ha0]; simp only [putL, Act.put, List.setIfInBounds_toArray, List.set_cons_zero, List.set_cons_succ]
      go_wp2_with fail
      refine HK.out _ _ ?_
      refine ⟨v36, v37, v38, v39, v40, v41, v42, v43, v44, v35, v45, (.int .i64 0), (.int .i64 0), (by rw [ha0]; simp only [putL, Act.put, List.setIfInBounds_toArray, List.set_cons_zero, List.set_cons_succ]), ?_, ?_, ?_, ?_, trivial⟩
      · obtain ⟨h36, h37, h38, h39, h40, h41, h42, h43, h44, h35, h45, h46, h12, _⟩ := hR.out
        exact Lib.hid ⟨fun h => h36 (by simpa using h), fun h => h37 (by simpa using h), fun h => h38 (by simpa using h), fun h => h39 (by simpa using h), fun h => h40 (by simpa using h), fun h => h41 (by simpa using h), fun h => h42 (by simpa using h), fun h => h43 (by simpa using h), fun h => h44 (by simpa using h), fun h => h35 (by simpa using h), fun h => h45 (by simpa using h), fun _ => rfl, fun _ => rfl, trivial⟩
      · exact hX
      · exact ⟨_, _, hPB10.out, fun h => hPT10.out (by simpa using h), fun h => (hPF10.out (by simpa using h))⟩
      · exact fun h => (by have h1 := hQ10 (by simpa using h); simp [h1])
    intro s a' w6 hall hI
    try dsimp only at hI
    obtain ⟨v36, v37, v38, v39, v40, v41, v42, v43, v44, v35, v45, v46, v12, hact, hR, hXR, hP10, hQ10, _⟩ := hI
    subst hact
    obtain ⟨h36, h37, h38, h39, h40, h41, h42, h43, h44, h35, h45, h46, h12, _⟩ := hR.out
    clear hR
    have e36 := h36 (hall 0 (by decide))
    subst e36
    clear h36
    have e37 := h37 (hall 1 (by decide))
    subst e37
    clear h37
    have e38 := h38 (hall 2 (by decide))
    subst e38
    clear h38
    have e39 := h39 (hall 3 (by decide))
    subst e39
    clear h39
    have e40 := h40 (hall 4 (by decide))
    subst e40
    clear h40
    have e41 := h41 (hall 5 (by decide))
    subst e41
    clear h41
    have e42 := h42 (hall 6 (by decide))
    subst e42
    clear h42
    have e43 := h43 (hall 7 (by decide))
    subst e43
    clear h43
    have e44 := h44 (hall 8 (by decide))
    subst e44
    clear h44
    have e35 := h35 (hall 9 (by decide))
    subst e35
    clear h35
    have e45 := h45 (hall 10 (by decide))
    subst e45
    clear h45
    have e46 := h46 (hall 11 (by decide))
    subst e46
    clear h46
    have e12 := h12 (hall 13 (by decide))
    subst e12
    clear h12
    obtain ⟨c0, c1, pblkR10, hpt, _⟩ := hP10
    clear hQ10
    obtain ⟨es0, es1⟩ := hpt (hall 12 (by decide))
    subst es0
    subst es1
    clear hpt
    try clear pblk10
    have pblk10 := pblkR10
    clear pblkR10
    clear hall
    rw [ha0]; simp only [putL, Act.put, List.setIfInBounds_toArray, List.set_cons_zero, List.set_cons_succ]
    clear ha0
    have B6 : Below w.heap.size w w6 := hXR.below (by first | assumption | exact (by repeat (first | exact Below.refl _ _ | exact Nat.le_refl _ | refine Below.alloc ?_ ?_ _ | refine Below.setCell ?_ ?_ _ | refine Below.drew ?_ | refine bl_drewN ?_ _ | (assumption) | refine bl_call ?_ (by assumption) ?_ | omega | (simp <;> omega)))) (by first | omega | (simp <;> omega)) (by simp <;> omega)
    have R6 := (hXR.block O (blk_lt R5) (by simp)).trans R5
    have S6 := pblk10
    have zz6 := blk_lt S6
    clear hXR R5 S5 pblk10
    have d0 := row2_0 R6
    have d1 := row2_1 R6
    have d2 := row2_0 S6
    have d3 := row2_1 S6
    go_wp2_with fail
    refine (awake_any _).mono ?_
    rintro e w7 ⟨rfl, hb7⟩
    have B7 : Below w.heap.size w w7 := bl_call (by repeat (first | exact Below.refl _ _ | exact Nat.le_refl _ | refine Below.alloc ?_ ?_ _ | refine Below.setCell ?_ ?_ _ | refine Below.drew ?_ | refine bl_drewN ?_ _ | (assumption) | refine bl_call ?_ (by assumption) ?_ | omega | (simp <;> omega))) hb7 (by first | assumption | (simp; done) | (simp; omega) | omega)
    clear hb7
    have hsz_7 := B7.size
    go_wp2_with fail
    go_ret
    exact ⟨rfl, (by repeat (first | exact Below.refl _ _ | exact Nat.le_refl _ | refine Below.alloc ?_ ?_ _ | refine Below.setCell ?_ ?_ _ | refine Below.drew ?_ | refine bl_drewN ?_ _ | (assumption) | refine bl_call ?_ (by assumption) ?_ | omega | (simp <;> omega)))⟩
  · clear HV1 HV2 j1 j2 i1 i2 y1 y2
    have pblk9 := R4
    go_upto_region 8 with fail
    have hjb : (J == 0) = false := by simpa using hJ
    rw [hjb]
    clear hjb hJ
    have pblk9 : w4.heap[O]? = some (.cells #[.int .i64 0, .int .i64 0] 23 (0, 0)) := by first | assumption | exact hblk9
    refine with_act fun a0 ha0 => ?_
    refine wp_region_inv (by kernel_rfl) (by kernel_rfl) (fun s a' w' => ∃ v48 v49 v50 v51 v52 v53 v54 v55 v56 v47 v57 v58 v11 : Value, a' = putL a0 [(48, v48), (49, v49), (50, v50), (51, v51), (52, v52), (53, v53), (54, v54), (55, v55), (56, v56), (47, v47), (57, v57), (58, v58), (11, v11)] ∧ Hid ((s 0 = true → v48 = .string t) ∧ (s 1 = true → v49 = .int .i64 k) ∧ (s 2 = true → v50 = .string a) ∧ (s 3 = true → v51 = .string u3) ∧ (s 4 = true → v52 = .string t) ∧ (s 5 = true → v53 = .int .i64 k) ∧ (s 6 = true → v54 = .string b) ∧ (s 7 = true → v55 = .string z3) ∧ (s 8 = true → v56 = .tuple #[.agg #[.int .i64 X', .int .i64 Y'], .int .i64 0]) ∧ (s 9 = true → v47 = .tuple #[.agg #[.int .i64 X', .int .i64 Y'], .int .i64 0]) ∧ (s 10 = true → v57 = .agg #[.int .i64 X', .int .i64 Y']) ∧ (s 11 = true → v58 = .int .i64 0) ∧ (s 13 = true → v11 = .int .i64 0) ∧ True) ∧ BelX [O] w4 w' ∧ (∃ (c0 c1 : Value), w'.heap[O]? = some (.cells #[c0, c1] 23 (0, 0)) ∧ (s 12 = true → c0 = .int .i64 X' ∧ c1 = .int .i64 Y') ∧ (s 12 = false → c0 = .int .i64 0 ∧ c1 = .int .i64 0)) ∧ (s 12 = true → s 0 = true ∧ s 1 = true ∧ s 2 = true ∧ s 3 = true ∧ s 4 = true ∧ s 5 = true ∧ s 6 = true ∧ s 7 = true ∧ s 8 = true ∧ s 9 = true ∧ s 10 = true ∧ True) ∧ True) ?x3hzero ⟨?x3hs0, ?x3hs1, ?x3hs2, ?x3hs3, ?x3hs4, ?x3hs5, ?x3hs6, ?x3hs7, ?x3hs8, ?x3hs9, ?x3hs10, ?x3hs11, ?x3hs12, ?x3hs13, trivial⟩ ?x3hdone
    case x3hzero =>
      refine ⟨a0.tmps.getD 48 undef, a0.tmps.getD 49 undef, a0.tmps.getD 50 undef, a0.tmps.getD 51 undef, a0.tmps.getD 52 undef, a0.tmps.getD 53 undef, a0.tmps.getD 54 undef, a0.tmps.getD 55 undef, a0.tmps.getD 56 undef, a0.tmps.getD 47 undef, a0.tmps.getD 57 undef, a0.tmps.getD 58 undef, a0.tmps.getD 11 undef, ?_, ?_, ?_, ?_, ?_, trivial⟩
      · simp only [putL, put_self]
      · exact Lib.hid ⟨fun h => (by simp at h), fun h => (by simp at h), fun h => (by simp at h), fun h => (by simp at h), fun h => (by simp at h), fun h => (by simp at h), fun h => (by simp at h), fun h => (by simp at h), fun h => (by simp at h), fun h => (by simp at h), fun h => (by simp at h), fun h => (by simp at h), fun h => (by simp at h), trivial⟩
      · exact BelX.start _ _
      · exact ⟨.int .i64 0, .int .i64 0, pblk9, fun h => (by simp at h), fun _ => ⟨rfl, rfl⟩⟩
      · exact fun h => (by simp at h)
    case x3hs0 =>
      intro s a' w' hsk hdep hI K hK
      try dsimp only at hI hK
      obtain ⟨v48, v49, v50, v51, v52, v53, v54, v55, v56, v47, v57, v58, v11, hact, hR, hX, hP9, hQ9, _⟩ := hI
      subst hact
      have HK := Lib.hid hK
      clear hK
      obtain ⟨b9_0, b9_1, pb9, pt9, pf9⟩ := hP9
      have hs0 : s 12 = false := Bool.eq_false_iff.2 fun h => (by have := hQ9 h; simp [hsk] at this)
      obtain ⟨q9_0, q9_1⟩ := pf9 hs0
      subst q9_0
      subst q9_1
      clear hs0
      have kp9_0 := cell_of_row w' (O) 0 _ _ _ pb9
      have kp9_1 := cell_of_row w' (O) 1 _ _ _ pb9
      simp only [List.getElem?_toArray, List.getElem?_cons_zero, List.getElem?_cons_succ] at kp9_0 kp9_1
      have kq9 : ∀ o, w'.frozen? ⟨O, o, none⟩ = false := fun o => frozen_of_row w' _ o _ _ pb9
      have hPB9 := Lib.hid pb9
      clear pb9
      have hPT9 := Lib.hid pt9
      clear pt9
      have hPF9 := Lib.hid pf9
      clear pf9
      clear hdep
      refine StepG.mk rfl ?_; rw [ha0]; simp only [putL, Act.put, List.setIfInBounds_toArray, List.set_cons_zero, List.set_cons_succ]
      go_wp2_with fail
      refine HK.out _ _ ?_
      refine ⟨(.string t), v49, v50, v51, v52, v53, v54, v55, v56, v47, v57, v58, v11, (by rw [ha0]; simp only [putL, Act.put, List.setIfInBounds_toArray, List.set_cons_zero, List.set_cons_succ]), ?_, ?_, ?_, ?_, trivial⟩
      · obtain ⟨h48, h49, h50, h51, h52, h53, h54, h55, h56, h47, h57, h58, h11, _⟩ := hR.out
        exact Lib.hid ⟨fun _ => rfl, fun h => h49 (by simpa using h), fun h => h50 (by simpa using h), fun h => h51 (by simpa using h), fun h => h52 (by simpa using h), fun h => h53 (by simpa using h), fun h => h54 (by simpa using h), fun h => h55 (by simpa using h), fun h => h56 (by simpa using h), fun h => h47 (by simpa using h), fun h => h57 (by simpa using h), fun h => h58 (by simpa using h), fun h => h11 (by simpa using h), trivial⟩
      · exact hX
      · exact ⟨_, _, hPB9.out, fun h => hPT9.out (by simpa using h), fun h => ⟨rfl, rfl⟩⟩
      · exact fun h => (by have h1 := hQ9 (by simpa using h); simp [h1])
    case x3hs1 =>
      intro s a' w' hsk hdep hI K hK
      try dsimp only at hI hK
      obtain ⟨v48, v49, v50, v51, v52, v53, v54, v55, v56, v47, v57, v58, v11, hact, hR, hX, hP9, hQ9, _⟩ := hI
      subst hact
      have HK := Lib.hid hK
      clear hK
      obtain ⟨b9_0, b9_1, pb9, pt9, pf9⟩ := hP9
      have hs0 : s 12 = false := Bool.eq_false_iff.2 fun h => (by have := hQ9 h; simp [hsk] at this)
      obtain ⟨q9_0, q9_1⟩ := pf9 hs0
      subst q9_0
      subst q9_1
      clear hs0
      have kp9_0 := cell_of_row w' (O) 0 _ _ _ pb9
      have kp9_1 := cell_of_row w' (O) 1 _ _ _ pb9
      simp only [List.getElem?_toArray, List.getElem?_cons_zero, List.getElem?_cons_succ] at kp9_0 kp9_1
      have kq9 : ∀ o, w'.frozen? ⟨O, o, none⟩ = false := fun o => frozen_of_row w' _ o _ _ pb9
      have hPB9 := Lib.hid pb9
      clear pb9
      have hPT9 := Lib.hid pt9
      clear pt9
      have hPF9 := Lib.hid pf9
      clear pf9
      clear hdep
      refine StepG.mk rfl ?_; rw [ha0]; simp only [putL, Act.put, List.setIfInBounds_toArray, List.set_cons_zero, List.set_cons_succ]
      go_wp2_with fail
      refine HK.out _ _ ?_
      refine ⟨v48, (.int .i64 k), v50, v51, v52, v53, v54, v55, v56, v47, v57, v58, v11, (by rw [ha0]; simp only [putL, Act.put, List.setIfInBounds_toArray, List.set_cons_zero, List.set_cons_succ]), ?_, ?_, ?_, ?_, trivial⟩
      · obtain ⟨h48, h49, h50, h51, h52, h53, h54, h55, h56, h47, h57, h58, h11, _⟩ := hR.out
        exact Lib.hid ⟨fun h => h48 (by simpa using h), fun _ => rfl, fun h => h50 (by simpa using h), fun h => h51 (by simpa using h), fun h => h52 (by simpa using h), fun h => h53 (by simpa using h), fun h => h54 (by simpa using h), fun h => h55 (by simpa using h), fun h => h56 (by simpa using h), fun h => h47 (by simpa using h), fun h => h57 (by simpa using h), fun h => h58 (by simpa using h), fun h => h11 (by simpa using h), trivial⟩
      · exact hX
      · exact ⟨_, _, hPB9.out, fun h => hPT9.out (by simpa using h), fun h => ⟨rfl, rfl⟩⟩
      · exact fun h => (by have h1 := hQ9 (by simpa using h); simp [h1])
    case x3hs2 =>
      intro s a' w' hsk hdep hI K hK
      try dsimp only at hI hK
      obtain ⟨v48, v49, v50, v51, v52, v53, v54, v55, v56, v47, v57, v58, v11, hact, hR, hX, hP9, hQ9, _⟩ := hI
      subst hact
      have HK := Lib.hid hK
      clear hK
      have e48 : v48 = .string t := by obtain ⟨h48, h49, h50, h51, h52, h53, h54, h55, h56, h47, h57, h58, h11, _⟩ := hR.out; exact h48 (hdep ⟨0, .data⟩ (by simp) rfl)
      subst e48
      have e49 : v49 = .int .i64 k := by obtain ⟨h48, h49, h50, h51, h52, h53, h54, h55, h56, h47, h57, h58, h11, _⟩ := hR.out; exact h49 (hdep ⟨1, .data⟩ (by simp) rfl)
      subst e49
      obtain ⟨b9_0, b9_1, pb9, pt9, pf9⟩ := hP9
      have hs0 : s 12 = false := Bool.eq_false_iff.2 fun h => (by have := hQ9 h; simp [hsk] at this)
      obtain ⟨q9_0, q9_1⟩ := pf9 hs0
      subst q9_0
      subst q9_1
      clear hs0
      have kp9_0 := cell_of_row w' (O) 0 _ _ _ pb9
      have kp9_1 := cell_of_row w' (O) 1 _ _ _ pb9
      simp only [List.getElem?_toArray, List.getElem?_cons_zero, List.getElem?_cons_succ] at kp9_0 kp9_1
      have kq9 : ∀ o, w'.frozen? ⟨O, o, none⟩ = false := fun o => frozen_of_row w' _ o _ _ pb9
      have hPB9 := Lib.hid pb9
      clear pb9
      have hPT9 := Lib.hid pt9
      clear pt9
      have hPF9 := Lib.hid pf9
      clear pf9
      clear hdep
      refine StepG.mk rfl ?_; rw [ha0]; simp only [putL, Act.put, List.setIfInBounds_toArray, List.set_cons_zero, List.set_cons_succ]
      go_wp2_with fail
      refine HK.out _ _ ?_
      refine ⟨(.string t), (.int .i64 k), (.string a), v51, v52, v53, v54, v55, v56, v47, v57, v58, v11, (by rw [ha0]; simp only [putL, Act.put, List.setIfInBounds_toArray, List.set_cons_zero, List.set_cons_succ]), ?_, ?_, ?_, ?_, trivial⟩
      · obtain ⟨h48, h49, h50, h51, h52, h53, h54, h55, h56, h47, h57, h58, h11, _⟩ := hR.out
        exact Lib.hid ⟨fun _ => rfl, fun _ => rfl, fun _ => rfl, fun h => h51 (by simpa using h), fun h => h52 (by simpa using h), fun h => h53 (by simpa using h), fun h => h54 (by simpa using h), fun h => h55 (by simpa using h), fun h => h56 (by simpa using h), fun h => h47 (by simpa using h), fun h => h57 (by simpa using h), fun h => h58 (by simpa using h), fun h => h11 (by simpa using h), trivial⟩
      · exact hX
      · exact ⟨_, _, hPB9.out, fun h => hPT9.out (by simpa using h), fun h => ⟨rfl, rfl⟩⟩
      · exact fun h => (by have h1 := hQ9 (by simpa using h); simp [h1])
    case x3hs3 =>
      intro s a' w' hsk hdep hI K hK
      try dsimp only at hI hK
      obtain ⟨v48, v49, v50, v51, v52, v53, v54, v55, v56, v47, v57, v58, v11, hact, hR, hX, hP9, hQ9, _⟩ := hI
      subst hact
      have HK := Lib.hid hK
      clear hK
      have e50 : v50 = .string a := by obtain ⟨h48, h49, h50, h51, h52, h53, h54, h55, h56, h47, h57, h58, h11, _⟩ := hR.out; exact h50 (hdep ⟨2, .data⟩ (by simp) rfl)
      subst e50
      obtain ⟨b9_0, b9_1, pb9, pt9, pf9⟩ := hP9
      have hs0 : s 12 = false := Bool.eq_false_iff.2 fun h => (by have := hQ9 h; simp [hsk] at this)
      obtain ⟨q9_0, q9_1⟩ := pf9 hs0
      subst q9_0
      subst q9_1
      clear hs0
      have kp9_0 := cell_of_row w' (O) 0 _ _ _ pb9
      have kp9_1 := cell_of_row w' (O) 1 _ _ _ pb9
      simp only [List.getElem?_toArray, List.getElem?_cons_zero, List.getElem?_cons_succ] at kp9_0 kp9_1
      have kq9 : ∀ o, w'.frozen? ⟨O, o, none⟩ = false := fun o => frozen_of_row w' _ o _ _ pb9
      have hPB9 := Lib.hid pb9
      clear pb9
      have hPT9 := Lib.hid pt9
      clear pt9
      have hPF9 := Lib.hid pf9
      clear pf9
      clear hdep
      refine StepG.mk rfl ?_; rw [ha0]; simp only [putL, Act.put, List.setIfInBounds_toArray, List.set_cons_zero, List.set_cons_succ]
      go_wp2_with fail
      refine HK.out _ _ ?_
      refine ⟨v48, v49, (.string a), (.string u3), v52, v53, v54, v55, v56, v47, v57, v58, v11, (by rw [ha0]; simp only [putL, Act.put, List.setIfInBounds_toArray, List.set_cons_zero, List.set_cons_succ]), ?_, ?_, ?_, ?_, trivial⟩
      · obtain ⟨h48, h49, h50, h51, h52, h53, h54, h55, h56, h47, h57, h58, h11, _⟩ := hR.out
        exact Lib.hid ⟨fun h => h48 (by simpa using h), fun h => h49 (by simpa using h), fun _ => rfl, fun _ => rfl, fun h => h52 (by simpa using h), fun h => h53 (by simpa using h), fun h => h54 (by simpa using h), fun h => h55 (by simpa using h), fun h => h56 (by simpa using h), fun h => h47 (by simpa using h), fun h => h57 (by simpa using h), fun h => h58 (by simpa using h), fun h => h11 (by simpa using h), trivial⟩
      · exact hX
      · exact ⟨_, _, hPB9.out, fun h => hPT9.out (by simpa using h), fun h => ⟨rfl, rfl⟩⟩
      · exact fun h => (by have h1 := hQ9 (by simpa using h); simp [h1])
    case x3hs4 =>
      intro s a' w' hsk hdep hI K hK
      try dsimp only at hI hK
      obtain ⟨v48, v49, v50, v51, v52, v53, v54, v55, v56, v47, v57, v58, v11, hact, hR, hX, hP9, hQ9, _⟩ := hI
      subst hact
      have HK := Lib.hid hK
      clear hK
      obtain ⟨b9_0, b9_1, pb9, pt9, pf9⟩ := hP9
      have hs0 : s 12 = false := Bool.eq_false_iff.2 fun h => (by have := hQ9 h; simp [hsk] at this)
      obtain ⟨q9_0, q9_1⟩ := pf9 hs0
      subst q9_0
      subst q9_1
      clear hs0
      have kp9_0 := cell_of_row w' (O) 0 _ _ _ pb9
      have kp9_1 := cell_of_row w' (O) 1 _ _ _ pb9
      simp only [List.getElem?_toArray, List.getElem?_cons_zero, List.getElem?_cons_succ] at kp9_0 kp9_1
      have kq9 : ∀ o, w'.frozen? ⟨O, o, none⟩ = false := fun o => frozen_of_row w' _ o _ _ pb9
      have hPB9 := Lib.hid pb9
      clear pb9
      have hPT9 := Lib.hid pt9
      clear pt9
      have hPF9 := Lib.hid pf9
      clear pf9
      clear hdep
      refine StepG.mk rfl ?_; rw [ha0]; simp only [putL, Act.put, List.setIfInBounds_toArray, List.set_cons_zero, List.set_cons_succ]
      go_wp2_with fail
      refine HK.out _ _ ?_
      refine ⟨v48, v49, v50, v51, (.string t), v53, v54, v55, v56, v47, v57, v58, v11, (by rw [ha0]; simp only [putL, Act.put, List.setIfInBounds_toArray, List.set_cons_zero, List.set_cons_succ]), ?_, ?_, ?_, ?_, trivial⟩
      · obtain ⟨h48, h49, h50, h51, h52, h53, h54, h55, h56, h47, h57, h58, h11, _⟩ := hR.out
        exact Lib.hid ⟨fun h => h48 (by simpa using h), fun h => h49 (by simpa using h), fun h => h50 (by simpa using h), fun h => h51 (by simpa using h), fun _ => rfl, fun h => h53 (by simpa using h), fun h => h54 (by simpa using h), fun h => h55 (by simpa using h), fun h => h56 (by simpa using h), fun h => h47 (by simpa using h), fun h => h57 (by simpa using h), fun h => h58 (by simpa using h), fun h => h11 (by simpa using h), trivial⟩
      · exact hX
      · exact ⟨_, _, hPB9.out, fun h => hPT9.out (by simpa using h), fun h => ⟨rfl, rfl⟩⟩
      · exact fun h => (by have h1 := hQ9 (by simpa using h); simp [h1])
    case x3hs5 =>
      intro s a' w' hsk hdep hI K hK
      try dsimp only at hI hK
      obtain ⟨v48, v49, v50, v51, v52, v53, v54, v55, v56, v47, v57, v58, v11, hact, hR, hX, hP9, hQ9, _⟩ := hI
      subst hact
      have HK := Lib.hid hK
      clear hK
      obtain ⟨b9_0, b9_1, pb9, pt9, pf9⟩ := hP9
      have hs0 : s 12 = false := Bool.eq_false_iff.2 fun h => (by have := hQ9 h; simp [hsk] at this)
      obtain ⟨q9_0, q9_1⟩ := pf9 hs0
      subst q9_0
      subst q9_1
      clear hs0
      have kp9_0 := cell_of_row w' (O) 0 _ _ _ pb9
      have kp9_1 := cell_of_row w' (O) 1 _ _ _ pb9
      simp only [List.getElem?_toArray, List.getElem?_cons_zero, List.getElem?_cons_succ] at kp9_0 kp9_1
      have kq9 : ∀ o, w'.frozen? ⟨O, o, none⟩ = false := fun o => frozen_of_row w' _ o _ _ pb9
      have hPB9 := Lib.hid pb9
      clear pb9
      have hPT9 := Lib.hid pt9
      clear pt9
      have hPF9 := Lib.hid pf9
      clear pf9
      clear hdep
      refine StepG.mk rfl ?_; rw [ha0]; simp only [putL, Act.put, List.setIfInBounds_toArray, List.set_cons_zero, List.set_cons_succ]
      go_wp2_with fail
      refine HK.out _ _ ?_
      refine ⟨v48, v49, v50, v51, v52, (.int .i64 k), v54, v55, v56, v47, v57, v58, v11, (by rw [ha0]; simp only [putL, Act.put, List.setIfInBounds_toArray, List.set_cons_zero, List.set_cons_succ]), ?_, ?_, ?_, ?_, trivial⟩
      · obtain ⟨h48, h49, h50, h51, h52, h53, h54, h55, h56, h47, h57, h58, h11, _⟩ := hR.out
        exact Lib.hid ⟨fun h => h48 (by simpa using h), fun h => h49 (by simpa using h), fun h => h50 (by simpa using h), fun h => h51 (by simpa using h), fun h => h52 (by simpa using h), fun _ => rfl, fun h => h54 (by simpa using h), fun h => h55 (by simpa using h), fun h => h56 (by simpa using h), fun h => h47 (by simpa using h), fun h => h57 (by simpa using h), fun h => h58 (by simpa using h), fun h => h11 (by simpa using h), trivial⟩
      · exact hX
      · exact ⟨_, _, hPB9.out, fun h => hPT9.out (by simpa using h), fun h => ⟨rfl, rfl⟩⟩
      · exact fun h => (by have h1 := hQ9 (by simpa using h); simp [h1])
    case x3hs6 =>
      intro s a' w' hsk hdep hI K hK
      try dsimp only at hI hK
      obtain ⟨v48, v49, v50, v51, v52, v53, v54, v55, v56, v47, v57, v58, v11, hact, hR, hX, hP9, hQ9, _⟩ := hI
      subst hact
      have HK := Lib.hid hK
      clear hK
      have e52 : v52 = .string t := by obtain ⟨h48, h49, h50, h51, h52, h53, h54, h55, h56, h47, h57, h58, h11, _⟩ := hR.out; exact h52 (hdep ⟨4, .data⟩ (by simp) rfl)
      subst e52
      have e53 : v53 = .int .i64 k := by obtain ⟨h48, h49, h50, h51, h52, h53, h54, h55, h56, h47, h57, h58, h11, _⟩ := hR.out; exact h53 (hdep ⟨5, .data⟩ (by simp) rfl)
      subst e53
      obtain ⟨b9_0, b9_1, pb9, pt9, pf9⟩ := hP9
      have hs0 : s 12 = false := Bool.eq_false_iff.2 fun h => (by have := hQ9 h; simp [hsk] at this)
      obtain ⟨q9_0, q9_1⟩ := pf9 hs0
      subst q9_0
      subst q9_1
      clear hs0
      have kp9_0 := cell_of_row w' (O) 0 _ _ _ pb9
      have kp9_1 := cell_of_row w' (O) 1 _ _ _ pb9
      simp only [List.getElem?_toArray, List.getElem?_cons_zero, List.getElem?_cons_succ] at kp9_0 kp9_1
      have kq9 : ∀ o, w'.frozen? ⟨O, o, none⟩ = false := fun o => frozen_of_row w' _ o _ _ pb9
      have hPB9 := Lib.hid pb9
      clear pb9
      have hPT9 := Lib.hid pt9
      clear pt9
      have hPF9 := Lib.hid pf9
      clear pf9
      clear hdep
      refine StepG.mk rfl ?_; rw [ha0]; simp only [putL, Act.put, List.setIfInBounds_toArray, List.set_cons_zero, List.set_cons_succ]
      go_wp2_with fail
      refine HK.out _ _ ?_
      refine ⟨v48, v49, v50, v51, (.string t), (.int .i64 k), (.string b), v55, v56, v47, v57, v58, v11, (by rw [ha0]; simp only [putL, Act.put, List.setIfInBounds_toArray, List.set_cons_zero, List.set_cons_succ]), ?_, ?_, ?_, ?_, trivial⟩
      · obtain ⟨h48, h49, h50, h51, h52, h53, h54, h55, h56, h47, h57, h58, h11, _⟩ := hR.out
        exact Lib.hid ⟨fun h => h48 (by simpa using h), fun h => h49 (by simpa using h), fun h => h50 (by simpa using h), fun h => h51 (by simpa using h), fun _ => rfl, fun _ => rfl, fun _ => rfl, fun h => h55 (by simpa using h), fun h => h56 (by simpa using h), fun h => h47 (by simpa using h), fun h => h57 (by simpa using h), fun h => h58 (by simpa using h), fun h => h11 (by simpa using h), trivial⟩
      · exact hX
      · exact ⟨_, _, hPB9.out, fun h => hPT9.out (by simpa using h), fun h => ⟨rfl, rfl⟩⟩
      · exact fun h => (by have h1 := hQ9 (by simpa using h); simp [h1])
    case x3hs7 =>
      intro s a' w' hsk hdep hI K hK
      try dsimp only at hI hK
      obtain ⟨v48, v49, v50, v51, v52, v53, v54, v55, v56, v47, v57, v58, v11, hact, hR, hX, hP9, hQ9, _⟩ := hI
      subst hact
      have HK := Lib.hid hK
      clear hK
      have e51 : v51 = .string u3 := by obtain ⟨h48, h49, h50, h51, h52, h53, h54, h55, h56, h47, h57, h58, h11, _⟩ := hR.out; exact h51 (hdep ⟨3, .data⟩ (by simp) rfl)
      subst e51
      have e54 : v54 = .string b := by obtain ⟨h48, h49, h50, h51, h52, h53, h54, h55, h56, h47, h57, h58, h11, _⟩ := hR.out; exact h54 (hdep ⟨6, .data⟩ (by simp) rfl)
      subst e54
      obtain ⟨b9_0, b9_1, pb9, pt9, pf9⟩ := hP9
      have hs0 : s 12 = false := Bool.eq_false_iff.2 fun h => (by have := hQ9 h; simp [hsk] at this)
      obtain ⟨q9_0, q9_1⟩ := pf9 hs0
      subst q9_0
      subst q9_1
      clear hs0
      have kp9_0 := cell_of_row w' (O) 0 _ _ _ pb9
      have kp9_1 := cell_of_row w' (O) 1 _ _ _ pb9
      simp only [List.getElem?_toArray, List.getElem?_cons_zero, List.getElem?_cons_succ] at kp9_0 kp9_1
      have kq9 : ∀ o, w'.frozen? ⟨O, o, none⟩ = false := fun o => frozen_of_row w' _ o _ _ pb9
      have hPB9 := Lib.hid pb9
      clear pb9
      have hPT9 := Lib.hid pt9
      clear pt9
      have hPF9 := Lib.hid pf9
      clear pf9
      clear hdep
      refine StepG.mk rfl ?_; rw [ha0]; simp only [putL, Act.put, List.setIfInBounds_toArray, List.set_cons_zero, List.set_cons_succ]
      go_wp2_with fail
      refine HK.out _ _ ?_
      refine ⟨v48, v49, v50, (.string u3), v52, v53, (.string b), (.string z3), v56, v47, v57, v58, v11, (by rw [ha0]; simp only [putL, Act.put, List.setIfInBounds_toArray, List.set_cons_zero, List.set_cons_succ]), ?_, ?_, ?_, ?_, trivial⟩
      · obtain ⟨h48, h49, h50, h51, h52, h53, h54, h55, h56, h47, h57, h58, h11, _⟩ := hR.out
        exact Lib.hid ⟨fun h => h48 (by simpa using h), fun h => h49 (by simpa using h), fun h => h50 (by simpa using h), fun _ => rfl, fun h => h52 (by simpa using h), fun h => h53 (by simpa using h), fun _ => rfl, fun _ => rfl, fun h => h56 (by simpa using h), fun h => h47 (by simpa using h), fun h => h57 (by simpa using h), fun h => h58 (by simpa using h), fun h => h11 (by simpa using h), trivial⟩
      · exact hX
      · exact ⟨_, _, hPB9.out, fun h => hPT9.out (by simpa using h), fun h => ⟨rfl, rfl⟩⟩
      · exact fun h => (by have h1 := hQ9 (by simpa using h); simp [h1])
    case x3hs8 =>
      intro s a' w' hsk hdep hI K hK
      try dsimp only at hI hK
      obtain ⟨v48, v49, v50, v51, v52, v53, v54, v55, v56, v47, v57, v58, v11, hact, hR, hX, hP9, hQ9, _⟩ := hI
      subst hact
      have HK := Lib.hid hK
      clear hK
      have e55 : v55 = .string z3 := by obtain ⟨h48, h49, h50, h51, h52, h53, h54, h55, h56, h47, h57, h58, h11, _⟩ := hR.out; exact h55 (hdep ⟨7, .data⟩ (by simp) rfl)
      subst e55
      obtain ⟨b9_0, b9_1, pb9, pt9, pf9⟩ := hP9
      have hs0 : s 12 = false := Bool.eq_false_iff.2 fun h => (by have := hQ9 h; simp [hsk] at this)
      obtain ⟨q9_0, q9_1⟩ := pf9 hs0
      subst q9_0
      subst q9_1
      clear hs0
      have kp9_0 := cell_of_row w' (O) 0 _ _ _ pb9
      have kp9_1 := cell_of_row w' (O) 1 _ _ _ pb9
      simp only [List.getElem?_toArray, List.getElem?_cons_zero, List.getElem?_cons_succ] at kp9_0 kp9_1
      have kq9 : ∀ o, w'.frozen? ⟨O, o, none⟩ = false := fun o => frozen_of_row w' _ o _ _ pb9
      have hPB9 := Lib.hid pb9
      clear pb9
      have hPT9 := Lib.hid pt9
      clear pt9
      have hPF9 := Lib.hid pf9
      clear pf9
      clear hdep
      refine StepG.mk rfl ?_; rw [ha0]; simp only [putL, Act.put, List.setIfInBounds_toArray, List.set_cons_zero, List.set_cons_succ]
      go_wp2_with fail
      refine ((HV3.out _)).mono ?_
      rintro e wn ⟨rfl, hb⟩
      go_wp2_with fail
      refine HK.out _ _ ?_
      refine ⟨v48, v49, v50, v51, v52, v53, v54, (.string z3), (.tuple #[.agg #[.int .i64 X', .int .i64 Y'], .int .i64 0]), v47, v57, v58, v11, (by rw [ha0]; simp only [putL, Act.put, List.setIfInBounds_toArray, List.set_cons_zero, List.set_cons_succ]), ?_, ?_, ?_, ?_, trivial⟩
      · obtain ⟨h48, h49, h50, h51, h52, h53, h54, h55, h56, h47, h57, h58, h11, _⟩ := hR.out
        exact Lib.hid ⟨fun h => h48 (by simpa using h), fun h => h49 (by simpa using h), fun h => h50 (by simpa using h), fun h => h51 (by simpa using h), fun h => h52 (by simpa using h), fun h => h53 (by simpa using h), fun h => h54 (by simpa using h), fun _ => rfl, fun _ => rfl, fun h => h47 (by simpa using h), fun h => h57 (by simpa using h), fun h => h58 (by simpa using h), fun h => h11 (by simpa using h), trivial⟩
      · exact hX.call hb
      · exact ⟨_, _, (hb.block _ (blk_lt hPB9.out)).trans hPB9.out, fun h => hPT9.out (by simpa using h), fun h => ⟨rfl, rfl⟩⟩
      · exact fun h => (by have h1 := hQ9 (by simpa using h); simp [h1])
    case x3hs9 =>
      intro s a' w' hsk hdep hI K hK
      try dsimp only at hI hK
      obtain ⟨v48, v49, v50, v51, v52, v53, v54, v55, v56, v47, v57, v58, v11, hact, hR, hX, hP9, hQ9, _⟩ := hI
      subst hact
      have HK := Lib.hid hK
      clear hK
      have e56 : v56 = .tuple #[.agg #[.int .i64 X', .int .i64 Y'], .int .i64 0] := by obtain ⟨h48, h49, h50, h51, h52, h53, h54, h55, h56, h47, h57, h58, h11, _⟩ := hR.out; exact h56 (hdep ⟨8, .data⟩ (by simp) rfl)
      subst e56
      obtain ⟨b9_0, b9_1, pb9, pt9, pf9⟩ := hP9
      have hs0 : s 12 = false := Bool.eq_false_iff.2 fun h => (by have := hQ9 h; simp [hsk] at this)
      obtain ⟨q9_0, q9_1⟩ := pf9 hs0
      subst q9_0
      subst q9_1
      clear hs0
      have kp9_0 := cell_of_row w' (O) 0 _ _ _ pb9
      have kp9_1 := cell_of_row w' (O) 1 _ _ _ pb9
      simp only [List.getElem?_toArray, List.getElem?_cons_zero, List.getElem?_cons_succ] at kp9_0 kp9_1
      have kq9 : ∀ o, w'.frozen? ⟨O, o, none⟩ = false := fun o => frozen_of_row w' _ o _ _ pb9
      have hPB9 := Lib.hid pb9
      clear pb9
      have hPT9 := Lib.hid pt9
      clear pt9
      have hPF9 := Lib.hid pf9
      clear pf9
      clear hdep
      refine StepG.mk rfl ?_; rw [ha0]; simp only [putL, Act.put, List.setIfInBounds_toArray, List.set_cons_zero, List.set_cons_succ]
      go_wp2_with fail
      refine HK.out _ _ ?_
      refine ⟨v48, v49, v50, v51, v52, v53, v54, v55, (.tuple #[.agg #[.int .i64 X', .int .i64 Y'], .int .i64 0]), (.tuple #[.agg #[.int .i64 X', .int .i64 Y'], .int .i64 0]), v57, v58, v11, (by rw [ha0]; simp only [putL, Act.put, List.setIfInBounds_toArray, List.set_cons_zero, List.set_cons_succ]), ?_, ?_, ?_, ?_, trivial⟩
      · obtain ⟨h48, h49, h50, h51, h52, h53, h54, h55, h56, h47, h57, h58, h11, _⟩ := hR.out
        exact Lib.hid ⟨fun h => h48 (by simpa using h), fun h => h49 (by simpa using h), fun h => h50 (by simpa using h), fun h => h51 (by simpa using h), fun h => h52 (by simpa using h), fun h => h53 (by simpa using h), fun h => h54 (by simpa using h), fun h => h55 (by simpa using h), fun _ => rfl, fun _ => rfl, fun h => h57 (by simpa using h), fun h => h58 (by simpa using h), fun h => h11 (by simpa using h), trivial⟩
      · exact hX
      · exact ⟨_, _, hPB9.out, fun h => hPT9.out (by simpa using h), fun h => ⟨rfl, rfl⟩⟩
      · exact fun h => (by have h1 := hQ9 (by simpa using h); simp [h1])
    case x3hs10 =>
      intro s a' w' hsk hdep hI K hK
      try dsimp only at hI hK
      obtain ⟨v48, v49, v50, v51, v52, v53, v54, v55, v56, v47, v57, v58, v11, hact, hR, hX, hP9, hQ9, _⟩ := hI
      subst hact
      have HK := Lib.hid hK
      clear hK
      have e47 : v47 = .tuple #[.agg #[.int .i64 X', .int .i64 Y'], .int .i64 0] := by obtain ⟨h48, h49, h50, h51, h52, h53, h54, h55, h56, h47, h57, h58, h11, _⟩ := hR.out; exact h47 (hdep ⟨9, .data⟩ (by simp) rfl)
      subst e47
      obtain ⟨b9_0, b9_1, pb9, pt9, pf9⟩ := hP9
      have hs0 : s 12 = false := Bool.eq_false_iff.2 fun h => (by have := hQ9 h; simp [hsk] at this)
      obtain ⟨q9_0, q9_1⟩ := pf9 hs0
      subst q9_0
      subst q9_1
      clear hs0
      have kp9_0 := cell_of_row w' (O) 0 _ _ _ pb9
      have kp9_1 := cell_of_row w' (O) 1 _ _ _ pb9
      simp only [List.getElem?_toArray, List.getElem?_cons_zero, List.getElem?_cons_succ] at kp9_0 kp9_1
      have kq9 : ∀ o, w'.frozen? ⟨O, o, none⟩ = false := fun o => frozen_of_row w' _ o _ _ pb9
      have hPB9 := Lib.hid pb9
      clear pb9
      have hPT9 := Lib.hid pt9
      clear pt9
      have hPF9 := Lib.hid pf9
      clear pf9
      clear hdep
      refine StepG.mk rfl ?_; rw [ha0]; simp only [putL, Act.put, List.setIfInBounds_toArray, List.set_cons_zero, List.set_cons_succ]
      go_wp2_with fail
      refine HK.out _ _ ?_
      refine ⟨v48, v49, v50, v51, v52, v53, v54, v55, v56, (.tuple #[.agg #[.int .i64 X', .int .i64 Y'], .int .i64 0]), (.agg #[.int .i64 X', .int .i64 Y']), v58, v11, (by rw [ha0]; simp only [putL, Act.put, List.setIfInBounds_toArray, List.set_cons_zero, List.set_cons_succ]), ?_, ?_, ?_, ?_, trivial⟩
      · obtain ⟨h48, h49, h50, h51, h52, h53, h54, h55, h56, h47, h57, h58, h11, _⟩ := hR.out
        exact Lib.hid ⟨fun h => h48 (by simpa using h), fun h => h49 (by simpa using h), fun h => h50 (by simpa using h), fun h => h51 (by simpa using h), fun h => h52 (by simpa using h), fun h => h53 (by simpa using h), fun h => h54 (by simpa using h), fun h => h55 (by simpa using h), fun h => h56 (by simpa using h), fun _ => rfl, fun _ => rfl, fun h => h58 (by simpa using h), fun h => h11 (by simpa using h), trivial⟩
      · exact hX
      · exact ⟨_, _, hPB9.out, fun h => hPT9.out (by simpa using h), fun h => ⟨rfl, rfl⟩⟩
      · exact fun h => (by have h1 := hQ9 (by simpa using h); simp [h1])
    case x3hs11 =>
      intro s a' w' hsk hdep hI K hK
      try dsimp only at hI hK
      obtain ⟨v48, v49, v50, v51, v52, v53, v54, v55, v56, v47, v57, v58, v11, hact, hR, hX, hP9, hQ9, _⟩ := hI
      subst hact
      have HK := Lib.hid hK
      clear hK
      have e47 : v47 = .tuple #[.agg #[.int .i64 X', .int .i64 Y'], .int .i64 0] := by obtain ⟨h48, h49, h50, h51, h52, h53, h54, h55, h56, h47, h57, h58, h11, _⟩ := hR.out; exact h47 (hdep ⟨9, .data⟩ (by simp) rfl)
      subst e47
      obtain ⟨b9_0, b9_1, pb9, pt9, pf9⟩ := hP9
      have kp9_0 := cell_of_row w' (O) 0 _ _ _ pb9
      have kp9_1 := cell_of_row w' (O) 1 _ _ _ pb9
      simp only [List.getElem?_toArray, List.getElem?_cons_zero, List.getElem?_cons_succ] at kp9_0 kp9_1
      have kq9 : ∀ o, w'.frozen? ⟨O, o, none⟩ = false := fun o => frozen_of_row w' _ o _ _ pb9
      have hPB9 := Lib.hid pb9
      clear pb9
      have hPT9 := Lib.hid pt9
      clear pt9
      have hPF9 := Lib.hid pf9
      clear pf9
      clear hdep
      refine StepG.mk rfl ?_; rw [ha0]; simp only [putL, Act.put, List.setIfInBounds_toArray, List.set_cons_zero, List.set_cons_succ]
      go_wp2_with fail
      refine HK.out _ _ ?_
      refine ⟨v48, v49, v50, v51, v52, v53, v54, v55, v56, (.tuple #[.agg #[.int .i64 X', .int .i64 Y'], .int .i64 0]), v57, (.int .i64 0), v11, (by rw [ha0]; simp only [putL, Act.put, List.setIfInBounds_toArray, List.set_cons_zero, List.set_cons_succ]), ?_, ?_, ?_, ?_, trivial⟩
      · obtain ⟨h48, h49, h50, h51, h52, h53, h54, h55, h56, h47, h57, h58, h11, _⟩ := hR.out
        exact Lib.hid ⟨fun h => h48 (by simpa using h), fun h => h49 (by simpa using h), fun h => h50 (by simpa using h), fun h => h51 (by simpa using h), fun h => h52 (by simpa using h), fun h => h53 (by simpa using h), fun h => h54 (by simpa using h), fun h => h55 (by simpa using h), fun h => h56 (by simpa using h), fun _ => rfl, fun h => h57 (by simpa using h), fun _ => rfl, fun h => h11 (by simpa using h), trivial⟩
      · exact hX
      · exact ⟨_, _, hPB9.out, fun h => hPT9.out (by simpa using h), fun h => (hPF9.out (by simpa using h))⟩
      · exact fun h => (by have h1 := hQ9 (by simpa using h); simp [h1])
    case x3hs12 =>
      intro s a' w' hsk hdep hI K hK
      try dsimp only at hI hK
      obtain ⟨v48, v49, v50, v51, v52, v53, v54, v55, v56, v47, v57, v58, v11, hact, hR, hX, hP9, hQ9, _⟩ := hI
      subst hact
      have HK := Lib.hid hK
      clear hK
      have e57 : v57 = .agg #[.int .i64 X', .int .i64 Y'] := by obtain ⟨h48, h49, h50, h51, h52, h53, h54, h55, h56, h47, h57, h58, h11, _⟩ := hR.out; exact h57 (hdep ⟨10, .data⟩ (by simp) rfl)
      subst e57
      obtain ⟨b9_0, b9_1, pb9, pt9, pf9⟩ := hP9
      have hs0 : s 12 = false := hsk
      obtain ⟨q9_0, q9_1⟩ := pf9 hs0
      subst q9_0
      subst q9_1
      clear hs0
      have kp9_0 := cell_of_row w' (O) 0 _ _ _ pb9
      have kp9_1 := cell_of_row w' (O) 1 _ _ _ pb9
      simp only [List.getElem?_toArray, List.getElem?_cons_zero, List.getElem?_cons_succ] at kp9_0 kp9_1
      have kq9 : ∀ o, w'.frozen? ⟨O, o, none⟩ = false := fun o => frozen_of_row w' _ o _ _ pb9
      have hPB9 := Lib.hid pb9
      clear pb9
      have hPT9 := Lib.hid pt9
      clear pt9
      have hPF9 := Lib.hid pf9
      clear pf9
      have hd0 : s 0 = true := hdep ⟨0, .phase⟩ (by simp) rfl
      have hd1 : s 1 = true := hdep ⟨1, .phase⟩ (by simp) rfl
      have hd2 : s 2 = true := hdep ⟨2, .phase⟩ (by simp) rfl
      have hd3 : s 3 = true := hdep ⟨3, .phase⟩ (by simp) rfl
      have hd4 : s 4 = true := hdep ⟨4, .phase⟩ (by simp) rfl
      have hd5 : s 5 = true := hdep ⟨5, .phase⟩ (by simp) rfl
      have hd6 : s 6 = true := hdep ⟨6, .phase⟩ (by simp) rfl
      have hd7 : s 7 = true := hdep ⟨7, .phase⟩ (by simp) rfl
      have hd8 : s 8 = true := hdep ⟨8, .chain⟩ (by simp) rfl
      have hd9 : s 9 = true := hdep ⟨9, .phase⟩ (by simp) rfl
      have hd10 : s 10 = true := hdep ⟨10, .data⟩ (by simp) rfl
      clear hdep
      refine StepG.mk rfl ?_; rw [ha0]; simp only [putL, Act.put, List.setIfInBounds_toArray, List.set_cons_zero, List.set_cons_succ]
      go_wp2_with fail
      refine HK.out _ _ ?_
      refine ⟨v48, v49, v50, v51, v52, v53, v54, v55, v56, v47, (.agg #[.int .i64 X', .int .i64 Y']), v58, v11, (by rw [ha0]; simp only [putL, Act.put, List.setIfInBounds_toArray, List.set_cons_zero, List.set_cons_succ]), ?_, ?_, ?_, ?_, trivial⟩
      · obtain ⟨h48, h49, h50, h51, h52, h53, h54, h55, h56, h47, h57, h58, h11, _⟩ := hR.out
        exact Lib.hid ⟨fun h => h48 (by simpa using h), fun h => h49 (by simpa using h), fun h => h50 (by simpa using h), fun h => h51 (by simpa using h), fun h => h52 (by simpa using h), fun h => h53 (by simpa using h), fun h => h54 (by simpa using h), fun h => h55 (by simpa using h), fun h => h56 (by simpa using h), fun h => h47 (by simpa using h), fun _ => rfl, fun h => h58 (by simpa using h), fun h => h11 (by simpa using h), trivial⟩
      · exact ((hX.setOld (p := ⟨O, 0, none⟩) (by simp) _).setOld (p := ⟨O, 1, none⟩) (by simp) _)
      · exact ⟨_, _, blk_set2 hPB9.out, fun _ => ⟨rfl, rfl⟩, fun h => (by simp at h)⟩
      · exact fun _ => (by simp [hd0, hd1, hd2, hd3, hd4, hd5, hd6, hd7, hd8, hd9, hd10])
    case x3hs13 =>
      intro s a' w' hsk hdep hI K hK
      try dsimp only at hI hK
      obtain ⟨v48, v49, v50, v51, v52, v53, v54, v55, v56, v47, v57, v58, v11, hact, hR, hX, hP9, hQ9, _⟩ := hI
      subst hact
      have HK := Lib.hid hK
      clear hK
      have e58 : v58 = .int .i64 0 := by obtain ⟨h48, h49, h50, h51, h52, h53, h54, h55, h56, h47, h57, h58, h11, _⟩ := hR.out; exact h58 (hdep ⟨11, .data⟩ (by simp) rfl)
      subst e58
      obtain ⟨b9_0, b9_1, pb9, pt9, pf9⟩ := hP9
      have kp9_0 := cell_of_row w' (O) 0 _ _ _ pb9
      have kp9_1 := cell_of_row w' (O) 1 _ _ _ pb9
      simp only [List.getElem?_toArray, List.getElem?_cons_zero, List.getElem?_cons_succ] at kp9_0 kp9_1
      have kq9 : ∀ o, w'.frozen? ⟨O, o, none⟩ = false := fun o => frozen_of_row w' _ o _ _ pb9
      have hPB9 := Lib.hid pb9
      clear pb9
      have hPT9 := Lib.hid pt9
      clear pt9
      have hPF9 := Lib.hid pf9
      clear pf9
      clear hdep
      refine StepG.mk rfl ?_; rw [ha0]; simp only [putL, Act.put, List.setIfInBounds_toArray, List.set_cons_zero, List.set_cons_succ]
      go_wp2_with fail
      refine HK.out _ _ ?_
      refine ⟨v48, v49, v50, v51, v52, v53, v54, v55, v56, v47, v57, (.int .i64 0), (.int .i64 0), (by rw [ha0]; simp only [putL, Act.put, List.setIfInBounds_toArray, List.set_cons_zero, List.set_cons_succ]), ?_, ?_, ?_, ?_, trivial⟩
      · obtain ⟨h48, h49, h50, h51, h52, h53, h54, h55, h56, h47, h57, h58, h11, _⟩ := hR.out
        exact Lib.hid ⟨fun h => h48 (by simpa using h), fun h => h49 (by simpa using h), fun h => h50 (by simpa using h), fun h => h51 (by simpa using h), fun h => h52 (by simpa using h), fun h => h53 (by simpa using h), fun h => h54 (by simpa using h), fun h => h55 (by simpa using h), fun h => h56 (by simpa using h), fun h => h47 (by simpa using h), fun h => h57 (by simpa using h), fun _ => rfl, fun _ => rfl, trivial⟩
      · exact hX
      · exact ⟨_, _, hPB9.out, fun h => hPT9.out (by simpa using h), fun h => (hPF9.out (by simpa using h))⟩
      · exact fun h => (by have h1 := hQ9 (by simpa using h); simp [h1])
    intro s a' w5 hall hI
    try dsimp only at hI
    obtain ⟨v48, v49, v50, v51, v52, v53, v54, v55, v56, v47, v57, v58, v11, hact, hR, hXR, hP9, hQ9, _⟩ := hI
    subst hact
    obtain ⟨h48, h49, h50, h51, h52, h53, h54, h55, h56, h47, h57, h58, h11, _⟩ := hR.out
    clear hR
    have e48 := h48 (hall 0 (by decide))
    subst e48
    clear h48
    have e49 := h49 (hall 1 (by decide))
    subst e49
    clear h49
    have e50 := h50 (hall 2 (by decide))
    subst e50
    clear h50
    have e51 := h51 (hall 3 (by decide))
    subst e51
    clear h51
    have e52 := h52 (hall 4 (by decide))
    subst e52
    clear h52
    have e53 := h53 (hall 5 (by decide))
    subst e53
    clear h53
    have e54 := h54 (hall 6 (by decide))
    subst e54
    clear h54
    have e55 := h55 (hall 7 (by decide))
    subst e55
    clear h55
    have e56 := h56 (hall 8 (by decide))
    subst e56
    clear h56
    have e47 := h47 (hall 9 (by decide))
    subst e47
    clear h47
    have e57 := h57 (hall 10 (by decide))
    subst e57
    clear h57
    have e58 := h58 (hall 11 (by decide))
    subst e58
    clear h58
    have e11 := h11 (hall 13 (by decide))
    subst e11
    clear h11
    obtain ⟨c0, c1, pblkR9, hpt, _⟩ := hP9
    clear hQ9
    obtain ⟨es0, es1⟩ := hpt (hall 12 (by decide))
    subst es0
    subst es1
    clear hpt
    try clear pblk9
    have pblk9 := pblkR9
    clear pblkR9
    clear hall
    rw [ha0]; simp only [putL, Act.put, List.setIfInBounds_toArray, List.set_cons_zero, List.set_cons_succ]
    clear ha0
    have B5 : Below w.heap.size w w5 := hXR.below (by first | assumption | exact (by repeat (first | exact Below.refl _ _ | exact Nat.le_refl _ | refine Below.alloc ?_ ?_ _ | refine Below.setCell ?_ ?_ _ | refine Below.drew ?_ | refine bl_drewN ?_ _ | (assumption) | refine bl_call ?_ (by assumption) ?_ | omega | (simp <;> omega)))) (by first | omega | (simp <;> omega)) (by simp <;> omega)
    have S5 := (hXR.block (O + 1) (blk_lt S4) (by simp)).trans S4
    have zz5 := blk_lt pblk9
    have zy5 := blk_lt S5
    clear hXR R4 S4
    have R5 := pblk9
    clear pblk9
    have pblk10 := S5
    go_upto_region 9 with fail
    have pblk10 : w5.heap[O + 1]? = some (.cells #[.int .i64 0, .int .i64 0] 23 (0, 0)) := by first | assumption | exact hblk10
    refine with_act fun a0 ha0 => ?_
    refine wp_region_inv (by kernel_rfl) (by kernel_rfl) (fun s a' w' => ∃ v60 v61 v62 v63 v64 v65 v66 v67 v68 v59 v69 v70 v12 : Value, a' = putL a0 [(60, v60), (61, v61), (62, v62), (63, v63), (64, v64), (65, v65), (66, v66), (67, v67), (68, v68), (59, v59), (69, v69), (70, v70), (12, v12)] ∧ Hid ((s 0 = true → v60 = .string t) ∧ (s 1 = true → v61 = .int .i64 k) ∧ (s 2 = true → v62 = .string a) ∧ (s 3 = true → v63 = .string u4) ∧ (s 4 = true → v64 = .string t) ∧ (s 5 = true → v65 = .int .i64 k) ∧ (s 6 = true → v66 = .string b) ∧ (s 7 = true → v67 = .string z4) ∧ (s 8 = true → v68 = .tuple #[.agg #[.int .i64 X', .int .i64 Y'], .int .i64 0]) ∧ (s 9 = true → v59 = .tuple #[.agg #[.int .i64 X', .int .i64 Y'], .int .i64 0]) ∧ (s 10 = true → v69 = .agg #[.int .i64 X', .int .i64 Y']) ∧ (s 11 = true → v70 = .int .i64 0) ∧ (s 13 = true → v12 = .int .i64 0) ∧ True) ∧ BelX [O + 1] w5 w' ∧ (∃ (c0 c1 : Value), w'.heap[O + 1]? = some (.cells #[c0, c1] 23 (0, 0)) ∧ (s 12 = true → c0 = .int .i64 X' ∧ c1 = .int .i64 Y') ∧ (s 12 = false → c0 = .int .i64 0 ∧ c1 = .int .i64 0)) ∧ (s 12 = true → s 0 = true ∧ s 1 = true ∧ s 2 = true ∧ s 3 = true ∧ s 4 = true ∧ s 5 = true ∧ s 6 = true ∧ s 7 = true ∧ s 8 = true ∧ s 9 = true ∧ s 10 = true ∧ True) ∧ True) ?x4hzero ⟨?x4hs0, ?x4hs1, ?x4hs2, ?x4hs3, ?x4hs4, ?x4hs5, ?x4hs6, ?x4hs7, ?x4hs8, ?x4hs9, ?x4hs10, ?x4hs11, ?x4hs12, ?x4hs13, trivial⟩ ?x4hdone
    case x4hzero =>
      refine ⟨a0.tmps.getD 60 undef, a0.tmps.getD 61 undef, a0.tmps.getD 62 undef, a0.tmps.getD 63 undef, a0.tmps.getD 64 undef, a0.tmps.getD 65 undef, a0.tmps.getD 66 undef, a0.tmps.getD 67 undef, a0.tmps.getD 68 undef, a0.tmps.getD 59 undef, a0.tmps.getD 69 undef, a0.tmps.getD 70 undef, a0.tmps.getD 12 undef, ?_, ?_, ?_, ?_, ?_, trivial⟩
      · simp only [putL, put_self]
      · exact Lib.hid ⟨fun h => (by simp at h), fun h => (by simp at h), fun h => (by simp at h), fun h => (by simp at h), fun h => (by simp at h), fun h => (by simp at h), fun h => (by simp at h), fun h => (by simp at h), fun h => (by simp at h), fun h => (by simp at h), fun h => (by simp at h), fun h => (by simp at h), fun h => (by simp at h), trivial⟩
      · exact BelX.start _ _
      · exact ⟨.int .i64 0, .int .i64 0, pblk10, fun h => (by simp at h), fun _ => ⟨rfl, rfl⟩⟩
      · exact fun h => (by simp at h)
    case x4hs0 =>
      intro s a' w' hsk hdep hI K hK
      try dsimp only at hI hK
      obtain ⟨v60, v61, v62, v63, v64, v65, v66, v67, v68, v59, v69, v70, v12, hact, hR, hX, hP10, hQ10, _⟩ := hI
      subst hact
      have HK := Lib.hid hK
      clear hK
      obtain ⟨b10_0, b10_1, pb10, pt10, pf10⟩ := hP10
      have hs0 : s 12 = false := Bool.eq_false_iff.2 fun h => (by have := hQ10 h; simp [hsk] at this)
      obtain ⟨q10_0, q10_1⟩ := pf10 hs0
      subst q10_0
      subst q10_1
      clear hs0
      have kp10_0 := cell_of_row w' (O + 1) 0 _ _ _ pb10
      have kp10_1 := cell_of_row w' (O + 1) 1 _ _ _ pb10
      simp only [List.getElem?_toArray, List.getElem?_cons_zero, List.getElem?_cons_succ] at kp10_0 kp10_1
      have kq10 : ∀ o, w'.frozen? ⟨O + 1, o, none⟩ = false := fun o => frozen_of_row w' _ o _ _ pb10
      have hPB10 := Lib.hid pb10
      clear pb10
      have hPT10 := Lib.hid pt10
      clear pt10
      have hPF10 := Lib.hid pf10
      clear pf10
      clear hdep
      refine StepG.mk rfl ?_; rw [ha0]; simp only [putL, Act.put, List.setIfInBounds_toArray, List.set_cons_zero, List.set_cons_succ]
      go_wp2_with fail
      refine HK.out _ _ ?_
      refine ⟨(.string t), v61, v62, v63, v64, v65, v66, v67, v68, v59, v69, v70, v12, (by rw [ha0]; simp only [putL, Act.put, List.setIfInBounds_toArray, List.set_cons_zero, List.set_cons_succ]), ?_, ?_, ?_, ?_, trivial⟩
      · obtain ⟨h60, h61, h62, h63, h64, h65, h66, h67, h68, h59, h69, h70, h12, _⟩ := hR.out
        exact Lib.hid ⟨fun _ => rfl, fun h => h61 (by simpa using h), fun h => h62 (by simpa using h), fun h => h63 (by simpa using h), fun h => h64 (by simpa using h), fun h => h65 (by simpa using h), fun h => h66 (by simpa using h), fun h => h67 (by simpa using h), fun h => h68 (by simpa using h), fun h => h59 (by simpa using h), fun h => h69 (by simpa using h), fun h => h70 (by simpa using h), fun h => h12 (by simpa using h), trivial⟩
      · exact hX
      · exact ⟨_, _, hPB10.out, fun h => hPT10.out (by simpa using h), fun h => ⟨rfl, rfl⟩⟩
      · exact fun h => (by have h1 := hQ10 (by simpa using h); simp [h1])
    case x4hs1 =>
      intro s a' w' hsk hdep hI K hK
      try dsimp only at hI hK
      obtain ⟨v60, v61, v62, v63, v64, v65, v66, v67, v68, v59, v69, v70, v12, hact, hR, hX, hP10, hQ10, _⟩ := hI
      subst hact
      have HK := Lib.hid hK
      clear hK
      obtain ⟨b10_0, b10_1, pb10, pt10, pf10⟩ := hP10
      have hs0 : s 12 = false := Bool.eq_false_iff.2 fun h => (by have := hQ10 h; simp [hsk] at this)
      obtain ⟨q10_0, q10_1⟩ := pf10 hs0
      subst q10_0
      subst q10_1
      clear hs0
      have kp10_0 := cell_of_row w' (O + 1) 0 _ _ _ pb10
      have kp10_1 := cell_of_row w' (O + 1) 1 _ _ _ pb10
      simp only [List.getElem?_toArray, List.getElem?_cons_zero, List.getElem?_cons_succ] at kp10_0 kp10_1
      have kq10 : ∀ o, w'.frozen? ⟨O + 1, o, none⟩ = false := fun o => frozen_of_row w' _ o _ _ pb10
      have hPB10 := Lib.hid pb10
      clear pb10
      have hPT10 := Lib.hid pt10
      clear pt10
      have hPF10 := Lib.hid pf10
      clear pf10
      clear hdep
      refine StepG.mk rfl ?_; rw [ha0]; simp only [putL, Act.put, List.setIfInBounds_toArray, List.set_cons_zero, List.set_cons_succ]
      go_wp2_with fail
      refine HK.out _ _ ?_
      refine ⟨v60, (.int .i64 k), v62, v63, v64, v65, v66, v67, v68, v59, v69, v70, v12, (by rw [ha0]; simp only [putL, Act.put, List.setIfInBounds_toArray, List.set_cons_zero, List.set_cons_succ]), ?_, ?_, ?_, ?_, trivial⟩
      · obtain ⟨h60, h61, h62, h63, h64, h65, h66, h67, h68, h59, h69, h70, h12, _⟩ := hR.out
        exact Lib.hid ⟨fun h => h60 (by simpa using h), fun _ => rfl, fun h => h62 (by simpa using h), fun h => h63 (by simpa using h), fun h => h64 (by simpa using h), fun h => h65 (by simpa using h), fun h => h66 (by simpa using h), fun h => h67 (by simpa using h), fun h => h68 (by simpa using h), fun h => h59 (by simpa using h), fun h => h69 (by simpa using h), fun h => h70 (by simpa using h), fun h => h12 (by simpa using h), trivial⟩
      · exact hX
      · exact ⟨_, _, hPB10.out, fun h => hPT10.out (by simpa using h), fun h => ⟨rfl, rfl⟩⟩
      · exact fun h => (by have h1 := hQ10 (by simpa using h); simp [h1])
    case x4hs2 =>
      intro s a' w' hsk hdep hI K hK
      try dsimp only at hI hK
      obtain ⟨v60, v61, v62, v63, v64, v65, v66, v67, v68, v59, v69, v70, v12, hact, hR, hX, hP10, hQ10, _⟩ := hI
      subst hact
      have HK := Lib.hid hK
      clear hK
      have e60 : v60 = .string t := by obtain ⟨h60, h61, h62, h63, h64, h65, h66, h67, h68, h59, h69, h70, h12, _⟩ := hR.out; exact h60 (hdep ⟨0, .data⟩ (by simp) rfl)
      subst e60
      have e61 : v61 = .int .i64 k := by obtain ⟨h60, h61, h62, h63, h64, h65, h66, h67, h68, h59, h69, h70, h12, _⟩ := hR.out; exact h61 (hdep ⟨1, .data⟩ (by simp) rfl)
      subst e61
      obtain ⟨b10_0, b10_1, pb10, pt10, pf10⟩ := hP10
      have hs0 : s 12 = false := Bool.eq_false_iff.2 fun h => (by have := hQ10 h; simp [hsk] at this)
      obtain ⟨q10_0, q10_1⟩ := pf10 hs0
      subst q10_0
      subst q10_1
      clear hs0
      have kp10_0 := cell_of_row w' (O + 1) 0 _ _ _ pb10
      have kp10_1 := cell_of_row w' (O + 1) 1 _ _ _ pb10
      simp only [List.getElem?_toArray, List.getElem?_cons_zero, List.getElem?_cons_succ] at kp10_0 kp10_1
      have kq10 : ∀ o, w'.frozen? ⟨O + 1, o, none⟩ = false := fun o => frozen_of_row w' _ o _ _ pb10
      have hPB10 := Lib.hid pb10
      clear pb10
      have hPT10 := Lib.hid pt10
      clear pt10
      have hPF10 := Lib.hid pf10
      clear pf10
      clear hdep
      refine StepG.mk rfl ?_; rw [ha0]; simp only [putL, Act.put, List.setIfInBounds_toArray, List.set_cons_zero, List.set_cons_succ]
      go_wp2_with fail
      refine HK.out _ _ ?_
      refine ⟨(.string t), (.int .i64 k), (.string a), v63, v64, v65, v66, v67, v68, v59, v69, v70, v12, (by rw [ha0]; simp only [putL, Act.put, List.setIfInBounds_toArray, List.set_cons_zero, List.set_cons_succ]), ?_, ?_, ?_, ?_, trivial⟩
      · obtain ⟨h60, h61, h62, h63, h64, h65, h66, h67, h68, h59, h69, h70, h12, _⟩ := hR.out
        exact Lib.hid ⟨fun _ => rfl, fun _ => rfl, fun _ => rfl, fun h => h63 (by simpa using h), fun h => h64 (by simpa using h), fun h => h65 (by simpa using h), fun h => h66 (by simpa using h), fun h => h67 (by simpa using h), fun h => h68 (by simpa using h), fun h => h59 (by simpa using h), fun h => h69 (by simpa using h), fun h => h70 (by simpa using h), fun h => h12 (by simpa using h), trivial⟩
      · exact hX
      · exact ⟨_, _, hPB10.out, fun h => hPT10.out (by simpa using h), fun h => ⟨rfl, rfl⟩⟩
      · exact fun h => (by have h1 := hQ10 (by simpa using h); simp [h1])
    case x4hs3 =>
      intro s a' w' hsk hdep hI K hK
      try dsimp only at hI hK
      obtain ⟨v60, v61, v62, v63, v64, v65, v66, v67, v68, v59, v69, v70, v12, hact, hR, hX, hP10, hQ10, _⟩ := hI
      subst hact
      have HK := Lib.hid hK
      clear hK
      have e62 : v62 = .string a := by obtain ⟨h60, h61, h62, h63, h64, h65, h66, h67, h68, h59, h69, h70, h12, _⟩ := hR.out; exact h62 (hdep ⟨2, .data⟩ (by simp) rfl)
      subst e62
      obtain ⟨b10_0, b10_1, pb10, pt10, pf10⟩ := hP10
      have hs0 : s 12 = false := Bool.eq_false_iff.2 fun h => (by have := hQ10 h; simp [hsk] at this)
      obtain ⟨q10_0, q10_1⟩ := pf10 hs0
      subst q10_0
      subst q10_1
      clear hs0
      have kp10_0 := cell_of_row w' (O + 1) 0 _ _ _ pb10
      have kp10_1 := cell_of_row w' (O + 1) 1 _ _ _ pb10
      simp only [List.getElem?_toArray, List.getElem?_cons_zero, List.getElem?_cons_succ] at kp10_0 kp10_1
      have kq10 : ∀ o, w'.frozen? ⟨O + 1, o, none⟩ = false := fun o => frozen_of_row w' _ o _ _ pb10
      have hPB10 := Lib.hid pb10
      clear pb10
      have hPT10 := Lib.hid pt10
      clear pt10
      have hPF10 := Lib.hid pf10
      clear pf10
      clear hdep
      refine StepG.mk rfl ?_; rw [ha0]; simp only [putL, Act.put, List.setIfInBounds_toArray, List.set_cons_zero, List.set_cons_succ]
      go_wp2_with fail
      refine HK.out _ _ ?_
      refine ⟨v60, v61, (.string a), (.string u4), v64, v65, v66, v67, v68, v59, v69, v70, v12, (by rw [ha0]; simp only [putL, Act.put, List.setIfInBounds_toArray, List.set_cons_zero, List.set_cons_succ]), ?_, ?_, ?_, ?_, trivial⟩
      · obtain ⟨h60, h61, h62, h63, h64, h65, h66, h67, h68, h59, h69, h70, h12, _⟩ := hR.out
        exact Lib.hid ⟨fun h => h60 (by simpa using h), fun h => h61 (by simpa using h), fun _ => rfl, fun _ => rfl, fun h => h64 (by simpa using h), fun h => h65 (by simpa using h), fun h => h66 (by simpa using h), fun h => h67 (by simpa using h), fun h => h68 (by simpa using h), fun h => h59 (by simpa using h), fun h => h69 (by simpa using h), fun h => h70 (by simpa using h), fun h => h12 (by simpa using h), trivial⟩
      · exact hX
      · exact ⟨_, _, hPB10.out, fun h => hPT10.out (by simpa using h), fun h => ⟨rfl, rfl⟩⟩
      · exact fun h => (by have h1 := hQ10 (by simpa using h); simp [h1])
    case x4hs4 =>
      intro s a' w' hsk hdep hI K hK
      try dsimp only at hI hK
      obtain ⟨v60, v61, v62, v63, v64, v65, v66, v67, v68, v59, v69, v70, v12, hact, hR, hX, hP10, hQ10, _⟩ := hI
      subst hact
      have HK := Lib.hid hK
      clear hK
      obtain ⟨b10_0, b10_1, pb10, pt10, pf10⟩ := hP10
      have hs0 : s 12 = false := Bool.eq_false_iff.2 fun h => (by have := hQ10 h; simp [hsk] at this)
      obtain ⟨q10_0, q10_1⟩ := pf10 hs0
      subst q10_0
      subst q10_1
      clear hs0
      have kp10_0 := cell_of_row w' (O + 1) 0 _ _ _ pb10
      have kp10_1 := cell_of_row w' (O + 1) 1 _ _ _ pb10
      simp only [List.getElem?_toArray, List.getElem?_cons_zero, List.getElem?_cons_succ] at kp10_0 kp10_1
      have kq10 : ∀ o, w'.frozen? ⟨O + 1, o, none⟩ = false := fun o => frozen_of_row w' _ o _ _ pb10
      have hPB10 := Lib.hid pb10
      clear pb10
      have hPT10 := Lib.hid pt10
      clear pt10
      have hPF10 := Lib.hid pf10
      clear pf10
      clear hdep
      refine StepG.mk rfl ?_; rw [ha0]; simp only [putL, Act.put, List.setIfInBounds_toArray, List.set_cons_zero, List.set_cons_succ]
      go_wp2_with fail
      refine HK.out _ _ ?_
      refine ⟨v60, v61, v62, v63, (.string t), v65, v66, v67, v68, v59, v69, v70, v12, (by rw [ha0]; simp only [putL, Act.put, List.setIfInBounds_toArray, List.set_cons_zero, List.set_cons_succ]), ?_, ?_, ?_, ?_, trivial⟩
      · obtain ⟨h60, h61, h62, h63, h64, h65, h66, h67, h68, h59, h69, h70, h12, _⟩ := hR.out
        exact Lib.hid ⟨fun h => h60 (by simpa using h), fun h => h61 (by simpa using h), fun h => h62 (by simpa using h), fun h => h63 (by simpa using h), fun _ => rfl, fun h => h65 (by simpa using h), fun h => h66 (by simpa using h), fun h => h67 (by simpa using h), fun h => h68 (by simpa using h), fun h => h59 (by simpa using h), fun h => h69 (by simpa using h), fun h => h70 (by simpa using h), fun h => h12 (by simpa using h), trivial⟩
      · exact hX
      · exact ⟨_, _, hPB10.out, fun h => hPT10.out (by simpa using h), fun h => ⟨rfl, rfl⟩⟩
      · exact fun h => (by have h1 := hQ10 (by simpa using h); simp [h1])
    case x4hs5 =>
      intro s a' w' hsk hdep hI K hK
      try dsimp only at hI hK
      obtain ⟨v60, v61, v62, v63, v64, v65, v66, v67, v68, v59, v69, v70, v12, hact, hR, hX, hP10, hQ10, _⟩ := hI
      subst hact
      have HK := Lib.hid hK
      clear hK
      obtain ⟨b10_0, b10_1, pb10, pt10, pf10⟩ := hP10
      have hs0 : s 12 = false := Bool.eq_false_iff.2 fun h => (by have := hQ10 h; simp [hsk] at this)
      obtain ⟨q10_0, q10_1⟩ := pf10 hs0
      subst q10_0
      subst q10_1
      clear hs0
      have kp10_0 := cell_of_row w' (O + 1) 0 _ _ _ pb10
      have kp10_1 := cell_of_row w' (O + 1) 1 _ _ _ pb10
      simp only [List.getElem?_toArray, List.getElem?_cons_zero, List.getElem?_cons_succ] at kp10_0 kp10_1
      have kq10 : ∀ o, w'.frozen? ⟨O + 1, o, none⟩ = false := fun o => frozen_of_row w' _ o _ _ pb10
      have hPB10 := Lib.hid pb10
      clear pb10
      have hPT10 := Lib.hid pt10
      clear pt10
      have hPF10 := Lib.hid pf10
      clear pf10
      clear hdep
      refine StepG.mk rfl ?_; rw [ha0]; simp only [putL, Act.put, List.setIfInBounds_toArray, List.set_cons_zero, List.set_cons_succ]
      go_wp2_with fail
      refine HK.out _ _ ?_
      refine ⟨v60, v61, v62, v63, v64, (.int .i64 k), v66, v67, v68, v59, v69, v70, v12, (by rw [ha0]; simp only [putL, Act.put, List.setIfInBounds_toArray, List.set_cons_zero, List.set_cons_succ]), ?_, ?_, ?_, ?_, trivial⟩
      · obtain ⟨h60, h61, h62, h63, h64, h65, h66, h67, h68, h59, h69, h70, h12, _⟩ := hR.out
        exact Lib.hid ⟨fun h => h60 (by simpa using h), fun h => h61 (by simpa using h), fun h => h62 (by simpa using h), fun h => h63 (by simpa using h), fun h => h64 (by simpa using h), fun _ => rfl, fun h => h66 (by simpa using h), fun h => h67 (by simpa using h), fun h => h68 (by simpa using h), fun h => h59 (by simpa using h), fun h => h69 (by simpa using h), fun h => h70 (by simpa using h), fun h => h12 (by simpa using h), trivial⟩
      · exact hX
      · exact ⟨_, _, hPB10.out, fun h => hPT10.out (by simpa using h), fun h => ⟨rfl, rfl⟩⟩
      · exact fun h => (by have h1 := hQ10 (by simpa using h); simp [h1])
    case x4hs6 =>
      intro s a' w' hsk hdep hI K hK
      try dsimp only at hI hK
      obtain ⟨v60, v61, v62, v63, v64, v65, v66, v67, v68, v59, v69, v70, v12, hact, hR, hX, hP10, hQ10, _⟩ := hI
      subst hact
      have HK := Lib.hid hK
      clear hK
      have e64 : v64 = .string t := by obtain ⟨h60, h61, h62, h63, h64, h65, h66, h67, h68, h59, h69, h70, h12, _⟩ := hR.out; exact h64 (hdep ⟨4, .data⟩ (by simp) rfl)
      subst e64
      have e65 : v65 = .int .i64 k := by obtain ⟨h60, h61, h62, h63, h64, h65, h66, h67, h68, h59, h69, h70, h12, _⟩ := hR.out; exact h65 (hdep ⟨5, .data⟩ (by simp) rfl)
      subst e65
      obtain ⟨b10_0, b10_1, pb10, pt10, pf10⟩ := hP10
      have hs0 : s 12 = false := Bool.eq_false_iff.2 fun h => (by have := hQ10 h; simp [hsk] at this)
      obtain ⟨q10_0, q10_1⟩ := pf10 hs0
      subst q10_0
      subst q10_1
      clear hs0
      have kp10_0 := cell_of_row w' (O + 1) 0 _ _ _ pb10
      have kp10_1 := cell_of_row w' (O + 1) 1 _ _ _ pb10
      simp only [List.getElem?_toArray, List.getElem?_cons_zero, List.getElem?_cons_succ] at kp10_0 kp10_1
      have kq10 : ∀ o, w'.frozen? ⟨O + 1, o, none⟩ = false := fun o => frozen_of_row w' _ o _ _ pb10
      have hPB10 := Lib.hid pb10
      clear pb10
      have hPT10 := Lib.hid pt10
      clear pt10
      have hPF10 := Lib.hid pf10
      clear pf10
      clear hdep
      refine StepG.mk rfl ?_; rw [ha0]; simp only [putL, Act.put, List.setIfInBounds_toArray, List.set_cons_zero, List.set_cons_succ]
      go_wp2_with fail
      refine HK.out _ _ ?_
      refine ⟨v60, v61, v62, v63, (.string t), (.int .i64 k), (.string b), v67, v68, v59, v69, v70, v12, (by rw [ha0]; simp only [putL, Act.put, List.setIfInBounds_toArray, List.set_cons_zero, List.set_cons_succ]), ?_, ?_, ?_, ?_, trivial⟩
      · obtain ⟨h60, h61, h62, h63, h64, h65, h66, h67, h68, h59, h69, h70, h12, _⟩ := hR.out
        exact Lib.hid ⟨fun h => h60 (by simpa using h), fun h => h61 (by simpa using h), fun h => h62 (by simpa using h), fun h => h63 (by simpa using h), fun _ => rfl, fun _ => rfl, fun _ => rfl, fun h => h67 (by simpa using h), fun h => h68 (by simpa using h), fun h => h59 (by simpa using h), fun h => h69 (by simpa using h), fun h => h70 (by simpa using h), fun h => h12 (by simpa using h), trivial⟩
      · exact hX
      · exact ⟨_, _, hPB10.out, fun h => hPT10.out (by simpa using h), fun h => ⟨rfl, rfl⟩⟩
      · exact fun h => (by have h1 := hQ10 (by simpa using h); simp [h1])
    case x4hs7 =>
      intro s a' w' hsk hdep hI K hK
      try dsimp only at hI hK
      obtain ⟨v60, v61, v62, v63, v64, v65, v66, v67, v68, v59, v69, v70, v12, hact, hR, hX, hP10, hQ10, _⟩ := hI
      subst hact
      have HK := Lib.hid hK
      clear hK
      have e63 : v63 = .string u4 := by obtain ⟨h60, h61, h62, h63, h64, h65, h66, h67, h68, h59, h69, h70, h12, _⟩ := hR.out; exact h63 (hdep ⟨3, .data⟩ (by simp) rfl)
      subst e63
      have e66 : v66 = .string b := by obtain ⟨h60, h61, h62, h63, h64, h65, h66, h67, h68, h59, h69, h70, h12, _⟩ := hR.out; exact h66 (hdep ⟨6, .data⟩ (by simp) rfl)
      subst e66
      obtain ⟨b10_0, b10_1, pb10, pt10, pf10⟩ := hP10
      have hs0 : s 12 = false := Bool.eq_false_iff.2 fun h => (by have := hQ10 h; simp [hsk] at this)
      obtain ⟨q10_0, q10_1⟩ := pf10 hs0
      subst q10_0
      subst q10_1
      clear hs0
      have kp10_0 := cell_of_row w' (O + 1) 0 _ _ _ pb10
      have kp10_1 := cell_of_row w' (O + 1) 1 _ _ _ pb10
      simp only [List.getElem?_toArray, List.getElem?_cons_zero, List.getElem?_cons_succ] at kp10_0 kp10_1
      have kq10 : ∀ o, w'.frozen? ⟨O + 1, o, none⟩ = false := fun o => frozen_of_row w' _ o _ _ pb10
      have hPB10 := Lib.hid pb10
      clear pb10
      have hPT10 := Lib.hid pt10
      clear pt10
      have hPF10 := Lib.hid pf10
      clear pf10
      clear hdep
      refine StepG.mk rfl ?_; rw [ha0]; simp only [putL, Act.put, List.setIfInBounds_toArray, List.set_cons_zero, List.set_cons_succ]
      go_wp2_with fail
      refine HK.out _ _ ?_
      refine ⟨v60, v61, v62, (.string u4), v64, v65, (.string b), (.string z4), v68, v59, v69, v70, v12, (by rw [ha0]; simp only [putL, Act.put, List.setIfInBounds_toArray, List.set_cons_zero, List.set_cons_succ]), ?_, ?_, ?_, ?_, trivial⟩
      · obtain ⟨h60, h61, h62, h63, h64, h65, h66, h67, h68, h59, h69, h70, h12, _⟩ := hR.out
        exact Lib.hid ⟨fun h => h60 (by simpa using h), fun h => h61 (by simpa using h), fun h => h62 (by simpa using h), fun _ => rfl, fun h => h64 (by simpa using h), fun h => h65 (by simpa using h), fun _ => rfl, fun _ => rfl, fun h => h68 (by simpa using h), fun h => h59 (by simpa using h), fun h => h69 (by simpa using h), fun h => h70 (by simpa using h), fun h => h12 (by simpa using h), trivial⟩
      · exact hX
      · exact ⟨_, _, hPB10.out, fun h => hPT10.out (by simpa using h), fun h => ⟨rfl, rfl⟩⟩
      · exact fun h => (by have h1 := hQ10 (by simpa using h); simp [h1])
    case x4hs8 =>
      intro s a' w' hsk hdep hI K hK
      try dsimp only at hI hK
      obtain ⟨v60, v61, v62, v63, v64, v65, v66, v67, v68, v59, v69, v70, v12, hact, hR, hX, hP10, hQ10, _⟩ := hI
      subst hact
      have HK := Lib.hid hK
      clear hK
      have e67 : v67 = .string z4 := by obtain ⟨h60, h61, h62, h63, h64, h65, h66, h67, h68, h59, h69, h70, h12, _⟩ := hR.out; exact h67 (hdep ⟨7, .data⟩ (by simp) rfl)
      subst e67
      obtain ⟨b10_0, b10_1, pb10, pt10, pf10⟩ := hP10
      have hs0 : s 12 = false := Bool.eq_false_iff.2 fun h => (by have := hQ10 h; simp [hsk] at this)
      obtain ⟨q10_0, q10_1⟩ := pf10 hs0
      subst q10_0
      subst q10_1
      clear hs0
      have kp10_0 := cell_of_row w' (O + 1) 0 _ _ _ pb10
      have kp10_1 := cell_of_row w' (O + 1) 1 _ _ _ pb10
      simp only [List.getElem?_toArray, List.getElem?_cons_zero, List.getElem?_cons_succ] at kp10_0 kp10_1
      have kq10 : ∀ o, w'.frozen? ⟨O + 1, o, none⟩ = false := fun o => frozen_of_row w' _ o _ _ pb10
      have hPB10 := Lib.hid pb10
      clear pb10
      have hPT10 := Lib.hid pt10
      clear pt10
      have hPF10 := Lib.hid pf10
      clear pf10
      clear hdep
      refine StepG.mk rfl ?_; rw [ha0]; simp only [putL, Act.put, List.setIfInBounds_toArray, List.set_cons_zero, List.set_cons_succ]
      go_wp2_with fail
      refine ((HV4.out _)).mono ?_
      rintro e wn ⟨rfl, hb⟩
      go_wp2_with fail
      refine HK.out _ _ ?_
      refine ⟨v60, v61, v62, v63, v64, v65, v66, (.string z4), (.tuple #[.agg #[.int .i64 X', .int .i64 Y'], .int .i64 0]), v59, v69, v70, v12, (by rw [ha0]; simp only [putL, Act.put, List.setIfInBounds_toArray, List.set_cons_zero, List.set_cons_succ]), ?_, ?_, ?_, ?_, trivial⟩
      · obtain ⟨h60, h61, h62, h63, h64, h65, h66, h67, h68, h59, h69, h70, h12, _⟩ := hR.out
        exact Lib.hid ⟨fun h => h60 (by simpa using h), fun h => h61 (by simpa using h), fun h => h62 (by simpa using h), fun h => h63 (by simpa using h), fun h => h64 (by simpa using h), fun h => h65 (by simpa using h), fun h => h66 (by simpa using h), fun _ => rfl, fun _ => rfl, fun h => h59 (by simpa using h), fun h => h69 (by simpa using h), fun h => h70 (by simpa using h), fun h => h12 (by simpa using h), trivial⟩
      · exact hX.call hb
      · exact ⟨_, _, (hb.block _ (blk_lt hPB10.out)).trans hPB10.out, fun h => hPT10.out (by simpa using h), fun h => ⟨rfl, rfl⟩⟩
      · exact fun h => (by have h1 := hQ10 (by simpa using h); simp [h1])
    case x4hs9 =>
      intro s a' w' hsk hdep hI K hK
      try dsimp only at hI hK
      obtain ⟨v60, v61, v62, v63, v64, v65, v66, v67, v68, v59, v69, v70, v12, hact, hR, hX, hP10, hQ10, _⟩ := hI
      subst hact
      have HK := Lib.hid hK
      clear hK
      have e68 : v68 = .tuple #[.agg #[.int .i64 X', .int .i64 Y'], .int .i64 0] := by obtain ⟨h60, h61, h62, h63, h64, h65, h66, h67, h68, h59, h69, h70, h12, _⟩ := hR.out; exact h68 (hdep ⟨8, .data⟩ (by simp) rfl)
      subst e68
      obtain ⟨b10_0, b10_1, pb10, pt10, pf10⟩ := hP10
      have hs0 : s 12 = false := Bool.eq_false_iff.2 fun h => (by have := hQ10 h; simp [hsk] at this)
      obtain ⟨q10_0, q10_1⟩ := pf10 hs0
      subst q10_0
      subst q10_1
      clear hs0
      have kp10_0 := cell_of_row w' (O + 1) 0 _ _ _ pb10
      have kp10_1 := cell_of_row w' (O + 1) 1 _ _ _ pb10
      simp only [List.getElem?_toArray, List.getElem?_cons_zero, List.getElem?_cons_succ] at kp10_0 kp10_1
      have kq10 : ∀ o, w'.frozen? ⟨O + 1, o, none⟩ = false := fun o => frozen_of_row w' _ o _ _ pb10
      have hPB10 := Lib.hid pb10
      clear pb10
      have hPT10 := Lib.hid pt10
      clear pt10
      have hPF10 := Lib.hid pf10
      clear pf10
      clear hdep
      refine StepG.mk rfl ?_; rw [ha0]; simp only [putL, Act.put, List.setIfInBounds_toArray, List.set_cons_zero, List.set_cons_succ]
      go_wp2_with fail
      refine HK.out _ _ ?_
      refine ⟨v60, v61, v62, v63, v64, v65, v66, v67, (.tuple #[.agg #[.int .i64 X', .int .i64 Y'], .int .i64 0]), (.tuple #[.agg #[.int .i64 X', .int .i64 Y'], .int .i64 0]), v69, v70, v12, (by rw [ha0]; simp only [putL, Act.put, List.setIfInBounds_toArray, List.set_cons_zero, List.set_cons_succ]), ?_, ?_, ?_, ?_, trivial⟩
      · obtain ⟨h60, h61, h62, h63, h64, h65, h66, h67, h68, h59, h69, h70, h12, _⟩ := hR.out
        exact Lib.hid ⟨fun h => h60 (by simpa using h), fun h => h61 (by simpa using h), fun h => h62 (by simpa using h), fun h => h63 (by simpa using h), fun h => h64 (by simpa using h), fun h => h65 (by simpa using h), fun h => h66 (by simpa using h), fun h => h67 (by simpa using h), fun _ => rfl, fun _ => rfl, fun h => h69 (by simpa using h), fun h => h70 (by simpa using h), fun h => h12 (by simpa using h), trivial⟩
      · exact hX
      · exact ⟨_, _, hPB10.out, fun h => hPT10.out (by simpa using h), fun h => ⟨rfl, rfl⟩⟩
      · exact fun h => (by have h1 := hQ10 (by simpa using h); simp [h1])
    case x4hs10 =>
      intro s a' w' hsk hdep hI K hK
      try dsimp only at hI hK
      obtain ⟨v60, v61, v62, v63, v64, v65, v66, v67, v68, v59, v69, v70, v12, hact, hR, hX, hP10, hQ10, _⟩ := hI
      subst hact
      have HK := Lib.hid hK
      clear hK
      have e59 : v59 = .tuple #[.agg #[.int .i64 X', .int .i64 Y'], .int .i64 0] := by obtain ⟨h60, h61, h62, h63, h64, h65, h66, h67, h68, h59, h69, h70, h12, _⟩ := hR.out; exact h59 (hdep ⟨9, .data⟩ (by simp) rfl)
      subst e59
      obtain ⟨b10_0, b10_1, pb10, pt10, pf10⟩ := hP10
      have hs0 : s 12 = false := Bool.eq_false_iff.2 fun h => (by have := hQ10 h; simp [hsk] at this)
      obtain ⟨q10_0, q10_1⟩ := pf10 hs0
      subst q10_0
      subst q10_1
      clear hs0
      have kp10_0 := cell_of_row w' (O + 1) 0 _ _ _ pb10
      have kp10_1 := cell_of_row w' (O + 1) 1 _ _ _ pb10
      simp only [List.getElem?_toArray, List.getElem?_cons_zero, List.getElem?_cons_succ] at kp10_0 kp10_1
      have kq10 : ∀ o, w'.frozen? ⟨O + 1, o, none⟩ = false := fun o => frozen_of_row w' _ o _ _ pb10
      have hPB10 := Lib.hid pb10
      clear pb10
      have hPT10 := Lib.hid pt10
      clear pt10
      have hPF10 := Lib.hid pf10
      clear pf10
      clear hdep
      refine StepG.mk rfl ?_; rw [ha0]; simp only [putL, Act.put, List.setIfInBounds_toArray, List.set_cons_zero, List.set_cons_succ]
      go_wp2_with fail
      refine HK.out _ _ ?_
      refine ⟨v60, v61, v62, v63, v64, v65, v66, v67, v68, (.tuple #[.agg #[.int .i64 X', .int .i64 Y'], .int .i64 0]), (.agg #[.int .i64 X', .int .i64 Y']), v70, v12, (by rw [ha0]; simp only [putL, Act.put, List.setIfInBounds_toArray, List.set_cons_zero, List.set_cons_succ]), ?_, ?_, ?_, ?_, trivial⟩
      · obtain ⟨h60, h61, h62, h63, h64, h65, h66, h67, h68, h59, h69, h70, h12, _⟩ := hR.out
        exact Lib.hid ⟨fun h => h60 (by simpa using h), fun h => h61 (by simpa using h), fun h => h62 (by simpa using h), fun h => h63 (by simpa using h), fun h => h64 (by simpa using h), fun h => h65 (by simpa using h), fun h => h66 (by simpa using h), fun h => h67 (by simpa using h), fun h => h68 (by simpa using h), fun _ => rfl, fun _ => rfl, fun h => h70 (by simpa using h), fun h => h12 (by simpa using h), trivial⟩
      · exact hX
      · exact ⟨_, _, hPB10.out, fun h => hPT10.out (by simpa using h), fun h => ⟨rfl, rfl⟩⟩
      · exact fun h => (by have h1 := hQ10 (by simpa using h); simp [h1])
    case x4hs11 =>
      intro s a' w' hsk hdep hI K hK
      try dsimp only at hI hK
      obtain ⟨v60, v61, v62, v63, v64, v65, v66, v67, v68, v59, v69, v70, v12, hact, hR, hX, hP10, hQ10, _⟩ := hI
      subst hact
      have HK := Lib.hid hK
      clear hK
      have e59 : v59 = .tuple #[.agg #[.int .i64 X', .int .i64 Y'], .int .i64 0] := by obtain ⟨h60, h61, h62, h63, h64, h65, h66, h67, h68, h59, h69, h70, h12, _⟩ := hR.out; exact h59 (hdep ⟨9, .data⟩ (by simp) rfl)
      subst e59
      obtain ⟨b10_0, b10_1, pb10, pt10, pf10⟩ := hP10
      have kp10_0 := cell_of_row w' (O + 1) 0 _ _ _ pb10
      have kp10_1 := cell_of_row w' (O + 1) 1 _ _ _ pb10
      simp only [List.getElem?_toArray, List.getElem?_cons_zero, List.getElem?_cons_succ] at kp10_0 kp10_1
      have kq10 : ∀ o, w'.frozen? ⟨O + 1, o, none⟩ = false := fun o => frozen_of_row w' _ o _ _ pb10
      have hPB10 := Lib.hid pb10
      clear pb10
      have hPT10 := Lib.hid pt10
      clear pt10
      have hPF10 := Lib.hid pf10
      clear pf10
      clear hdep
      refine StepG.mk rfl ?_; rw [ha0]; simp only [putL, Act.put, List.setIfInBounds_toArray, List.set_cons_zero, List.set_cons_succ]
      go_wp2_with fail
      refine HK.out _ _ ?_
      refine ⟨v60, v61, v62, v63, v64, v65, v66, v67, v68, (.tuple #[.agg #[.int .i64 X', .int .i64 Y'], .int .i64 0]), v69, (.int .i64 0), v12, (by rw [ha0]; simp only [putL, Act.put, List.setIfInBounds_toArray, List.set_cons_zero, List.set_cons_succ]), ?_, ?_, ?_, ?_, trivial⟩
      · obtain ⟨h60, h61, h62, h63, h64, h65, h66, h67, h68, h59, h69, h70, h12, _⟩ := hR.out
        exact Lib.hid ⟨fun h => h60 (by simpa using h), fun h => h61 (by simpa using h), fun h => h62 (by simpa using h), fun h => h63 (by simpa using h), fun h => h64 (by simpa using h), fun h => h65 (by simpa using h), fun h => h66 (by simpa using h), fun h => h67 (by simpa using h), fun h => h68 (by simpa using h), fun _ => rfl, fun h => h69 (by simpa using h), fun _ => rfl, fun h => h12 (by simpa using h), trivial⟩
      · exact hX
      · exact ⟨_, _, hPB10.out, fun h => hPT10.out (by simpa using h), fun h => (hPF10.out (by simpa using h))⟩
      · exact fun h => (by have h1 := hQ10 (by simpa using h); simp [h1])
    case x4hs12 =>
      intro s a' w' hsk hdep hI K hK
      try dsimp only at hI hK
      obtain ⟨v60, v61, v62, v63, v64, v65, v66, v67, v68, v59, v69, v70, v12, hact, hR, hX, hP10, hQ10, _⟩ := hI
      subst hact
      have HK := Lib.hid hK
      clear hK
      have e69 : v69 = .agg #[.int .i64 X', .int .i64 Y'] := by obtain ⟨h60, h61, h62, h63, h64, h65, h66, h67, h68, h59, h69, h70, h12, _⟩ := hR.out; exact h69 (hdep ⟨10, .data⟩ (by simp) rfl)
      subst e69
      obtain ⟨b10_0, b10_1, pb10, pt10, pf10⟩ := hP10
      have hs0 : s 12 = false := hsk
      obtain ⟨q10_0, q10_1⟩ := pf10 hs0
      subst q10_0
      subst q10_1
      clear hs0
      have kp10_0 := cell_of_row w' (O + 1) 0 _ _ _ pb10
      have kp10_1 := cell_of_row w' (O + 1) 1 _ _ _ pb10
      simp only [List.getElem?_toArray, List.getElem?_cons_zero, List.getElem?_cons_succ] at kp10_0 kp10_1
      have kq10 : ∀ o, w'.frozen? ⟨O + 1, o, none⟩ = false := fun o => frozen_of_row w' _ o _ _ pb10
      have hPB10 := Lib.hid pb10
      clear pb10
      have hPT10 := Lib.hid pt10
      clear pt10
      have hPF10 := Lib.hid pf10
      clear pf10
      have hd0 : s 0 = true := hdep ⟨0, .phase⟩ (by simp) rfl
      have hd1 : s 1 = true := hdep ⟨1, .phase⟩ (by simp) rfl
      have hd2 : s 2 = true := hdep ⟨2, .phase⟩ (by simp) rfl
      have hd3 : s 3 = true := hdep ⟨3, .phase⟩ (by simp) rfl
      have hd4 : s 4 = true := hdep ⟨4, .phase⟩ (by simp) rfl
      have hd5 : s 5 = true := hdep ⟨5, .phase⟩ (by simp) rfl
      have hd6 : s 6 = true := hdep ⟨6, .phase⟩ (by simp) rfl
      have hd7 : s 7 = true := hdep ⟨7, .phase⟩ (by simp) rfl
      have hd8 : s 8 = true := hdep ⟨8, .chain⟩ (by simp) rfl
      have hd9 : s 9 = true := hdep ⟨9, .phase⟩ (by simp) rfl
      have hd10 : s 10 = true := hdep ⟨10, .data⟩ (by simp) rfl
      clear hdep
      refine StepG.mk rfl ?_; rw [ha0]; simp only [putL, Act.put, List.setIfInBounds_toArray, List.set_cons_zero, List.set_cons_succ]
      go_wp2_with fail
      refine HK.out _ _ ?_
      refine ⟨v60, v61, v62, v63, v64, v65, v66, v67, v68, v59, (.agg #[.int .i64 X', .int .i64 Y']), v70, v12, (by rw [ha0]; simp only [putL, Act.put, List.setIfInBounds_toArray, List.set_cons_zero, List.set_cons_succ]), ?_, ?_, ?_, ?_, trivial⟩
      · obtain ⟨h60, h61, h62, h63, h64, h65, h66, h67, h68, h59, h69, h70, h12, _⟩ := hR.out
        exact Lib.hid ⟨fun h => h60 (by simpa using h), fun h => h61 (by simpa using h), fun h => h62 (by simpa using h), fun h => h63 (by simpa using h), fun h => h64 (by simpa using h), fun h => h65 (by simpa using h), fun h => h66 (by simpa using h), fun h => h67 (by simpa using h), fun h => h68 (by simpa using h), fun h => h59 (by simpa using h), fun _ => rfl, fun h => h70 (by simpa using h), fun h => h12 (by simpa using h), trivial⟩
      · exact ((hX.setOld (p := ⟨O + 1, 0, none⟩) (by simp) _).setOld (p := ⟨O + 1, 1, none⟩) (by simp) _)
      · exact ⟨_, _, blk_set2 hPB10.out, fun _ => ⟨rfl, rfl⟩, fun h => (by simp at h)⟩
      · exact fun _ => (by simp [hd0, hd1, hd2, hd3, hd4, hd5, hd6, hd7, hd8, hd9, hd10])
    case x4hs13 =>
      intro s a' w' hsk hdep hI K hK
      try dsimp only at hI hK
      obtain ⟨v60, v61, v62, v63, v64, v65, v66, v67, v68, v59, v69, v70, v12, hact, hR, hX, hP10, hQ10, _⟩ := hI
      subst hact
      have HK := Lib.hid hK
      clear hK
      have e70 : v70 = .int .i64 0 := by obtain ⟨h60, h61, h62, h63, h64, h65, h66, h67, h68, h59, h69, h70, h12, _⟩ := hR.out; exact h70 (hdep ⟨11, .data⟩ (by simp) rfl)
      subst e70
      obtain ⟨b10_0, b10_1, pb10, pt10, pf10⟩ := hP10
      have kp10_0 := cell_of_row w' (O + 1) 0 _ _ _ pb10
      have kp10_1 := cell_of_row w' (O + 1) 1 _ _ _ pb10
      simp only [List.getElem?_toArray, List.getElem?_cons_zero, List.getElem?_cons_succ] at kp10_0 kp10_1
      have kq10 : ∀ o, w'.frozen? ⟨O + 1, o, none⟩ = false := fun o => frozen_of_row w' _ o _ _ pb10
      have hPB10 := Lib.hid pb10
      clear pb10
      have hPT10 := Lib.hid pt10
      clear pt10
      have hPF10 := Lib.hid pf10
      clear pf10
      clear hdep
      refine StepG.mk rfl ?_; rw [ha0]; simp only [putL, Act.put, List.setIfInBounds_toArray, List.set_cons_zero, List.set_cons_succ]
      go_wp2_with fail
      refine HK.out _ _ ?_
      refine ⟨v60, v61, v62, v63, v64, v65, v66, v67, v68, v59, v69, (.int .i64 0), (.int .i64 0), (by rw [ha0]; simp only [putL, Act.put, List.setIfInBounds_toArray, List.set_cons_zero, List.set_cons_succ]), ?_, ?_, ?_, ?_, trivial⟩
      · obtain ⟨h60, h61, h62, h63, h64, h65, h66, h67, h68, h59, h69, h70, h12, _⟩ := hR.out
        exact Lib.hid ⟨fun h => h60 (by simpa using h), fun h => h61 (by simpa using h), fun h => h62 (by simpa using h), fun h => h63 (by simpa using h), fun h => h64 (by simpa using h), fun h => h65 (by simpa using h), fun h => h66 (by simpa using h), fun h => h67 (by simpa using h), fun h => h68 (by simpa using h), fun h => h59 (by simpa using h), fun h => h69 (by simpa using h), fun _ => rfl, fun _ => rfl, trivial⟩
      · exact hX
      · exact ⟨_, _, hPB10.out, fun h => hPT10.out (by simpa using h), fun h => (hPF10.out (by simpa using h))⟩
      · exact fun h => (by have h1 := hQ10 (by simpa using h); simp [h1])
    intro s a' w6 hall hI
    try dsimp only at hI
    obtain ⟨v60, v61, v62, v63, v64, v65, v66, v67, v68, v59, v69, v70, v12, hact, hR, hXR, hP10, hQ10, _⟩ := hI
    subst hact
    obtain ⟨h60, h61, h62, h63, h64, h65, h66, h67, h68, h59, h69, h70, h12, _⟩ := hR.out
    clear hR
    have e60 := h60 (hall 0 (by decide))
    subst e60
    clear h60
    have e61 := h61 (hall 1 (by decide))
    subst e61
    clear h61
    have e62 := h62 (hall 2 (by decide))
    subst e62
    clear h62
    have e63 := h63 (hall 3 (by decide))
    subst e63
    clear h63
    have e64 := h64 (hall 4 (by decide))
    subst e64
    clear h64
    have e65 := h65 (hall 5 (by decide))
    subst e65
    clear h65
    have e66 := h66 (hall 6 (by decide))
    subst e66
    clear h66
    have e67 := h67 (hall 7 (by decide))
    subst e67
    clear h67
    have e68 := h68 (hall 8 (by decide))
    subst e68
    clear h68
    have e59 := h59 (hall 9 (by decide))
    subst e59
    clear h59
    have e69 := h69 (hall 10 (by decide))
    subst e69
    clear h69
    have e70 := h70 (hall 11 (by decide))
    subst e70
    clear h70
    have e12 := h12 (hall 13 (by decide))
    subst e12
    clear h12
    obtain ⟨c0, c1, pblkR10, hpt, _⟩ := hP10
    clear hQ10
    obtain ⟨es0, es1⟩ := hpt (hall 12 (by decide))
    subst es0
    subst es1
    clear hpt
    try clear pblk10
    have pblk10 := pblkR10
    clear pblkR10
    clear hall
    rw [ha0]; simp only [putL, Act.put, List.setIfInBounds_toArray, List.set_cons_zero, List.set_cons_succ]
    clear ha0
    have B6 : Below w.heap.size w w6 := hXR.below (by first | assumption | exact (by repeat (first | exact Below.refl _ _ | exact Nat.le_refl _ | refine Below.alloc ?_ ?_ _ | refine Below.setCell ?_ ?_ _ | refine Below.drew ?_ | refine bl_drewN ?_ _ | (assumption) | refine bl_call ?_ (by assumption) ?_ | omega | (simp <;> omega)))) (by first | omega | (simp <;> omega)) (by simp <;> omega)
    have R6 := (hXR.block O (blk_lt R5) (by simp)).trans R5
    have S6 := pblk10
    have zz6 := blk_lt S6
    clear hXR R5 S5 pblk10
    have d0 := row2_0 R6
    have d1 := row2_1 R6
    have d2 := row2_0 S6
    have d3 := row2_1 S6
    go_wp2_with fail
    refine (awake_any _).mono ?_
    rintro e w7 ⟨rfl, hb7⟩
    have B7 : Below w.heap.size w w7 := bl_call (by repeat (first | exact Below.refl _ _ | exact Nat.le_refl _ | refine Below.alloc ?_ ?_ _ | refine Below.setCell ?_ ?_ _ | refine Below.drew ?_ | refine bl_drewN ?_ _ | (assumption) | refine bl_call ?_ (by assumption) ?_ | omega | (simp <;> omega))) hb7 (by first | assumption | (simp; done) | (simp; omega) | omega)
    clear hb7
    have hsz_7 := B7.size
    go_wp2_with fail
    go_ret
    exact ⟨rfl, (by repeat (first | exact Below.refl _ _ | exact Nat.le_refl _ | refine Below.alloc ?_ ?_ _ | refine Below.setCell ?_ ?_ _ | refine Below.drew ?_ | refine bl_drewN ?_ _ | (assumption) | refine bl_call ?_ (by assumption) ?_ | omega | (simp <;> omega)))⟩
namespace gaugeCarried
open Go.ChangeShapes Go.WideShapes Go.ChangeAt Go.RowKit
open Go.Lib Go.Joins
open Go.ChangeMaps (open_string shut_string)
set_option maxRecDepth 100000 in
theorem contract (H : Type) (enc : TypeId × Value → H) (W : World) (base : Nat) (args : Array Value) (ds gs : List (DataW H)) (before : List MemPlace)
    (hval : ∀ (j : Nat) t v, Tryd.f10.params[j]? = some t → args[j]? = some v → Value.okWide Tryd.prog W .any base t v)
    (hW : DataW.Whole enc Tryd.prog Tryd.f10.params.toList Rows.gaugeCarriedSpec.vars false W args.toList ds gs before) :
    Calls Tryd.prog 10 args W fun e W' => ∃ v, e = .returned v ∧ Rows.gaugeCarriedSpec.post enc Tryd.prog Tryd.f10 false true false false W args v W' := by
  have hW' := hW
  obtain ⟨p, q, hA0, hV, rfl, hfz, hnd⟩ := hW
  have hA : DataW.TrodAll enc Tryd.prog W 0 (fun _ => true) true Tryd.f10.params.toList args.toList ds p := hA0
  rw [Tryd.params10] at hA hval
  obtain ⟨v0, vs0, d0, ds0, p0, q0, hargs, rfl, rfl, h0, r0⟩ := trodAll_cons hA
  obtain ⟨v1, vs1, d1, ds1, p1, q1, rfl, rfl, rfl, h1, r1⟩ := trodAll_cons r0
  obtain ⟨v2, vs2, d2, ds2, p2, q2, rfl, rfl, rfl, h2, r2⟩ := trodAll_cons r1
  obtain ⟨rfl, rfl, rfl⟩ := trodAll_nil r2
  obtain rfl : args = #[v0, v1, v2] := by cases args; simp_all
  obtain ⟨rfl, rfl⟩ := trodVars_none hV
  obtain ⟨x0, rfl, rfl, rfl, wx0⟩ := open_string Tryd.underlying9 (hval 0 9 v0 rfl rfl) h0
  obtain ⟨x1, rfl, rfl, rfl, wx1⟩ := open_int Tryd.underlying3 (hval 1 3 v1 rfl rfl) h1
  obtain ⟨x2, rfl, rfl, rfl, wx2⟩ := open_int Tryd.underlying3 (hval 2 3 v2 rfl rfl) h2
  clear hA0
  simp only [List.append_nil] at hW'
  have es0 : x0 = ⟨x0.data.toList.toArray⟩ := by cases x0; simp
  refine (show Calls Tryd.prog 10 _ W _ from (GaugeCarried_walk x0.data.toList x1 x2 W (by exact wx0) (inI wx1) (inI wx2))).mono fun e W' ⟨he, hb⟩ => ?_
  subst he
  exact ⟨_, rfl, _, _, _, [], [], [], hW', trodAll_mk1 (shut_bool Tryd.underlying4 _), trodAll_cons_mk (shut_string Tryd.underlying9 wx0) (trodAll_cons_mk (shut_int Tryd.underlying3 wx1) (trodAll_cons_mk (shut_int Tryd.underlying3 wx2) (trodAll_mk0))), rfl, hb.frame _, fun h => by cases h⟩
theorem reads (os : Os) {H : Type} (enc : TypeId × Value → H) : ∃ places, DataW.whole enc Tryd.prog ((laidWorld os).forCall (fun _ _ => 0) ⟨#[], #[.string ⟨#[]⟩, .int .i64 0, .int .i64 0], []⟩).memory Tryd.f10.params.toList Rows.gaugeCarriedSpec.vars false (#[.string ⟨#[]⟩, .int .i64 0, .int .i64 0] : Array Value).toList 8 = some ([.lit (.string []), .lit (.int .i64 0), .lit (.int .i64 0)], [], places) :=
  ⟨[], by kernel_rfl⟩
set_option maxRecDepth 100000 in
theorem lifted (os : Os) (started : os.Started) (H : Type) (enc : TypeId × Value → H) (F : Stop.Interp) :
    ReturnsInHanded {} Tryd.checked os 10 .any ((OpenSpec.ofChange Rows.gaugeCarriedSpec).preRow enc Tryd.prog Tryd.f10 Rows.gaugeCarriedRow.domain false Rows.gaugeCarriedRow.laid) (((OpenSpec.ofChange Rows.gaugeCarriedSpec).at F).post enc Tryd.prog Tryd.f10 false true false false) := by
  obtain ⟨places, hx⟩ := reads os enc
  refine returnsInHanded_of_row (C := Tryd.checked) (s := OpenSpec.ofChange Rows.gaugeCarriedSpec) own started (by kernel_rfl) Tryd.func10
    (witness_row_at (enc := enc) (C := Tryd.checked) false (laidWorld os) #[.string ⟨#[]⟩, .int .i64 0, .int .i64 0] rfl (by kernel_rfl) (by kernel_rfl) (by kernel_rfl)
      (OpenSpec.preRow_of_cond 8 hx (by kernel_rfl) (fun k hk => by cases hk) (by kernel_rfl) (laid_met os _))) ?_
  intro W base args ds gs before hval hW _ _ _ _ _ _
  exact contract H enc W base args ds gs before hval hW
theorem said : Rows.GaugeCarriedSaid :=
  OpenClaim.holds_of_cond 10 Tryd.f10 rfl rfl rfl rfl rfl rfl rfl ⟨rfl, rfl, rfl, rfl, rfl⟩ rfl rfl rfl rfl rfl (by kernel_rfl) Tryd.func10 (by kernel_rfl)
    (of_decide_eq_true (by kernel_rfl)) (by unfold Func.isWrapper; first | (rw [if_pos (by decide +kernel)]; kernel_rfl) | (rw [if_neg (by decide +kernel)]; exact ⟨rfl, rfl⟩))
    (fun os started H enc _ F => by rw [OpenClaim.pre_eq_preRow]; exact lifted os started H enc F)
theorem plain (f : FuncId) (fn : Func) (hf : Tryd.pinned.checked.prog.funcNamed "remould/remouldlaw04.GaugeCarried" = some f) (hfn : Tryd.pinned.checked.prog.funcs[f]? = some fn) :
    true = Tryd.pinned.checked.prog.looks [] ∧ ∀ (j : Nat) t, fn.params[j]? = some t → Tryd.pinned.checked.prog.wantsStandIn t = false := by
  obtain rfl : f = 10 := Option.some.inj ((show Tryd.prog.funcNamed "remould/remouldlaw04.GaugeCarried" = some 10 by kernel_rfl).symm.trans hf) |>.symm
  obtain rfl : fn = Tryd.f10 := (Option.some.inj (Tryd.func10.symm.trans hfn)).symm
  refine ⟨by kernel_rfl, fun j t ht => ?_⟩
  rw [Tryd.params10] at ht
  have hm : t ∈ [9, 3, 3] := by simpa using Array.mem_of_getElem? ht
  have hall : ([9, 3, 3].all fun u => !Tryd.prog.wantsStandIn u) = true := by kernel_rfl
  exact (show Tryd.prog.wantsStandIn t = false by simpa using List.all_eq_true.1 hall t (by simpa using hm))
theorem card : Rows.GaugeCarriedCardSaid :=
  Claim7.holds_tied_plain_at .later [] _ _ _ _ said (fun _ h => by cases h) (by kernel_rfl) (fun _ h => by cases h) gaugeCarried_row_tie rfl ⟨rfl, rfl⟩ (by kernel_rfl) rfl plain (by kernel_rfl)
end gaugeCarried
theorem GaugeCarried_holds : Rows.GaugeCarriedCardSaid := gaugeCarried.card
end Go.Proofs.YtgocloilagcfoaaDoor
