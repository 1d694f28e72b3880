/- GaugeOnce: for every string and every int the law returns true. -/
import Derived.Test.YtgocloilagcfoaaDoorL1
import Derived.Test.YtgocloilagcfoaaDoorM8
import Derived.Test.YtgocloilagcfoaaDoorF1
namespace Go.Proofs.YtgocloilagcfoaaDoor
open Go.RowKit
attribute [local go_sem ↓] Go.wp_at_zero Go.wp_at_succ

theorem text_len1000 (x : GM.G) : (GM.textOf x).length ≤ 1000 := by
  have h1 := (GM.head_length x).2
  rw [GM.textOf_eq, List.length_append]
  unfold GM.tail
  split
  · simp; omega
  · have := GM.frac_length 40 (GM.rest 40 x); simp; omega
theorem str_app (a b : List UInt8) : (⟨a.toArray⟩ : ByteArray) ++ ⟨b.toArray⟩ = ⟨(a ++ b).toArray⟩ := by
  have h : ((⟨a.toArray⟩ : ByteArray) ++ ⟨b.toArray⟩).data = (a ++ b).toArray := by simp [ByteArray.data_append]
  exact congrArg ByteArray.mk h
set_option maxRecDepth 100000 in
set_option maxHeartbeats 8000000 in
theorem GaugeOnce_walk (l : List UInt8) (p : Int) (w : World) (h : l.length ≤ 9223372036854775807) (hp : -9223372036854775808 ≤ p ∧ p ≤ 9223372036854775807) :
    Calls Tryd.prog 9 #[.string ⟨l.toArray⟩, .int .i64 p] w fun e w' => e = .returned (.bool true) ∧ Below w.heap.size w w' := by
  have hT := fun wx => text_any2 l p wx h hp.1 hp.2
  have hmb := modZ_bd p 12 (by omega)
  obtain ⟨P, Q, hF, -, -⟩ := txt_form (1 + modZ p 12).toNat 2 (.inl rfl) (by omega) (by omega) l
  obtain ⟨m, hm⟩ : ∃ m, txt (1 + modZ p 12).toNat 2 l = m := ⟨_, rfl⟩
  rw [hm] at hT hF
  clear hm hmb hp h
  generalize (⟨l.toArray⟩ : ByteArray) = s0 at *
  have hok := hF.ok
  have hN := hF.isN
  have hl := hF.len
  have hl1000 : m.length ≤ 1000 := by omega
  have hnum : GM.Num (valOf m) := by
    obtain ⟨x1, x2, x3, x4⟩ := (isN_iff _ _).1 hN
    exact ⟨x1, x2, x3, x4⟩
  have h0 := num_nonneg m hok
  have hval := val_text (valOf m) hnum h0
  have hP := fun wx => Plain_yes m wx hl1000 hok hN
  have hV := fun wx => Value_yes m wx hl1000 hok hN
  have hV2 := fun wx => Value_yes (GM.textOf (valOf m)) wx (text_len1000 _) (text_ok _) (by rw [hval]; exact hN)
  have hPL := fun wx => refIsPlain (GM.textOf (valOf m)) wx (text_len1000 _)
  rw [text_plain _ hnum h0] at hPL
  have hPM := fun wx => refIsPlain m wx hl1000
  have hpm : plainL m = true → GM.textOf (valOf m) = m := text_of_plain m
  have hwd := hF.wide hF.1.2
  have hcnt : m.count 46 ≤ 1 := by rw [hF.count]; split <;> omega
  have hW := fun wx => Value_yes (48 :: m ++ List.replicate (m.count 46) 48) wx (by simp; omega) hwd.1 (by rw [hwd.2]; exact hN)
  rw [hwd.2] at hW
  rw [hval] at hV2
  obtain ⟨Z, hZ⟩ : ∃ Z : ByteArray, (⟨(48 :: m ++ List.replicate (m.count 46) 48).toArray⟩ : ByteArray) = Z := ⟨_, rfl⟩
  rw [hZ] at hW
  obtain ⟨G, hG⟩ : ∃ G : Nat → ByteArray, G = fun k => ⟨(48 :: m ++ List.replicate ((m.take k).count 46) 48).toArray⟩ := ⟨_, rfl⟩
  have HGs : Hid (∀ k c, m[k]? = some c → (c = 46 → G (k + 1) = G k ++ ⟨#[48]⟩) ∧ (¬ c = 46 → G (k + 1) = G k)) := Lib.hid (fun k c hc => by
    rw [hG]; dsimp only
    rw [List.take_add_one, hc, Option.toList_some, count_append]
    constructor
    · intro h; rw [if_pos h, List.replicate_succ', ← List.append_assoc, ← str_snoc]
    · intro h; rw [if_neg h, Nat.add_zero])
  have HG0 : Hid (G 0 = (⟨#[48]⟩ : ByteArray) ++ ⟨m.toArray⟩) := Lib.hid (by
    rw [hG]
    have := str_app [48] m
    rw [show (⟨#[48]⟩ : ByteArray) = ⟨[(48 : UInt8)].toArray⟩ from rfl, this]
    simp)
  have HGz : Hid (∀ k, (G k).size ≤ 100000) := Lib.hid (fun k => by
    rw [hG]; dsimp only
    rw [str_size]
    have h1 : (m.take k).count 46 ≤ (m.take k).length := List.count_le_length
    have h2 : (m.take k).length ≤ m.length := by rw [List.length_take]; omega
    simp only [List.length_append, List.length_cons, List.length_replicate]
    omega)
  have HGn : Hid (G m.length = Z) := Lib.hid (by rw [hG, ← hZ]; dsimp only; rw [List.take_length])
  clear hG hZ hwd hcnt hval hnum h0 hF
  have hts := str_size m
  have hb : ∀ (k : Nat) (c : UInt8), m[k]? = some c → ∀ h, (⟨m.toArray⟩ : ByteArray)[k]'h = c := by
    intro k c hc h
    have h' : k < m.length := by rw [hts] at h; exact h
    rw [List.getElem?_eq_getElem h'] at hc
    exact Option.some.inj hc
  have HB := Lib.hid hb
  clear hb
  obtain ⟨n, hn⟩ : ∃ n, m.length = n := ⟨_, rfl⟩
  rw [hn] at hts hl HGn
  have HNN := Lib.hid hn
  clear hn hl1000
  obtain ⟨⟨X, Y⟩, hXY⟩ : ∃ x, valOf m = x := ⟨_, rfl⟩
  rw [hXY] at hP hV hV2 hPL hW hpm
  dsimp only at hP hV hV2 hPL hW hpm
  clear hXY hok hN
  by_cases hpl : plainL m = true
  · rw [hpl] at hPM
    rw [hpm hpl] at hP hV2 hPL
    clear hpm hpl
    generalize (⟨m.toArray⟩ : ByteArray) = t at *
    have HT := Lib.hid hT
    have HP := Lib.hid hP
    have HV := Lib.hid hV
    have HV2 := Lib.hid hV2
    have HPL := Lib.hid hPL
    have HPM := Lib.hid hPM
    have HW := Lib.hid hW
    clear hT hP hV hV2 hPL hPM hW
    go_enter Tryd.func9, Tryd.ntmps9
    go_wp2_with fail
    refine (HT.out _).mono ?_
    rintro e w1 ⟨rfl, hb1⟩
    have B1 : Below w.heap.size w w1 := bl_call (by repeat (first | exact Below.refl _ _ | exact Nat.le_refl _ | refine Below.alloc ?_ ?_ _ | refine Below.setCell ?_ ?_ _ | refine Below.drew ?_ | refine bl_drewN ?_ _ | (assumption) | refine bl_call ?_ (by assumption) ?_ | omega | (simp <;> omega))) hb1 (by first | assumption | (simp; done) | (simp; omega) | omega)
    clear hb1
    have hsz_1 := B1.size
    go_wp2_with fail
    refine (HP.out _).mono ?_
    rintro e w2 ⟨rfl, hb2⟩
    have B2 : Below w.heap.size w w2 := bl_call (by repeat (first | exact Below.refl _ _ | exact Nat.le_refl _ | refine Below.alloc ?_ ?_ _ | refine Below.setCell ?_ ?_ _ | refine Below.drew ?_ | refine bl_drewN ?_ _ | (assumption) | refine bl_call ?_ (by assumption) ?_ | omega | (simp <;> omega))) hb2 (by first | assumption | (simp; done) | (simp; omega) | omega)
    clear hb2
    have hsz_2 := B2.size
    go_wp2_with fail
    refine (HV.out _).mono ?_
    rintro e w3 ⟨rfl, hb3⟩
    have B3 : Below w.heap.size w w3 := bl_call (by repeat (first | exact Below.refl _ _ | exact Nat.le_refl _ | refine Below.alloc ?_ ?_ _ | refine Below.setCell ?_ ?_ _ | refine Below.drew ?_ | refine bl_drewN ?_ _ | (assumption) | refine bl_call ?_ (by assumption) ?_ | omega | (simp <;> omega))) hb3 (by first | assumption | (simp; done) | (simp; omega) | omega)
    clear hb3
    have hsz_3 := B3.size
    go_wp2_with fail
    refine (HV2.out _).mono ?_
    rintro e w4 ⟨rfl, hb4⟩
    have cew3_heap_size4_0 : w4.cell? ⟨w3.heap.size, 0, none⟩ = some (.int .i64 X) := keep_cell hb4 (by first | assumption | (go_simp; done) | (simp; done) | simp [*])
    have zew3_heap_size4 : w3.heap.size < w4.heap.size := block_lt_of_cell cew3_heap_size4_0
    have cew3_heap_size4_1 : w4.cell? ⟨w3.heap.size, 1, none⟩ = some (.int .i64 Y) := keep_cell hb4 (by first | assumption | (go_simp; done) | (simp; done) | simp [*])
    have B4 : Below w.heap.size w w4 := bl_call (by repeat (first | exact Below.refl _ _ | exact Nat.le_refl _ | refine Below.alloc ?_ ?_ _ | refine Below.setCell ?_ ?_ _ | refine Below.drew ?_ | refine bl_drewN ?_ _ | (assumption) | refine bl_call ?_ (by assumption) ?_ | omega | (simp <;> omega))) hb4 (by first | assumption | (simp; done) | (simp; omega) | omega)
    clear hb4
    have hsz_4 := B4.size
    go_wp2_with fail
    refine (HPL.out _).mono ?_
    rintro e w5 ⟨rfl, hb5⟩
    have cew3_heap_size5_0 : w5.cell? ⟨w3.heap.size, 0, none⟩ = some (.int .i64 X) := keep_cell hb5 (by first | assumption | (go_simp; done) | (simp; done) | simp [*])
    have zew3_heap_size5 : w3.heap.size < w5.heap.size := block_lt_of_cell cew3_heap_size5_0
    have cew3_heap_size5_1 : w5.cell? ⟨w3.heap.size, 1, none⟩ = some (.int .i64 Y) := keep_cell hb5 (by first | assumption | (go_simp; done) | (simp; done) | simp [*])
    have cew4_heap_size5_0 : w5.cell? ⟨w4.heap.size, 0, none⟩ = some (.int .i64 X) := keep_cell hb5 (by first | assumption | (go_simp; done) | (simp; done) | simp [*])
    have zew4_heap_size5 : w4.heap.size < w5.heap.size := block_lt_of_cell cew4_heap_size5_0
    have cew4_heap_size5_1 : w5.cell? ⟨w4.heap.size, 1, none⟩ = some (.int .i64 Y) := keep_cell hb5 (by first | assumption | (go_simp; done) | (simp; done) | simp [*])
    have B5 : Below w.heap.size w w5 := bl_call (by repeat (first | exact Below.refl _ _ | exact Nat.le_refl _ | refine Below.alloc ?_ ?_ _ | refine Below.setCell ?_ ?_ _ | refine Below.drew ?_ | refine bl_drewN ?_ _ | (assumption) | refine bl_call ?_ (by assumption) ?_ | omega | (simp <;> omega))) hb5 (by first | assumption | (simp; done) | (simp; omega) | omega)
    clear hb5
    have hsz_5 := B5.size
    go_wp2_with fail
    refine (HPM.out _).mono ?_
    rintro e w6 ⟨rfl, hb6⟩
    have cew3_heap_size6_0 : w6.cell? ⟨w3.heap.size, 0, none⟩ = some (.int .i64 X) := keep_cell hb6 (by first | assumption | (go_simp; done) | (simp; done) | simp [*])
    have zew3_heap_size6 : w3.heap.size < w6.heap.size := block_lt_of_cell cew3_heap_size6_0
    have cew3_heap_size6_1 : w6.cell? ⟨w3.heap.size, 1, none⟩ = some (.int .i64 Y) := keep_cell hb6 (by first | assumption | (go_simp; done) | (simp; done) | simp [*])
    have cew4_heap_size6_0 : w6.cell? ⟨w4.heap.size, 0, none⟩ = some (.int .i64 X) := keep_cell hb6 (by first | assumption | (go_simp; done) | (simp; done) | simp [*])
    have zew4_heap_size6 : w4.heap.size < w6.heap.size := block_lt_of_cell cew4_heap_size6_0
    have cew4_heap_size6_1 : w6.cell? ⟨w4.heap.size, 1, none⟩ = some (.int .i64 Y) := keep_cell hb6 (by first | assumption | (go_simp; done) | (simp; done) | simp [*])
    have B6 : Below w.heap.size w w6 := bl_call (by repeat (first | exact Below.refl _ _ | exact Nat.le_refl _ | refine Below.alloc ?_ ?_ _ | refine Below.setCell ?_ ?_ _ | refine Below.drew ?_ | refine bl_drewN ?_ _ | (assumption) | refine bl_call ?_ (by assumption) ?_ | omega | (simp <;> omega))) hb6 (by first | assumption | (simp; done) | (simp; omega) | omega)
    clear hb6
    have hsz_6 := B6.size
    skip
    clear HT HP HV HV2 HPL HPM
    go_upto_region 9 with fail
    go_loopw [12, 13] (fun u y wr => ∃ k : Nat, y = .int .i64 k ∧ k ≤ n ∧ u = .string (G k) ∧ w6 = wr) (fun _ y _ => n - (intOf y).toNat)
    case atStart => exact ⟨0, rfl, by omega, by rw [HG0.out], rfl⟩
    case round =>
      obtain ⟨k, rfl, hk, rfl, rfl⟩ := hrel
      by_cases hkn : k < n
      · obtain ⟨c, hc⟩ : ∃ c, m[k]? = some c := ⟨m[k]'(by have := HNN.out; omega), by simp [show k < m.length by have := HNN.out; omega]⟩
        have hit : k < t.size := by omega
        have htc : t[k]'hit = c := HB.out k c hc hit
        have hc1 : c.toNat < 256 := c.toNat_lt
        have hGs := HGs.out k c hc
        have hcc : c = 46 ↔ c.toNat = 46 := ⟨fun h => by rw [h]; rfl, fun h => UInt8.toNat_inj.1 h⟩
        rw [hcc] at hGs
        have HG := Lib.hid hGs
        clear hc hGs hcc
        by_cases h46 : c.toNat = 46
        · have HG' := Lib.hid (HG.out.1 h46)
          have hgz := HGz.out k
          clear HG
          go_wp2_with fail
          go_roundw
          case rel => exact ⟨k + 1, by simp, by omega, by rw [HG'.out], by first | rfl | trivial⟩
          case measure => simp [intOf]; omega
        · have HG' := Lib.hid (HG.out.2 h46)
          clear HG
          go_wp2_with fail
          go_roundw
          case rel => exact ⟨k + 1, by simp, by omega, by rw [HG'.out], by first | rfl | trivial⟩
          case measure => simp [intOf]; omega
      · obtain rfl : k = n := by omega
        rw [HGn.out]
        go_wp2_with fail
        refine (HW.out _).mono ?_
        rintro e w7 ⟨rfl, hb7⟩
        have z7_0 : w.heap.size < w7.heap.size := by have := hb7.size; (try simp at this); omega
        have z7_1 : w.heap.size + 1 < w7.heap.size := by have := hb7.size; (try simp at this); omega
        have cew3_heap_size7_0 : w7.cell? ⟨w3.heap.size, 0, none⟩ = some (.int .i64 X) := keep_cell hb7 (by first | assumption | (go_simp; done) | (simp; done) | simp [*])
        have zew3_heap_size7 : w3.heap.size < w7.heap.size := block_lt_of_cell cew3_heap_size7_0
        have cew3_heap_size7_1 : w7.cell? ⟨w3.heap.size, 1, none⟩ = some (.int .i64 Y) := keep_cell hb7 (by first | assumption | (go_simp; done) | (simp; done) | simp [*])
        have cew4_heap_size7_0 : w7.cell? ⟨w4.heap.size, 0, none⟩ = some (.int .i64 X) := keep_cell hb7 (by first | assumption | (go_simp; done) | (simp; done) | simp [*])
        have zew4_heap_size7 : w4.heap.size < w7.heap.size := block_lt_of_cell cew4_heap_size7_0
        have cew4_heap_size7_1 : w7.cell? ⟨w4.heap.size, 1, none⟩ = some (.int .i64 Y) := keep_cell hb7 (by first | assumption | (go_simp; done) | (simp; done) | simp [*])
        have B7 : Below w.heap.size w w7 := bl_call (by repeat (first | exact Below.refl _ _ | exact Nat.le_refl _ | refine Below.alloc ?_ ?_ _ | refine Below.setCell ?_ ?_ _ | refine Below.drew ?_ | refine bl_drewN ?_ _ | (assumption) | refine bl_call ?_ (by assumption) ?_ | omega | (simp <;> omega))) hb7 (by first | assumption | (simp; done) | (simp; omega) | omega)
        clear hb7
        have hsz_7 := B7.size
        go_wp2_with fail
        refine (awake_any _).mono ?_
        rintro e w8 ⟨rfl, hb8⟩
        have z8_0 : w.heap.size < w8.heap.size := by have := hb8.size; (try simp at this); omega
        have z8_1 : w.heap.size + 1 < w8.heap.size := by have := hb8.size; (try simp at this); omega
        have cew3_heap_size8_0 : w8.cell? ⟨w3.heap.size, 0, none⟩ = some (.int .i64 X) := keep_cell hb8 (by first | assumption | (go_simp; done) | (simp; done) | simp [*])
        have zew3_heap_size8 : w3.heap.size < w8.heap.size := block_lt_of_cell cew3_heap_size8_0
        have cew3_heap_size8_1 : w8.cell? ⟨w3.heap.size, 1, none⟩ = some (.int .i64 Y) := keep_cell hb8 (by first | assumption | (go_simp; done) | (simp; done) | simp [*])
        have cew4_heap_size8_0 : w8.cell? ⟨w4.heap.size, 0, none⟩ = some (.int .i64 X) := keep_cell hb8 (by first | assumption | (go_simp; done) | (simp; done) | simp [*])
        have zew4_heap_size8 : w4.heap.size < w8.heap.size := block_lt_of_cell cew4_heap_size8_0
        have cew4_heap_size8_1 : w8.cell? ⟨w4.heap.size, 1, none⟩ = some (.int .i64 Y) := keep_cell hb8 (by first | assumption | (go_simp; done) | (simp; done) | simp [*])
        have cew7_heap_size8_0 : w8.cell? ⟨w7.heap.size, 0, none⟩ = some (.int .i64 X) := keep_cell hb8 (by first | assumption | (go_simp; done) | (simp; done) | simp [*])
        have zew7_heap_size8 : w7.heap.size < w8.heap.size := block_lt_of_cell cew7_heap_size8_0
        have cew7_heap_size8_1 : w8.cell? ⟨w7.heap.size, 1, none⟩ = some (.int .i64 Y) := keep_cell hb8 (by first | assumption | (go_simp; done) | (simp; done) | simp [*])
        have B8 : Below w.heap.size w w8 := bl_call (by repeat (first | exact Below.refl _ _ | exact Nat.le_refl _ | refine Below.alloc ?_ ?_ _ | refine Below.setCell ?_ ?_ _ | refine Below.drew ?_ | refine bl_drewN ?_ _ | (assumption) | refine bl_call ?_ (by assumption) ?_ | omega | (simp <;> omega))) hb8 (by first | assumption | (simp; done) | (simp; omega) | omega)
        clear hb8
        have hsz_8 := B8.size
        go_wp2_with fail
        go_ret
        exact ⟨rfl, (by repeat (first | exact Below.refl _ _ | exact Nat.le_refl _ | refine Below.alloc ?_ ?_ _ | refine Below.setCell ?_ ?_ _ | refine Below.drew ?_ | refine bl_drewN ?_ _ | (assumption) | refine bl_call ?_ (by assumption) ?_ | omega | (simp <;> omega)))⟩
  · have hpl' : plainL m = false := by simpa using hpl
    rw [hpl'] at hPM
    clear hpm hpl hpl'
    generalize (⟨m.toArray⟩ : ByteArray) = t at *
    generalize (⟨(GM.textOf (X, Y)).toArray⟩ : ByteArray) = q at *
    have HT := Lib.hid hT
    have HP := Lib.hid hP
    have HV := Lib.hid hV
    have HV2 := Lib.hid hV2
    have HPL := Lib.hid hPL
    have HPM := Lib.hid hPM
    have HW := Lib.hid hW
    clear hT hP hV hV2 hPL hPM hW
    go_enter Tryd.func9, Tryd.ntmps9
    go_wp2_with fail
    refine (HT.out _).mono ?_
    rintro e w1 ⟨rfl, hb1⟩
    have B1 : Below w.heap.size w w1 := bl_call (by repeat (first | exact Below.refl _ _ | exact Nat.le_refl _ | refine Below.alloc ?_ ?_ _ | refine Below.setCell ?_ ?_ _ | refine Below.drew ?_ | refine bl_drewN ?_ _ | (assumption) | refine bl_call ?_ (by assumption) ?_ | omega | (simp <;> omega))) hb1 (by first | assumption | (simp; done) | (simp; omega) | omega)
    clear hb1
    have hsz_1 := B1.size
    go_wp2_with fail
    refine (HP.out _).mono ?_
    rintro e w2 ⟨rfl, hb2⟩
    have B2 : Below w.heap.size w w2 := bl_call (by repeat (first | exact Below.refl _ _ | exact Nat.le_refl _ | refine Below.alloc ?_ ?_ _ | refine Below.setCell ?_ ?_ _ | refine Below.drew ?_ | refine bl_drewN ?_ _ | (assumption) | refine bl_call ?_ (by assumption) ?_ | omega | (simp <;> omega))) hb2 (by first | assumption | (simp; done) | (simp; omega) | omega)
    clear hb2
    have hsz_2 := B2.size
    go_wp2_with fail
    refine (HV.out _).mono ?_
    rintro e w3 ⟨rfl, hb3⟩
    have B3 : Below w.heap.size w w3 := bl_call (by repeat (first | exact Below.refl _ _ | exact Nat.le_refl _ | refine Below.alloc ?_ ?_ _ | refine Below.setCell ?_ ?_ _ | refine Below.drew ?_ | refine bl_drewN ?_ _ | (assumption) | refine bl_call ?_ (by assumption) ?_ | omega | (simp <;> omega))) hb3 (by first | assumption | (simp; done) | (simp; omega) | omega)
    clear hb3
    have hsz_3 := B3.size
    go_wp2_with fail
    refine (HV2.out _).mono ?_
    rintro e w4 ⟨rfl, hb4⟩
    have cew3_heap_size4_0 : w4.cell? ⟨w3.heap.size, 0, none⟩ = some (.int .i64 X) := keep_cell hb4 (by first | assumption | (go_simp; done) | (simp; done) | simp [*])
    have zew3_heap_size4 : w3.heap.size < w4.heap.size := block_lt_of_cell cew3_heap_size4_0
    have cew3_heap_size4_1 : w4.cell? ⟨w3.heap.size, 1, none⟩ = some (.int .i64 Y) := keep_cell hb4 (by first | assumption | (go_simp; done) | (simp; done) | simp [*])
    have B4 : Below w.heap.size w w4 := bl_call (by repeat (first | exact Below.refl _ _ | exact Nat.le_refl _ | refine Below.alloc ?_ ?_ _ | refine Below.setCell ?_ ?_ _ | refine Below.drew ?_ | refine bl_drewN ?_ _ | (assumption) | refine bl_call ?_ (by assumption) ?_ | omega | (simp <;> omega))) hb4 (by first | assumption | (simp; done) | (simp; omega) | omega)
    clear hb4
    have hsz_4 := B4.size
    go_wp2_with fail
    refine (HPL.out _).mono ?_
    rintro e w5 ⟨rfl, hb5⟩
    have cew3_heap_size5_0 : w5.cell? ⟨w3.heap.size, 0, none⟩ = some (.int .i64 X) := keep_cell hb5 (by first | assumption | (go_simp; done) | (simp; done) | simp [*])
    have zew3_heap_size5 : w3.heap.size < w5.heap.size := block_lt_of_cell cew3_heap_size5_0
    have cew3_heap_size5_1 : w5.cell? ⟨w3.heap.size, 1, none⟩ = some (.int .i64 Y) := keep_cell hb5 (by first | assumption | (go_simp; done) | (simp; done) | simp [*])
    have cew4_heap_size5_0 : w5.cell? ⟨w4.heap.size, 0, none⟩ = some (.int .i64 X) := keep_cell hb5 (by first | assumption | (go_simp; done) | (simp; done) | simp [*])
    have zew4_heap_size5 : w4.heap.size < w5.heap.size := block_lt_of_cell cew4_heap_size5_0
    have cew4_heap_size5_1 : w5.cell? ⟨w4.heap.size, 1, none⟩ = some (.int .i64 Y) := keep_cell hb5 (by first | assumption | (go_simp; done) | (simp; done) | simp [*])
    have B5 : Below w.heap.size w w5 := bl_call (by repeat (first | exact Below.refl _ _ | exact Nat.le_refl _ | refine Below.alloc ?_ ?_ _ | refine Below.setCell ?_ ?_ _ | refine Below.drew ?_ | refine bl_drewN ?_ _ | (assumption) | refine bl_call ?_ (by assumption) ?_ | omega | (simp <;> omega))) hb5 (by first | assumption | (simp; done) | (simp; omega) | omega)
    clear hb5
    have hsz_5 := B5.size
    go_wp2_with fail
    refine (HPM.out _).mono ?_
    rintro e w6 ⟨rfl, hb6⟩
    have cew3_heap_size6_0 : w6.cell? ⟨w3.heap.size, 0, none⟩ = some (.int .i64 X) := keep_cell hb6 (by first | assumption | (go_simp; done) | (simp; done) | simp [*])
    have zew3_heap_size6 : w3.heap.size < w6.heap.size := block_lt_of_cell cew3_heap_size6_0
    have cew3_heap_size6_1 : w6.cell? ⟨w3.heap.size, 1, none⟩ = some (.int .i64 Y) := keep_cell hb6 (by first | assumption | (go_simp; done) | (simp; done) | simp [*])
    have cew4_heap_size6_0 : w6.cell? ⟨w4.heap.size, 0, none⟩ = some (.int .i64 X) := keep_cell hb6 (by first | assumption | (go_simp; done) | (simp; done) | simp [*])
    have zew4_heap_size6 : w4.heap.size < w6.heap.size := block_lt_of_cell cew4_heap_size6_0
    have cew4_heap_size6_1 : w6.cell? ⟨w4.heap.size, 1, none⟩ = some (.int .i64 Y) := keep_cell hb6 (by first | assumption | (go_simp; done) | (simp; done) | simp [*])
    have B6 : Below w.heap.size w w6 := bl_call (by repeat (first | exact Below.refl _ _ | exact Nat.le_refl _ | refine Below.alloc ?_ ?_ _ | refine Below.setCell ?_ ?_ _ | refine Below.drew ?_ | refine bl_drewN ?_ _ | (assumption) | refine bl_call ?_ (by assumption) ?_ | omega | (simp <;> omega))) hb6 (by first | assumption | (simp; done) | (simp; omega) | omega)
    clear hb6
    have hsz_6 := B6.size
    skip
    clear HT HP HV HV2 HPL HPM
    go_upto_region 9 with fail
    go_loopw [12, 13] (fun u y wr => ∃ k : Nat, y = .int .i64 k ∧ k ≤ n ∧ u = .string (G k) ∧ w6 = wr) (fun _ y _ => n - (intOf y).toNat)
    case atStart => exact ⟨0, rfl, by omega, by rw [HG0.out], rfl⟩
    case round =>
      obtain ⟨k, rfl, hk, rfl, rfl⟩ := hrel
      by_cases hkn : k < n
      · obtain ⟨c, hc⟩ : ∃ c, m[k]? = some c := ⟨m[k]'(by have := HNN.out; omega), by simp [show k < m.length by have := HNN.out; omega]⟩
        have hit : k < t.size := by omega
        have htc : t[k]'hit = c := HB.out k c hc hit
        have hc1 : c.toNat < 256 := c.toNat_lt
        have hGs := HGs.out k c hc
        have hcc : c = 46 ↔ c.toNat = 46 := ⟨fun h => by rw [h]; rfl, fun h => UInt8.toNat_inj.1 h⟩
        rw [hcc] at hGs
        have HG := Lib.hid hGs
        clear hc hGs hcc
        by_cases h46 : c.toNat = 46
        · have HG' := Lib.hid (HG.out.1 h46)
          have hgz := HGz.out k
          clear HG
          go_wp2_with fail
          go_roundw
          case rel => exact ⟨k + 1, by simp, by omega, by rw [HG'.out], by first | rfl | trivial⟩
          case measure => simp [intOf]; omega
        · have HG' := Lib.hid (HG.out.2 h46)
          clear HG
          go_wp2_with fail
          go_roundw
          case rel => exact ⟨k + 1, by simp, by omega, by rw [HG'.out], by first | rfl | trivial⟩
          case measure => simp [intOf]; omega
      · obtain rfl : k = n := by omega
        rw [HGn.out]
        go_wp2_with fail
        refine (HW.out _).mono ?_
        rintro e w7 ⟨rfl, hb7⟩
        have z7_0 : w.heap.size < w7.heap.size := by have := hb7.size; (try simp at this); omega
        have z7_1 : w.heap.size + 1 < w7.heap.size := by have := hb7.size; (try simp at this); omega
        have cew3_heap_size7_0 : w7.cell? ⟨w3.heap.size, 0, none⟩ = some (.int .i64 X) := keep_cell hb7 (by first | assumption | (go_simp; done) | (simp; done) | simp [*])
        have zew3_heap_size7 : w3.heap.size < w7.heap.size := block_lt_of_cell cew3_heap_size7_0
        have cew3_heap_size7_1 : w7.cell? ⟨w3.heap.size, 1, none⟩ = some (.int .i64 Y) := keep_cell hb7 (by first | assumption | (go_simp; done) | (simp; done) | simp [*])
        have cew4_heap_size7_0 : w7.cell? ⟨w4.heap.size, 0, none⟩ = some (.int .i64 X) := keep_cell hb7 (by first | assumption | (go_simp; done) | (simp; done) | simp [*])
        have zew4_heap_size7 : w4.heap.size < w7.heap.size := block_lt_of_cell cew4_heap_size7_0
        have cew4_heap_size7_1 : w7.cell? ⟨w4.heap.size, 1, none⟩ = some (.int .i64 Y) := keep_cell hb7 (by first | assumption | (go_simp; done) | (simp; done) | simp [*])
        have B7 : Below w.heap.size w w7 := bl_call (by repeat (first | exact Below.refl _ _ | exact Nat.le_refl _ | refine Below.alloc ?_ ?_ _ | refine Below.setCell ?_ ?_ _ | refine Below.drew ?_ | refine bl_drewN ?_ _ | (assumption) | refine bl_call ?_ (by assumption) ?_ | omega | (simp <;> omega))) hb7 (by first | assumption | (simp; done) | (simp; omega) | omega)
        clear hb7
        have hsz_7 := B7.size
        go_wp2_with fail
        refine (awake_any _).mono ?_
        rintro e w8 ⟨rfl, hb8⟩
        have z8_0 : w.heap.size < w8.heap.size := by have := hb8.size; (try simp at this); omega
        have z8_1 : w.heap.size + 1 < w8.heap.size := by have := hb8.size; (try simp at this); omega
        have cew3_heap_size8_0 : w8.cell? ⟨w3.heap.size, 0, none⟩ = some (.int .i64 X) := keep_cell hb8 (by first | assumption | (go_simp; done) | (simp; done) | simp [*])
        have zew3_heap_size8 : w3.heap.size < w8.heap.size := block_lt_of_cell cew3_heap_size8_0
        have cew3_heap_size8_1 : w8.cell? ⟨w3.heap.size, 1, none⟩ = some (.int .i64 Y) := keep_cell hb8 (by first | assumption | (go_simp; done) | (simp; done) | simp [*])
        have cew4_heap_size8_0 : w8.cell? ⟨w4.heap.size, 0, none⟩ = some (.int .i64 X) := keep_cell hb8 (by first | assumption | (go_simp; done) | (simp; done) | simp [*])
        have zew4_heap_size8 : w4.heap.size < w8.heap.size := block_lt_of_cell cew4_heap_size8_0
        have cew4_heap_size8_1 : w8.cell? ⟨w4.heap.size, 1, none⟩ = some (.int .i64 Y) := keep_cell hb8 (by first | assumption | (go_simp; done) | (simp; done) | simp [*])
        have cew7_heap_size8_0 : w8.cell? ⟨w7.heap.size, 0, none⟩ = some (.int .i64 X) := keep_cell hb8 (by first | assumption | (go_simp; done) | (simp; done) | simp [*])
        have zew7_heap_size8 : w7.heap.size < w8.heap.size := block_lt_of_cell cew7_heap_size8_0
        have cew7_heap_size8_1 : w8.cell? ⟨w7.heap.size, 1, none⟩ = some (.int .i64 Y) := keep_cell hb8 (by first | assumption | (go_simp; done) | (simp; done) | simp [*])
        have B8 : Below w.heap.size w w8 := bl_call (by repeat (first | exact Below.refl _ _ | exact Nat.le_refl _ | refine Below.alloc ?_ ?_ _ | refine Below.setCell ?_ ?_ _ | refine Below.drew ?_ | refine bl_drewN ?_ _ | (assumption) | refine bl_call ?_ (by assumption) ?_ | omega | (simp <;> omega))) hb8 (by first | assumption | (simp; done) | (simp; omega) | omega)
        clear hb8
        have hsz_8 := B8.size
        go_wp2_with fail
        go_ret
        exact ⟨rfl, (by repeat (first | exact Below.refl _ _ | exact Nat.le_refl _ | refine Below.alloc ?_ ?_ _ | refine Below.setCell ?_ ?_ _ | refine Below.drew ?_ | refine bl_drewN ?_ _ | (assumption) | refine bl_call ?_ (by assumption) ?_ | omega | (simp <;> omega)))⟩
namespace gaugeOnce
open Go.ChangeShapes Go.WideShapes Go.ChangeAt Go.RowKit
open Go.Lib Go.Joins
open Go.ChangeMaps (open_string shut_string)
set_option maxRecDepth 100000 in
theorem contract (H : Type) (enc : TypeId × Value → H) (W : World) (base : Nat) (args : Array Value) (ds gs : List (DataW H)) (before : List MemPlace)
    (hval : ∀ (j : Nat) t v, Tryd.f9.params[j]? = some t → args[j]? = some v → Value.okWide Tryd.prog W .any base t v)
    (hW : DataW.Whole enc Tryd.prog Tryd.f9.params.toList Rows.gaugeOnceSpec.vars false W args.toList ds gs before) :
    Calls Tryd.prog 9 args W fun e W' => ∃ v, e = .returned v ∧ Rows.gaugeOnceSpec.post enc Tryd.prog Tryd.f9 false true false false W args v W' := by
  have hW' := hW
  obtain ⟨p, q, hA0, hV, rfl, hfz, hnd⟩ := hW
  have hA : DataW.TrodAll enc Tryd.prog W 0 (fun _ => true) true Tryd.f9.params.toList args.toList ds p := hA0
  rw [Tryd.params9] at hA hval
  obtain ⟨v0, vs0, d0, ds0, p0, q0, hargs, rfl, rfl, h0, r0⟩ := trodAll_cons hA
  obtain ⟨v1, vs1, d1, ds1, p1, q1, rfl, rfl, rfl, h1, r1⟩ := trodAll_cons r0
  obtain ⟨rfl, rfl, rfl⟩ := trodAll_nil r1
  obtain rfl : args = #[v0, v1] := by cases args; simp_all
  obtain ⟨rfl, rfl⟩ := trodVars_none hV
  obtain ⟨x0, rfl, rfl, rfl, wx0⟩ := open_string Tryd.underlying9 (hval 0 9 v0 rfl rfl) h0
  obtain ⟨x1, rfl, rfl, rfl, wx1⟩ := open_int Tryd.underlying3 (hval 1 3 v1 rfl rfl) h1
  clear hA0
  simp only [List.append_nil] at hW'
  have es0 : x0 = ⟨x0.data.toList.toArray⟩ := by cases x0; simp
  refine (show Calls Tryd.prog 9 _ W _ from (GaugeOnce_walk x0.data.toList x1 W (by exact wx0) (inI wx1))).mono fun e W' ⟨he, hb⟩ => ?_
  subst he
  exact ⟨_, rfl, _, _, _, [], [], [], hW', trodAll_mk1 (shut_bool Tryd.underlying4 _), trodAll_cons_mk (shut_string Tryd.underlying9 wx0) (trodAll_cons_mk (shut_int Tryd.underlying3 wx1) (trodAll_mk0)), rfl, hb.frame _, fun h => by cases h⟩
theorem reads (os : Os) {H : Type} (enc : TypeId × Value → H) : ∃ places, DataW.whole enc Tryd.prog ((laidWorld os).forCall (fun _ _ => 0) ⟨#[], #[.string ⟨#[]⟩, .int .i64 0], []⟩).memory Tryd.f9.params.toList Rows.gaugeOnceSpec.vars false (#[.string ⟨#[]⟩, .int .i64 0] : Array Value).toList 8 = some ([.lit (.string []), .lit (.int .i64 0)], [], places) :=
  ⟨[], by kernel_rfl⟩
set_option maxRecDepth 100000 in
theorem lifted (os : Os) (started : os.Started) (H : Type) (enc : TypeId × Value → H) (F : Stop.Interp) :
    ReturnsInHanded {} Tryd.checked os 9 .any ((OpenSpec.ofChange Rows.gaugeOnceSpec).preRow enc Tryd.prog Tryd.f9 Rows.gaugeOnceRow.domain false Rows.gaugeOnceRow.laid) (((OpenSpec.ofChange Rows.gaugeOnceSpec).at F).post enc Tryd.prog Tryd.f9 false true false false) := by
  obtain ⟨places, hx⟩ := reads os enc
  refine returnsInHanded_of_row (C := Tryd.checked) (s := OpenSpec.ofChange Rows.gaugeOnceSpec) own started (by kernel_rfl) Tryd.func9
    (witness_row_at (enc := enc) (C := Tryd.checked) false (laidWorld os) #[.string ⟨#[]⟩, .int .i64 0] rfl (by kernel_rfl) (by kernel_rfl) (by kernel_rfl)
      (OpenSpec.preRow_of_cond 8 hx (by kernel_rfl) (fun k hk => by cases hk) (by kernel_rfl) (laid_met os _))) ?_
  intro W base args ds gs before hval hW _ _ _ _ _ _
  exact contract H enc W base args ds gs before hval hW
theorem said : Rows.GaugeOnceSaid :=
  OpenClaim.holds_of_cond 9 Tryd.f9 rfl rfl rfl rfl rfl rfl rfl ⟨rfl, rfl, rfl, rfl, rfl⟩ rfl rfl rfl rfl rfl (by kernel_rfl) Tryd.func9 (by kernel_rfl)
    (of_decide_eq_true (by kernel_rfl)) (by unfold Func.isWrapper; first | (rw [if_pos (by decide +kernel)]; kernel_rfl) | (rw [if_neg (by decide +kernel)]; exact ⟨rfl, rfl⟩))
    (fun os started H enc _ F => by rw [OpenClaim.pre_eq_preRow]; exact lifted os started H enc F)
theorem plain (f : FuncId) (fn : Func) (hf : Tryd.pinned.checked.prog.funcNamed "remould/remouldlaw04.GaugeOnce" = some f) (hfn : Tryd.pinned.checked.prog.funcs[f]? = some fn) :
    true = Tryd.pinned.checked.prog.looks [] ∧ ∀ (j : Nat) t, fn.params[j]? = some t → Tryd.pinned.checked.prog.wantsStandIn t = false := by
  obtain rfl : f = 9 := Option.some.inj ((show Tryd.prog.funcNamed "remould/remouldlaw04.GaugeOnce" = some 9 by kernel_rfl).symm.trans hf) |>.symm
  obtain rfl : fn = Tryd.f9 := (Option.some.inj (Tryd.func9.symm.trans hfn)).symm
  refine ⟨by kernel_rfl, fun j t ht => ?_⟩
  rw [Tryd.params9] at ht
  have hm : t ∈ [9, 3] := by simpa using Array.mem_of_getElem? ht
  have hall : ([9, 3].all fun u => !Tryd.prog.wantsStandIn u) = true := by kernel_rfl
  exact (show Tryd.prog.wantsStandIn t = false by simpa using List.all_eq_true.1 hall t (by simpa using hm))
theorem card : Rows.GaugeOnceCardSaid :=
  Claim7.holds_tied_plain_at .later [] _ _ _ _ said (fun _ h => by cases h) (by kernel_rfl) (fun _ h => by cases h) gaugeOnce_row_tie rfl ⟨rfl, rfl⟩ (by kernel_rfl) rfl plain (by kernel_rfl)
end gaugeOnce
theorem GaugeOnce_holds : Rows.GaugeOnceCardSaid := gaugeOnce.card
end Go.Proofs.YtgocloilagcfoaaDoor
