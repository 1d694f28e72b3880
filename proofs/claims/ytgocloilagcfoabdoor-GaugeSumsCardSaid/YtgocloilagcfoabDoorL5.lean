/- The laws' own helper text. -/
import Derived.Test.YtgocloilagcfoabDoorG3
import Derived.Test.YtgocloilagcfoabDoorL2
namespace Go.Proofs.YtgocloilagcfoabDoor
open Go.RowKit
attribute [local go_sem ↓] Go.wp_at_zero Go.wp_at_succ

/-- a digit out of any byte; the text of digits with a point after the first A -/
def dch (m : Nat) (c : UInt8) : UInt8 := UInt8.ofNat (48 + c.toNat % m)
def piece (A m j : Nat) (c : UInt8) : List UInt8 := (if j = A then [46] else []) ++ [dch m c]
def pieces (A m : Nat) : Nat → List UInt8 → List UInt8
  | _, [] => []
  | j, c :: l => piece A m j c ++ pieces A m (j + 1) l
def txt (A m : Nat) (l : List UInt8) : List UInt8 := if l = [] then [48] else pieces A m 0 (l.take 24)
theorem pieces_snoc (A m : Nat) (c : UInt8) (l : List UInt8) : ∀ j, pieces A m j (l ++ [c]) = pieces A m j l ++ piece A m (j + l.length) c := by
  induction l with
  | nil => intro j; simp [pieces]
  | cons d l ih =>
    intro j
    rw [List.cons_append, pieces, pieces, ih (j + 1), List.length_cons, List.append_assoc, show j + 1 + l.length = j + (l.length + 1) by omega]
theorem piece_len (A m j : Nat) (c : UInt8) : (piece A m j c).length ≤ 2 ∧ 1 ≤ (piece A m j c).length := by
  unfold piece; split <;> simp
theorem pieces_len (A m : Nat) (l : List UInt8) : ∀ j, l.length ≤ (pieces A m j l).length ∧ (pieces A m j l).length ≤ 2 * l.length := by
  induction l with
  | nil => intro j; simp [pieces]
  | cons d l ih =>
    intro j
    have := ih (j + 1)
    have h2 := piece_len A m j d
    rw [pieces, List.length_append, List.length_cons]
    omega
theorem dch_nat (m : Nat) (hm : m = 2 ∨ m = 4) (c : UInt8) : ((dch m c).toNat : Int) = 48 + (c.toNat : Int) % (m : Int) := by
  unfold dch
  have h : c.toNat % m < m := Nat.mod_lt _ (by omega)
  rw [UInt8.toNat_ofNat', Nat.mod_eq_of_lt (by omega)]
  omega
theorem byteCells_snoc (l : List UInt8) (c : UInt8) : Lib.byteCells l ++ [.int .u8 c.toNat] = Lib.byteCells (l ++ [c]) := by simp [Lib.byteCells]
theorem one_byte (x : Int) : ∀ u ∈ [Value.int .u8 x], u.oneCell' = true := by intro u hu; simp at hu; subst hu; rfl

theorem infoByte : (Tryd.prog.info? 5).map (fun i => (i.zero, i.size, i.bytes)) = some (some (.int .u8 0), 1, 1) := by kernel_rfl
set_option maxRecDepth 100000 in
set_option maxHeartbeats 4000000 in
theorem text_any2 (l : List UInt8) (p : Int) (w : World) (hl : l.length ≤ 9223372036854775807) (p1 : -9223372036854775808 ≤ p) (p2 : p ≤ 9223372036854775807) :
    Calls Tryd.prog 26 #[.string ⟨l.toArray⟩, .int .i64 p, .int .i64 2] w fun e w' => e = .returned (.string ⟨(txt (1 + modZ p 12).toNat 2 l).toArray⟩) ∧ Below w.heap.size w w' := by
  obtain ⟨i0, hi, hz0, hz1, hz2⟩ := info_parts infoByte
  have hmod := fun wx => mod_any p 12 wx (by omega) (by omega) p1 p2
  have hmb := modZ_bd p 12 (by omega)
  obtain ⟨A, hA⟩ : ∃ A : Nat, modZ p 12 = A := ⟨(modZ p 12).toNat, by omega⟩
  rw [hA] at hmod hmb
  rw [hA, show (1 + (A : Int)).toNat = 1 + A by omega]
  clear hA p1 p2
  have hts := str_size l
  have hb : ∀ (k : Nat) (c : UInt8), l[k]? = some c → ∀ h, (⟨l.toArray⟩ : ByteArray)[k]'h = c := by
    intro k c hc h
    have h' : k < l.length := by rw [hts] at h; exact h
    rw [List.getElem?_eq_getElem h'] at hc
    exact Option.some.inj hc
  have HB := Lib.hid hb
  have HMOD := Lib.hid hmod
  clear hb hmod
  generalize (⟨l.toArray⟩ : ByteArray) = t at *
  obtain ⟨F, hF⟩ : ∃ F : Nat → List UInt8, F = fun k => pieces (1 + A) 2 0 (l.take k) := ⟨_, rfl⟩
  have HF0 : Hid (F 0 = []) := Lib.hid (by rw [hF]; rfl)
  have HFs : Hid (∀ k c, l[k]? = some c → F (k + 1) = F k ++ piece (1 + A) 2 k c) := Lib.hid (fun k c hc => by
    rw [hF]; dsimp only
    have hkl := (List.getElem?_eq_some_iff.1 hc).1
    rw [List.take_add_one, hc, Option.toList_some, pieces_snoc, List.length_take, Nat.min_eq_left (by omega), Nat.zero_add])
  have HFl : Hid (∀ k, (F k).length ≤ 2 * k) := Lib.hid (fun k => by
    rw [hF]; dsimp only
    have h1 := (pieces_len (1 + A) 2 (l.take k) 0).2
    have h2 : (l.take k).length ≤ k := by rw [List.length_take]; omega
    omega)
  have HFe : Hid (l = [] → txt (1 + A) 2 l = [48]) := Lib.hid (fun h => by unfold txt; rw [if_pos h])
  have HFn : Hid (∀ k, ¬ (k < l.length ∧ k < 24) → k ≤ l.length → k ≤ 24 → l ≠ [] → txt (1 + A) 2 l = F k ∧ 1 ≤ (F k).length) := Lib.hid (fun k h1 h2 h3 h4 => by
    rw [hF]; dsimp only
    have e : l.take 24 = l.take k := by
      by_cases h : k = 24
      · rw [h]
      · rw [List.take_of_length_le (by omega), List.take_of_length_le (by omega)]
    have h5 := (pieces_len (1 + A) 2 (l.take k) 0).1
    have h6 := List.length_pos_iff.2 h4
    rw [List.length_take] at h5
    refine ⟨?_, by omega⟩
    unfold txt
    rw [if_neg h4, e])
  clear hF
  go_enter Tryd.func26, Tryd.ntmps26
  go_wp2_with (first | (go_at_call 34; refine (HMOD.out _).mono ?_; rintro e w1 ⟨rfl, hb1⟩) | fail)
  go_loopw [7, 8] (fun v x wr => ∃ k : Nat, x = .int .i64 k ∧ k ≤ l.length ∧ k ≤ 24 ∧ wr.ownsRow w.heap.size 5 1 v (F k).length (Lib.byteCells (F k)) ∧ Below w.heap.size w wr) (fun _ x _ => 24 - (intOf x).toNat)
  case atStart => exact ⟨0, rfl, by omega, by omega, by rw [HF0.out]; exact World.ownsRow_nil _ _ _ _, hb1⟩
  case round =>
    obtain ⟨k, rfl, l1, l2, hw, HBl⟩ := hrel
    have HW := Lib.hid hw
    clear hw
    by_cases hk : k < l.length ∧ k < 24
    · obtain ⟨hk1, hk2⟩ := hk
      obtain ⟨c, hc⟩ : ∃ c, l[k]? = some c := ⟨l[k], by simp [hk1]⟩
      have hkt : k < t.size := by omega
      have htc : t[k]'hkt = c := HB.out k c hc hkt
      have hc1 : c.toNat < 256 := c.toNat_lt
      have HF := Lib.hid (HFs.out k c hc)
      clear hc
      by_cases hp : k = 1 + A
      · have HF2 : Hid (F (k + 1) = F k ++ [46] ++ [dch 2 c]) := Lib.hid (by rw [HF.out, piece, if_pos hp, List.append_assoc])
        clear HF
        subst hp
        go_wp2_with (first
          | (at_builtin; refine wpList_append_own _ rfl _ _ 66 rfl w.heap.size 5 i0 (.int .u8 0) 1 1 Tryd.underlying66 hi hz0 hz1 hz2 rfl (by decide) _ _ _ rfl (HW.out.alloc _) ⟨wr.heap.size, 0, none⟩ 1 1 [.int .u8 (46)] rfl rfl (cell_one_new _ _ _) (one_byte _) (by unfold maxLen; have := HFl.out (1 + A); omega) (by have := HFl.out (1 + A); omega) (by have := HBl.size; simp; omega) ?_; intro v3 w3 hown hgrow hnil
             have hbw3 : Below w.heap.size w w3 := Below.grown (HBl.alloc (by have := HBl.size; omega) _) hgrow (by have := HBl.size; simp; omega) (fun j hj => by have := (HW.out.lt _ hj).1; omega)
             have HO3 := Lib.hid hown
             clear hown hgrow hnil)
          | (at_builtin; refine wpList_append_own _ rfl _ _ 66 rfl w.heap.size 5 i0 (.int .u8 0) 1 1 Tryd.underlying66 hi hz0 hz1 hz2 rfl (by decide) _ _ _ rfl (HO3.out.alloc _) ⟨w3.heap.size, 0, none⟩ 1 1 [.int .u8 (48 + (c.toNat : Int) % 2)] rfl rfl (cell_one_new _ _ _) (one_byte _) (by unfold maxLen; have := HFl.out (1 + A); omega) (by have := HFl.out (1 + A); omega) (by have := hbw3.size; simp; omega) ?_; intro v4 w4 hown hgrow hnil
             have hbw4 : Below w.heap.size w w4 := Below.grown (hbw3.alloc (by have := hbw3.size; omega) _) hgrow (by have := hbw3.size; simp; omega) (fun j hj => by have := (HO3.out.lt _ hj).1; omega)
             have HO4 := Lib.hid hown
             clear hown hgrow hnil)
          | fail)
        go_roundw
        case rel =>
          refine ⟨1 + A + 1, by simp, by omega, by omega, ?_, hbw4⟩
          rw [HF2.out, List.length_append, List.length_append, ← byteCells_snoc, ← byteCells_snoc, dch_nat 2 (by omega)]
          exact HO4.out
        case measure => simp [intOf]; omega
      · have HF2 : Hid (F (k + 1) = F k ++ [dch 2 c]) := Lib.hid (by rw [HF.out, piece, if_neg hp, List.nil_append])
        clear HF
        go_wp2_with (first
          | (at_builtin; refine wpList_append_own _ rfl _ _ 66 rfl w.heap.size 5 i0 (.int .u8 0) 1 1 Tryd.underlying66 hi hz0 hz1 hz2 rfl (by decide) _ _ _ rfl (HW.out.alloc _) ⟨wr.heap.size, 0, none⟩ 1 1 [.int .u8 (48 + (c.toNat : Int) % 2)] rfl rfl (cell_one_new _ _ _) (one_byte _) (by unfold maxLen; have := HFl.out k; omega) (by have := HFl.out k; omega) (by have := HBl.size; simp; omega) ?_; intro v3 w3 hown hgrow hnil
             have hbw3 : Below w.heap.size w w3 := Below.grown (HBl.alloc (by have := HBl.size; omega) _) hgrow (by have := HBl.size; simp; omega) (fun j hj => by have := (HW.out.lt _ hj).1; omega)
             have HO3 := Lib.hid hown
             clear hown hgrow hnil)
          | fail)
        go_roundw
        case rel =>
          refine ⟨k + 1, by simp, by omega, by omega, ?_, hbw3⟩
          rw [HF2.out, List.length_append, ← byteCells_snoc, dch_nat 2 (by omega)]
          exact HO3.out
        case measure => simp [intOf]; omega
    · by_cases hl0 : l = []
      · have HT := Lib.hid (HFe.out hl0)
        have hln : l.length = 0 := by rw [hl0]; rfl
        have hk0 : k = 0 := by omega
        rw [hk0] at HW
        rw [HF0.out] at HW
        have hw2 := HW.out.2
        clear hl0 HB HFs HFn HFe
        subst hk0
        rcases hw2 with ⟨rfl, h0⟩ | ⟨g, cap, cur, rfl, -, -, -, -, -, -⟩
        · go_wp2_with fail
          go_ret
          exact ⟨by rw [HT.out]; rfl, HBl⟩
        · go_wp2_with fail
          go_ret
          exact ⟨by rw [HT.out]; rfl, HBl⟩
      · obtain ⟨t1, t2⟩ := HFn.out k hk l1 l2 hl0
        have HT := Lib.hid t1
        obtain ⟨L, hL⟩ : ∃ L, F k = L := ⟨_, rfl⟩
        rw [hL] at t2 HW HT
        have hn0 : ¬ (L.length : Int) = 0 := by omega
        have hown := HW.out
        clear t1 hL HB HFs HFn HFe HFl HF0
        rcases hown.2 with ⟨-, h0⟩ | ⟨g, cap, cur, rfl, -, -, -, -, -, -⟩
        · omega
        · have hcv := run_convert_bytes_back (P := Tryd.prog) wr 66 9 5 ⟨g, 0, none⟩ cap L Tryd.underlying66 Tryd.underlying5 Tryd.underlying9 (fun j hj => hown.cells (g := g) rfl j _ (by simp [Lib.byteCells, hj]))
          clear hown HW
          by_cases hkl : k < l.length
          · go_wp2_with fail
            go_ret
            exact ⟨by rw [HT.out]; rfl, HBl⟩
          · clear hk
            go_wp2_with fail
            go_ret
            exact ⟨by rw [HT.out]; rfl, HBl⟩
set_option maxRecDepth 100000 in
set_option maxHeartbeats 4000000 in
theorem text_any4 (l : List UInt8) (p : Int) (w : World) (hl : l.length ≤ 9223372036854775807) (p1 : -9223372036854775808 ≤ p) (p2 : p ≤ 9223372036854775807) :
    Calls Tryd.prog 26 #[.string ⟨l.toArray⟩, .int .i64 p, .int .i64 4] w fun e w' => e = .returned (.string ⟨(txt (1 + modZ p 12).toNat 4 l).toArray⟩) ∧ Below w.heap.size w w' := by
  obtain ⟨i0, hi, hz0, hz1, hz2⟩ := info_parts infoByte
  have hmod := fun wx => mod_any p 12 wx (by omega) (by omega) p1 p2
  have hmb := modZ_bd p 12 (by omega)
  obtain ⟨A, hA⟩ : ∃ A : Nat, modZ p 12 = A := ⟨(modZ p 12).toNat, by omega⟩
  rw [hA] at hmod hmb
  rw [hA, show (1 + (A : Int)).toNat = 1 + A by omega]
  clear hA p1 p2
  have hts := str_size l
  have hb : ∀ (k : Nat) (c : UInt8), l[k]? = some c → ∀ h, (⟨l.toArray⟩ : ByteArray)[k]'h = c := by
    intro k c hc h
    have h' : k < l.length := by rw [hts] at h; exact h
    rw [List.getElem?_eq_getElem h'] at hc
    exact Option.some.inj hc
  have HB := Lib.hid hb
  have HMOD := Lib.hid hmod
  clear hb hmod
  generalize (⟨l.toArray⟩ : ByteArray) = t at *
  obtain ⟨F, hF⟩ : ∃ F : Nat → List UInt8, F = fun k => pieces (1 + A) 4 0 (l.take k) := ⟨_, rfl⟩
  have HF0 : Hid (F 0 = []) := Lib.hid (by rw [hF]; rfl)
  have HFs : Hid (∀ k c, l[k]? = some c → F (k + 1) = F k ++ piece (1 + A) 4 k c) := Lib.hid (fun k c hc => by
    rw [hF]; dsimp only
    have hkl := (List.getElem?_eq_some_iff.1 hc).1
    rw [List.take_add_one, hc, Option.toList_some, pieces_snoc, List.length_take, Nat.min_eq_left (by omega), Nat.zero_add])
  have HFl : Hid (∀ k, (F k).length ≤ 2 * k) := Lib.hid (fun k => by
    rw [hF]; dsimp only
    have h1 := (pieces_len (1 + A) 4 (l.take k) 0).2
    have h2 : (l.take k).length ≤ k := by rw [List.length_take]; omega
    omega)
  have HFe : Hid (l = [] → txt (1 + A) 4 l = [48]) := Lib.hid (fun h => by unfold txt; rw [if_pos h])
  have HFn : Hid (∀ k, ¬ (k < l.length ∧ k < 24) → k ≤ l.length → k ≤ 24 → l ≠ [] → txt (1 + A) 4 l = F k ∧ 1 ≤ (F k).length) := Lib.hid (fun k h1 h2 h3 h4 => by
    rw [hF]; dsimp only
    have e : l.take 24 = l.take k := by
      by_cases h : k = 24
      · rw [h]
      · rw [List.take_of_length_le (by omega), List.take_of_length_le (by omega)]
    have h5 := (pieces_len (1 + A) 4 (l.take k) 0).1
    have h6 := List.length_pos_iff.2 h4
    rw [List.length_take] at h5
    refine ⟨?_, by omega⟩
    unfold txt
    rw [if_neg h4, e])
  clear hF
  go_enter Tryd.func26, Tryd.ntmps26
  go_wp2_with (first | (go_at_call 34; refine (HMOD.out _).mono ?_; rintro e w1 ⟨rfl, hb1⟩) | fail)
  go_loopw [7, 8] (fun v x wr => ∃ k : Nat, x = .int .i64 k ∧ k ≤ l.length ∧ k ≤ 24 ∧ wr.ownsRow w.heap.size 5 1 v (F k).length (Lib.byteCells (F k)) ∧ Below w.heap.size w wr) (fun _ x _ => 24 - (intOf x).toNat)
  case atStart => exact ⟨0, rfl, by omega, by omega, by rw [HF0.out]; exact World.ownsRow_nil _ _ _ _, hb1⟩
  case round =>
    obtain ⟨k, rfl, l1, l2, hw, HBl⟩ := hrel
    have HW := Lib.hid hw
    clear hw
    by_cases hk : k < l.length ∧ k < 24
    · obtain ⟨hk1, hk2⟩ := hk
      obtain ⟨c, hc⟩ : ∃ c, l[k]? = some c := ⟨l[k], by simp [hk1]⟩
      have hkt : k < t.size := by omega
      have htc : t[k]'hkt = c := HB.out k c hc hkt
      have hc1 : c.toNat < 256 := c.toNat_lt
      have HF := Lib.hid (HFs.out k c hc)
      clear hc
      by_cases hp : k = 1 + A
      · have HF2 : Hid (F (k + 1) = F k ++ [46] ++ [dch 4 c]) := Lib.hid (by rw [HF.out, piece, if_pos hp, List.append_assoc])
        clear HF
        subst hp
        go_wp2_with (first
          | (at_builtin; refine wpList_append_own _ rfl _ _ 66 rfl w.heap.size 5 i0 (.int .u8 0) 1 1 Tryd.underlying66 hi hz0 hz1 hz2 rfl (by decide) _ _ _ rfl (HW.out.alloc _) ⟨wr.heap.size, 0, none⟩ 1 1 [.int .u8 (46)] rfl rfl (cell_one_new _ _ _) (one_byte _) (by unfold maxLen; have := HFl.out (1 + A); omega) (by have := HFl.out (1 + A); omega) (by have := HBl.size; simp; omega) ?_; intro v3 w3 hown hgrow hnil
             have hbw3 : Below w.heap.size w w3 := Below.grown (HBl.alloc (by have := HBl.size; omega) _) hgrow (by have := HBl.size; simp; omega) (fun j hj => by have := (HW.out.lt _ hj).1; omega)
             have HO3 := Lib.hid hown
             clear hown hgrow hnil)
          | (at_builtin; refine wpList_append_own _ rfl _ _ 66 rfl w.heap.size 5 i0 (.int .u8 0) 1 1 Tryd.underlying66 hi hz0 hz1 hz2 rfl (by decide) _ _ _ rfl (HO3.out.alloc _) ⟨w3.heap.size, 0, none⟩ 1 1 [.int .u8 (48 + (c.toNat : Int) % 4)] rfl rfl (cell_one_new _ _ _) (one_byte _) (by unfold maxLen; have := HFl.out (1 + A); omega) (by have := HFl.out (1 + A); omega) (by have := hbw3.size; simp; omega) ?_; intro v4 w4 hown hgrow hnil
             have hbw4 : Below w.heap.size w w4 := Below.grown (hbw3.alloc (by have := hbw3.size; omega) _) hgrow (by have := hbw3.size; simp; omega) (fun j hj => by have := (HO3.out.lt _ hj).1; omega)
             have HO4 := Lib.hid hown
             clear hown hgrow hnil)
          | fail)
        go_roundw
        case rel =>
          refine ⟨1 + A + 1, by simp, by omega, by omega, ?_, hbw4⟩
          rw [HF2.out, List.length_append, List.length_append, ← byteCells_snoc, ← byteCells_snoc, dch_nat 4 (by omega)]
          exact HO4.out
        case measure => simp [intOf]; omega
      · have HF2 : Hid (F (k + 1) = F k ++ [dch 4 c]) := Lib.hid (by rw [HF.out, piece, if_neg hp, List.nil_append])
        clear HF
        go_wp2_with (first
          | (at_builtin; refine wpList_append_own _ rfl _ _ 66 rfl w.heap.size 5 i0 (.int .u8 0) 1 1 Tryd.underlying66 hi hz0 hz1 hz2 rfl (by decide) _ _ _ rfl (HW.out.alloc _) ⟨wr.heap.size, 0, none⟩ 1 1 [.int .u8 (48 + (c.toNat : Int) % 4)] rfl rfl (cell_one_new _ _ _) (one_byte _) (by unfold maxLen; have := HFl.out k; omega) (by have := HFl.out k; omega) (by have := HBl.size; simp; omega) ?_; intro v3 w3 hown hgrow hnil
             have hbw3 : Below w.heap.size w w3 := Below.grown (HBl.alloc (by have := HBl.size; omega) _) hgrow (by have := HBl.size; simp; omega) (fun j hj => by have := (HW.out.lt _ hj).1; omega)
             have HO3 := Lib.hid hown
             clear hown hgrow hnil)
          | fail)
        go_roundw
        case rel =>
          refine ⟨k + 1, by simp, by omega, by omega, ?_, hbw3⟩
          rw [HF2.out, List.length_append, ← byteCells_snoc, dch_nat 4 (by omega)]
          exact HO3.out
        case measure => simp [intOf]; omega
    · by_cases hl0 : l = []
      · have HT := Lib.hid (HFe.out hl0)
        have hln : l.length = 0 := by rw [hl0]; rfl
        have hk0 : k = 0 := by omega
        rw [hk0] at HW
        rw [HF0.out] at HW
        have hw2 := HW.out.2
        clear hl0 HB HFs HFn HFe
        subst hk0
        rcases hw2 with ⟨rfl, h0⟩ | ⟨g, cap, cur, rfl, -, -, -, -, -, -⟩
        · go_wp2_with fail
          go_ret
          exact ⟨by rw [HT.out]; rfl, HBl⟩
        · go_wp2_with fail
          go_ret
          exact ⟨by rw [HT.out]; rfl, HBl⟩
      · obtain ⟨t1, t2⟩ := HFn.out k hk l1 l2 hl0
        have HT := Lib.hid t1
        obtain ⟨L, hL⟩ : ∃ L, F k = L := ⟨_, rfl⟩
        rw [hL] at t2 HW HT
        have hn0 : ¬ (L.length : Int) = 0 := by omega
        have hown := HW.out
        clear t1 hL HB HFs HFn HFe HFl HF0
        rcases hown.2 with ⟨-, h0⟩ | ⟨g, cap, cur, rfl, -, -, -, -, -, -⟩
        · omega
        · have hcv := run_convert_bytes_back (P := Tryd.prog) wr 66 9 5 ⟨g, 0, none⟩ cap L Tryd.underlying66 Tryd.underlying5 Tryd.underlying9 (fun j hj => hown.cells (g := g) rfl j _ (by simp [Lib.byteCells, hj]))
          clear hown HW
          by_cases hkl : k < l.length
          · go_wp2_with fail
            go_ret
            exact ⟨by rw [HT.out]; rfl, HBl⟩
          · clear hk
            go_wp2_with fail
            go_ret
            exact ⟨by rw [HT.out]; rfl, HBl⟩
end Go.Proofs.YtgocloilagcfoabDoor
