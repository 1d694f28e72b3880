/- digits reads the digits of a part of a text, or panics. -/
import Derived.Test.YtgocloilagcfoabDoorG2
namespace Go.Proofs.YtgocloilagcfoabDoor
open Go.RowKit
attribute [local go_sem ↓] Go.wp_at_zero Go.wp_at_succ

theorem infoInt : (Tryd.prog.info? 3).map (fun i => (i.zero, i.size, i.bytes)) = some (some (.int .i64 0), 1, 8) := by kernel_rfl
/-- a part of a text: 1 to 40 digits from 0 to 3 -/
def isDig (c : UInt8) : Bool := decide (48 ≤ c.toNat) && decide (c.toNat ≤ 51)
def partOK (l : List UInt8) : Bool := decide (1 ≤ l.length) && decide (l.length ≤ 40) && l.all isDig
def dgs (l : List UInt8) : List Value := l.map fun c => .int .i64 ((c.toNat : Int) - 48)
theorem cell_one_new (w : World) (a : Value) (t : TypeId) : ∀ j u, [a][j]? = some u → (w.alloc (.cells #[a] t)).cell? ((⟨w.heap.size, 0, none⟩ : Addr).add j) = some u := by
  intro j u hj
  match j, hj with
  | 0, hj => simp at hj; subst hj; simp [Addr.add]
  | j + 1, hj => simp at hj

abbrev trouble (c : Int) : Ending := .panicked [{ v := .iface 76 (.agg #[.int .i64 c]), recovered := false }]
theorem demand_any (b : Bool) (c : Int) (w : World) : Calls Tryd.prog 55 #[.bool b, .int .i64 c] w fun e w' => e = (if b = true then .returned (.tuple #[]) else trouble c) ∧ w = w' := by
  cases b
  · exact demand_no c w
  · exact demand_yes c w
theorem dgs_append (l : List UInt8) (c : UInt8) : dgs (l ++ [c]) = dgs l ++ [.int .i64 ((c.toNat : Int) - 48)] := by simp [dgs]
theorem one_cell (x : Int) : ∀ u ∈ [Value.int .i64 x], u.oneCell' = true := by intro u hu; simp at hu; subst hu; rfl
theorem partOK_bad (l : List UInt8) (c : UInt8) (h : c ∈ l) (hc : ¬ isDig c = true) : partOK l = false := by
  unfold partOK
  have : l.all isDig = false := by
    rw [Bool.eq_false_iff]
    intro h2
    exact hc (List.all_eq_true.1 h2 c h)
  rw [this, Bool.and_false]
theorem partOK_len (l : List UInt8) (h : ¬ (1 ≤ l.length ∧ l.length ≤ 40)) : partOK l = false := by
  unfold partOK
  by_cases h1 : 1 ≤ l.length
  · have : ¬ l.length ≤ 40 := fun h2 => h ⟨h1, h2⟩
    simp [this]
  · simp [h1]
theorem partOK_of (l : List UInt8) (h1 : 1 ≤ l.length) (h2 : l.length ≤ 40) (h3 : ∀ c ∈ l, isDig c = true) : partOK l = true := by
  unfold partOK; simp [h1, h2]; exact h3

set_option maxRecDepth 100000 in
set_option maxHeartbeats 2000000 in
theorem digits_any (l : List UInt8) (w : World) (hl : l.length ≤ 1000000) :
    Calls Tryd.prog 78 #[.string ⟨l.toArray⟩] w fun e w' => ((partOK l = true ∧ ∃ v, e = .returned v ∧ w'.ownsRow w.heap.size 3 1 v l.length (dgs l)) ∨ (partOK l = false ∧ e = trouble 4)) ∧ Below w.heap.size w w' := by
  obtain ⟨i0, hi, hz0, hz1, hz2⟩ := info_parts infoInt
  have hts := str_size l
  have hb : ∀ (k : Nat) (c : UInt8), l[k]? = some c → ∀ h, (⟨l.toArray⟩ : ByteArray)[k]'h = c := by
    intro k c hc h
    have h' : k < l.length := by rw [hts] at h; exact h
    rw [List.getElem?_eq_getElem h'] at hc
    exact Option.some.inj hc
  have HB := Lib.hid hb
  clear hb
  generalize (⟨l.toArray⟩ : ByteArray) = t at *
  by_cases h12 : 1 ≤ l.length ∧ l.length ≤ 40
  · have hbb : (decide (1 ≤ (l.length : Int)) && decide ((l.length : Int) ≤ 40)) = true := by simp; omega
    have HBB := Lib.hid hbb
    clear hbb
    go_enter Tryd.func78, Tryd.ntmps78
    go_wp2_with (first | (go_at_call 46; refine (within_any _ _ _ _).mono ?_; rintro e w' ⟨rfl, rfl⟩) | (go_at_call 55; rw [HBB.out]; refine (demand_yes _ _).mono ?_; rintro e w' ⟨rfl, rfl⟩) | fail)
    go_loopw [11, 3] (fun x v wr => ∃ k : Nat, x = .int .i64 k ∧ k ≤ l.length ∧ (∀ c ∈ l.take k, isDig c = true) ∧ wr.ownsRow w.heap.size 3 1 v k (dgs (l.take k)) ∧ Below w.heap.size w wr) (fun x _ _ => l.length - (intOf x).toNat)
    case atStart => exact ⟨0, rfl, by omega, by simp, World.ownsRow_nil _ _ _ _, (by repeat (first | exact Below.refl _ _ | exact Nat.le_refl _ | refine Below.alloc ?_ ?_ _ | refine Below.setCell ?_ ?_ _ | refine Below.drew ?_ | refine bl_drewN ?_ _ | (assumption) | refine bl_call ?_ (by assumption) ?_ | omega | (simp <;> omega)))⟩
    case round =>
      obtain ⟨k, rfl, l1, H3, hw, HBl⟩ := hrel
      have HH3 := Lib.hid H3
      clear H3
      by_cases hk : k < l.length
      · obtain ⟨c, hc⟩ : ∃ c, l[k]? = some c := ⟨l[k], by simp [hk]⟩
        have hkt : k < t.size := by omega
        have htc : t[k]'hkt = c := HB.out k c hc hkt
        have hc1 : c.toNat < 256 := c.toNat_lt
        have etk : l.take (k + 1) = l.take k ++ [c] := by rw [List.take_add_one, hc]; rfl
        have ETK := Lib.hid etk
        have HC := Lib.hid hc
        clear etk hc
        by_cases hd : isDig c = true
        · have hd1 : (48 : Int) ≤ c.toNat := by unfold isDig at hd; simp at hd; omega
          have hd2 : (c.toNat : Int) ≤ 51 := by unfold isDig at hd; simp at hd; omega
          have HD := Lib.hid hd
          clear hd
          go_wp2_with (first
            | (go_at_call 55; refine (demand_yes _ _).mono ?_; rintro e w' ⟨rfl, rfl⟩)
            | (at_builtin; refine wpList_append_own _ rfl _ _ 79 rfl w.heap.size 3 i0 (.int .i64 0) 1 8 Tryd.underlying79 hi hz0 hz1 hz2 rfl (by decide) _ _ _ rfl (hw.alloc _) ⟨wr.heap.size, 0, none⟩ 1 1 [.int .i64 ((c.toNat : Int) - 48)] rfl rfl (cell_one_new _ _ _) (one_cell _) (by unfold maxLen; omega) (by omega) (by have := HBl.size; simp; omega) ?_; intro v' w3 hown' hgrow3 hnil3
               have hbw3 : Below w.heap.size w w3 := Below.grown (HBl.alloc (by have := HBl.size; omega) _) hgrow3 (by have := HBl.size; simp; omega) (fun j hj => by have := (hw.lt _ hj).1; omega)
               rw [← dgs_append, ← ETK.out] at hown'
               have HO := Lib.hid hown'
               clear hown' hgrow3 hnil3)
            | fail)
          go_roundw
          case rel =>
            refine ⟨k + 1, by simp, by omega, ?_, HO.out, hbw3⟩
            rw [ETK.out]
            intro x hx
            rcases List.mem_append.1 hx with hx | hx
            · exact HH3.out x hx
            · rw [List.mem_singleton.1 hx]; exact HD.out
          case measure => simp [intOf]; omega
        · have hbad := partOK_bad l c (List.mem_of_getElem? HC.out) hd
          have HBAD := Lib.hid hbad
          clear hbad
          by_cases hd1 : (48 : Int) ≤ c.toNat
          · have hd2 : ¬ (c.toNat : Int) ≤ 51 := by
              intro h2; apply hd; unfold isDig; simp; omega
            clear hd
            go_wp2_with (first | (go_at_call 55; refine (demand_no _ _).mono ?_; rintro e w' ⟨rfl, rfl⟩) | fail)
            exact ⟨rfl, .inr ⟨HBAD.out, rfl⟩, HBl⟩
          · clear hd
            go_wp2_with (first | (go_at_call 55; refine (demand_no _ _).mono ?_; rintro e w' ⟨rfl, rfl⟩) | fail)
            exact ⟨rfl, .inr ⟨HBAD.out, rfl⟩, HBl⟩
      · obtain rfl : k = l.length := by omega
        have h3 := HH3.out
        rw [List.take_length] at h3 hw
        have HOK := Lib.hid (partOK_of l h12.1 h12.2 h3)
        clear HH3 h3
        go_wp2_with fail
        go_ret
        exact ⟨.inl ⟨HOK.out, _, rfl, hw⟩, HBl⟩
  · have HBAD := Lib.hid (partOK_len l h12)
    have hbb : (decide (1 ≤ (l.length : Int)) && decide ((l.length : Int) ≤ 40)) = false := by
      rw [Bool.eq_false_iff]; intro h; simp at h; omega
    have HBB := Lib.hid hbb
    clear hbb
    go_enter Tryd.func78, Tryd.ntmps78
    go_wp2_with (first | (go_at_call 46; refine (within_any _ _ _ _).mono ?_; rintro e w' ⟨rfl, rfl⟩) | (go_at_call 55; rw [HBB.out]; refine (demand_no _ _).mono ?_; rintro e w' ⟨rfl, rfl⟩) | fail)
    exact ⟨rfl, .inr ⟨HBAD.out, rfl⟩, Below.refl _ _⟩
end Go.Proofs.YtgocloilagcfoabDoor
