/- Text returns the plain text of a number, or the error. -/
import Derived.Test.YtgocloilagcfoabDoorG7
namespace Go.Proofs.YtgocloilagcfoabDoor
open Go.RowKit
attribute [local go_sem ↓] Go.wp_at_zero Go.wp_at_succ

theorem BelX.wider {bs bs' : List Nat} {w w' : World} (h : BelX bs w w') (hs : ∀ b ∈ bs, b ∈ bs') : BelX bs' w w' :=
  ⟨h.os, h.tape, h.output, h.size, fun k hk hn => h.block k hk (fun hm => hn (hs k hm))⟩

set_option maxRecDepth 100000 in
set_option maxHeartbeats 1000000 in
theorem text1_yes (a b : Int) (gx gs : Nat) (s0 : Value) (w : World) (hn : isN a b = true) (h0 : 0 ≤ GM.sgn a b) (_ : gx ≠ gs)
    (hx : w.heap[gx]? = some (.cells #[.int .i64 a, .int .i64 b] 23 (0, 0))) (hs : w.heap[gs]? = some (.cells #[s0] 9 (0, 0))) :
    Calls Tryd.prog 67 #[.pointer (some ⟨gx, 0, none⟩), .pointer (some ⟨gs, 0, none⟩)] w fun e w' => e = .returned (.tuple #[]) ∧ BelX [gs] w w' ∧ w'.heap[gs]? = some (.cells #[.string ⟨(GM.textOf (a, b)).toArray⟩] 9 (0, 0)) := by
  have hnum := (isN_iff a b).1 hn
  obtain ⟨n1, n2, n3, n4⟩ := hnum
  dsimp only at n1 n2 n3 n4
  have HW := Lib.hid (fun wx => write_any a b wx ⟨n1, n2, n3, n4⟩ h0)
  have HSG := Lib.hid (fun wx => sign_any a b wx (by omega) (by omega) (by omega) (by omega))
  have HN := Lib.hid hn
  obtain ⟨sg, hsg⟩ : ∃ sg, GM.sgn a b = sg := ⟨_, rfl⟩
  rw [hsg] at HSG h0
  have c0 := row2_0 hx
  have c1 := row2_1 hx
  have hgx := blk_lt hx
  have hgs := blk_lt hs
  have HS := Lib.hid hs
  have HX := Lib.hid hx
  clear hn hx hs hsg
  obtain ⟨S, hS⟩ : ∃ S : ByteArray, ⟨(GM.textOf (a, b)).toArray⟩ = S := ⟨_, rfl⟩
  rw [hS] at HW ⊢
  clear hS
  go_enter Tryd.func67, Tryd.ntmps67
  go_wp2_with (first
    | (go_at_call 56; refine (isNum _ _ _).mono ?_; rintro e w1 ⟨rfl, hb1⟩; rw [HN.out]; have X1 := blk_call hb1 HX.out; have S1 := blk_call hb1 HS.out; have B1 := BelX.ofBelow hb1; have d0 := row2_0 X1; have d1 := row2_1 X1; have HX1 := Lib.hid X1; have HS1 := Lib.hid S1; clear hb1 X1 S1)
    | (go_at_call 68; refine (HSG.out _).mono ?_; rintro e w2 ⟨rfl, hb2⟩; have X2 := blk_call hb2 HX1.out; have S2 := blk_call hb2 HS1.out; have B2 := B1.call hb2; have e0 := row2_0 X2; have e1 := row2_1 X2; have HX2 := Lib.hid X2; have HS2 := Lib.hid S2; clear hb2 X2 S2)
    | (go_at_call 55; refine (demand_yes _ _).mono ?_; rintro e w' ⟨rfl, rfl⟩)
    | (go_at_call 57; refine (HW.out _).mono ?_; rintro e w3 ⟨rfl, hb3⟩; have S3 := blk_call hb3 HS2.out; have B3 := B2.call hb3; have g0 := row1_0 S3; have g1 := row_f S3; have HS3 := Lib.hid S3; clear hb3 S3)
    | fail)
  go_end0
  exact ⟨rfl, (B3.wider (bs' := [gs]) (by simp)).setOld (p := ⟨gs, 0, none⟩) (by simp) _, blk_set1 HS3.out⟩

set_option maxRecDepth 100000 in
set_option maxHeartbeats 1000000 in
theorem text1_no (a b : Int) (gx : Nat) (gs : Nat) (w : World) (hn : ¬ (isN a b = true ∧ 0 ≤ GM.sgn a b))
    (hx : w.heap[gx]? = some (.cells #[.int .i64 a, .int .i64 b] 23 (0, 0))) :
    Calls Tryd.prog 67 #[.pointer (some ⟨gx, 0, none⟩), .pointer (some ⟨gs, 0, none⟩)] w fun e w' => e = trouble 2 ∧ BelX [] w w' := by
  have c0 := row2_0 hx
  have c1 := row2_1 hx
  have HX := Lib.hid hx
  clear hx
  by_cases hN : isN a b = true
  · obtain ⟨n1, n2, n3, n4⟩ := (isN_iff a b).1 hN
    dsimp only at n1 n2 n3 n4
    have HSG := Lib.hid (fun wx => sign_any a b wx (by omega) (by omega) (by omega) (by omega))
    have h0 : ¬ 0 ≤ GM.sgn a b := fun h => hn ⟨hN, h⟩
    obtain ⟨sg, hsg⟩ : ∃ sg, GM.sgn a b = sg := ⟨_, rfl⟩
    rw [hsg] at HSG h0
    have hd0 : decide (0 ≤ sg) = false := decide_eq_false h0
    have h0' : sg < 0 := by omega
    have HN := Lib.hid hN
    clear hn hN hsg
    go_enter Tryd.func67, Tryd.ntmps67
    go_wp2_with (first
      | (go_at_call 56; refine (isNum _ _ _).mono ?_; rintro e w1 ⟨rfl, hb1⟩; rw [HN.out]; have X1 := blk_call hb1 HX.out; have B1 := BelX.ofBelow hb1; have d0 := row2_0 X1; have d1 := row2_1 X1; clear hb1 X1)
      | (go_at_call 68; refine (HSG.out _).mono ?_; rintro e w2 ⟨rfl, hb2⟩; have B2 := B1.call hb2; clear hb2)
      | (go_at_call 55; refine (demand_no _ _).mono ?_; rintro e w' ⟨rfl, rfl⟩)
      | fail)
    exact ⟨rfl, rfl, B2⟩
  · have HN := Lib.hid (show isN a b = false by simpa using hN)
    clear hn hN
    go_enter Tryd.func67, Tryd.ntmps67
    go_wp2_with (first
      | (go_at_call 56; refine (isNum _ _ _).mono ?_; rintro e w1 ⟨rfl, hb1⟩; rw [HN.out]; have B1 := BelX.ofBelow hb1; clear hb1)
      | (go_at_call 55; refine (demand_no _ _).mono ?_; rintro e w' ⟨rfl, rfl⟩)
      | fail)
    exact ⟨rfl, rfl, B1⟩
end Go.Proofs.YtgocloilagcfoabDoor
