/- A world for the cards' witness: the listed variables laid; what the rack's laws ask of the start. -/
import Derived.Test.YtpnfmbeccjehiaaDoorCards
import Derived.Test.YtpnfmbeccjehiaaDoorTie
import Derived.WalkKit
import Derived.ProofKit
import Derived.OpenShut
import Derived.Deep.DeepHandedRow
import Derived.Lib.LaidTab
import Derived.Lib.LaidU8
import Derived.Lib.SmallJoins
import Derived.PinnedBridge
import Derived.Lay
import Derived.LaidOnce
import Derived.SevenTiedAt
import Derived.ChangeSlices
import Derived.Carry
import Derived.Test.YtpnfmbeccjehiaaDoorZ7
namespace Go.Proofs.YtpnfmbeccjehiaaDoor
open Go.ChangeShapes Go.WideShapes Go.ChangeAt Go.RowKit Go.Proofs.YtpnfmbeccjehiaaDoorW.PrintWords Go.Proofs.YtpnfmbeccjehiaaDoorW.PrintLast Go.Proofs.YtpnfmbeccjehiaaDoorW.PrintMore
theorem own : ownKnob Tryd.prog.godebug = none := by kernel_rfl
theorem inI {x : Int} (h : (Lit.int .i64 x).wf = true) : -9223372036854775808 ≤ x ∧ x ≤ 9223372036854775807 := by
  simpa [Lit.wf, IntKind.min, IntKind.max, IntKind.signed, IntKind.bits] using h
/-- the listed variables -/
noncomputable def tabs : List (String × DataW Unit) := [("math/bits.deBruijn32tab", Rows.laid_math_bits_deBruijn32tab), ("math/bits.deBruijn64tab", Rows.laid_math_bits_deBruijn64tab), ("internal/strconv.uint64pow10", Rows.laid_internal_strconv_uint64pow10), ("unicode/utf8.acceptRanges", Rows.laid_unicode_utf8_acceptRanges), ("strconv.ErrRange", Rows.laid_strconv_ErrRange), ("strconv.ErrSyntax", Rows.laid_strconv_ErrSyntax), ("unicode/utf8.first", Rows.laid_unicode_utf8_first)]
noncomputable def laidWorld (os : Os) : World := World.laidAll Tryd.prog os tabs
theorem laid_met (os : Os) (args : Array Value) : laidMet Tryd.prog tabs ((laidWorld os).forCall (fun _ _ => 0) ⟨#[], args, []⟩).memory :=
  laidMet_laidAll args (by kernel_rfl) (by kernel_rfl)
theorem laidOut : laidOutB Tryd.prog = true := by kernel_rfl
theorem pow_data : (Rows.laid_internal_strconv_uint64pow10 : DataW Unit) = Lib.tabData .u64 Lib.pow10Tab := by kernel_rfl
theorem no_handle : (tabs.filter fun x => x.2.handleName?.isSome) = [] := by kernel_rfl
set_option maxRecDepth 100000 in
theorem tab_of {W : World} (h : laidMetH Tryd.prog tabs W) : Tab W := by
  have h' : laidMet Tryd.prog tabs W := by
    unfold laidMetH at h
    rw [no_handle] at h
    exact h
  clear h
  have hr : Lib.VarReads Tryd.prog W "internal/strconv.uint64pow10" Rows.laid_internal_strconv_uint64pow10 := Lib.laidMet.reads h' (.tail _ (.tail _ (.head _)))
  obtain ⟨g', t', cs, fuel, p, hg', ht', hvar, hd⟩ := hr
  have hg : Tryd.prog.globalNamed "internal/strconv.uint64pow10" = some (lays171_ren.g 17) := by kernel_rfl
  obtain rfl := Option.some.inj (hg.symm.trans hg')
  have hty : (Tryd.prog.globals[lays171_ren.g 17]?).map (·.type) = some 155 := by kernel_rfl
  obtain rfl := Option.some.inj (hty.symm.trans ht')
  have ht : Lib.TabIs Tryd.prog W "internal/strconv.uint64pow10" .u64 Lib.pow10Tab := by
    unfold Lib.TabIs
    rw [pow_data] at hd
    rw [hvar, ← Lib.cells_of_tab (n := 20) (e := 130) Tryd.underlying155 Tryd.underlying130 (by kernel_rfl) (by kernel_rfl) hd]
  exact ⟨ht, block_lt_of_cell (ht.cell hg 0 (by decide))⟩
set_option maxRecDepth 100000 in
/-- an argument that is a slice of ints -/
theorem LI_of {H : Type} {enc : TypeId × Value → H} {W : World} {base base' : Nat} {v : Value} {d : DataW H} {ps : List MemPlace} (hv : Value.okWide Tryd.prog W .any base' 23 v) (h : DataW.Trod enc Tryd.prog W base (fun _ => true) true 23 v d ps) :
    ∃ xs, LI W v xs ∧ ∀ x ∈ xs, -9223372036854775808 ≤ x ∧ x ≤ 9223372036854775807 := by
  obtain ⟨a0, len, cap, rfl⟩ := Go.WideShapes.okWide_slice Tryd.underlying23 hv
  obtain ⟨fuel, hf⟩ := h
  rcases open_ints Tryd.underlying23 Tryd.underlying3 (by kernel_rfl) hf with ⟨hcs, -⟩ | ⟨a, len', cap', ns, hcs, -, hl, hm, hz, -, hcell, hwz⟩
  · obtain ⟨rfl, rfl, rfl⟩ : a0 = none ∧ len = 0 ∧ cap = 0 := by simpa [Value.cells] using hcs
    exact ⟨[], ⟨none, 0, rfl, Nat.le_refl _, rfl, by simp, fun h => by simp at h⟩, fun x h => by cases h⟩
  · obtain ⟨rfl, rfl, rfl⟩ : a0 = some a ∧ len = len' ∧ cap = cap' := by simpa [Value.cells] using hcs
    have hz' : ns.length = cap := by simpa using hz
    have hlen : (ns.take len).length = len := by rw [List.length_take]; omega
    have hm' : len ≤ 9223372036854775807 := by unfold maxLen at hm; omega
    refine ⟨ns.take len, ⟨some a, cap, by rw [hlen], by rw [hlen]; exact hl, rfl, by rw [hlen]; exact hm', fun _ => ⟨a, rfl, fun j x hj => ⟨[.int .i64 x], rfl, rfl, fun i u hu => ?_⟩⟩⟩, fun x hx => inI (hwz x (List.mem_of_mem_take hx))⟩
    have hjl := (List.getElem?_eq_some_iff.1 hj).1
    rw [hlen] at hjl
    rw [List.getElem?_take, if_pos hjl] at hj
    have hc := hcell j (by omega)
    rw [List.getD, hj] at hc
    match i, hu with
    | 0, hu =>
      simp at hu
      subst hu
      simpa [Kd.int, Kd.scalar] using hc
    | i + 1, hu => simp at hu
end Go.Proofs.YtpnfmbeccjehiaaDoor
/- The rack's methods: check of any places; Work, Before, Count. -/
namespace Go.Proofs.YtpnfmbeccjehiaaDoor
open Go.RowKit Go.Proofs.YtpnfmbeccjehiaaDoorW.PrintWords Go.Proofs.YtpnfmbeccjehiaaDoorW.PrintLast Go.Proofs.YtpnfmbeccjehiaaDoorW.PrintMore
attribute [local go_sem ↓] Go.wp_at_zero Go.wp_at_succ

set_option maxHeartbeats 4000000 in
theorem check_any (k rb : Nat) (s : Value) (xs : List Int) (w : World) (hk : k ≤ 3) (h : w.cell? ⟨rb, 0, none⟩ = some (.int .i64 ((k : Int) + 1))) (hs : LI w s xs) (hn : xs.length ≤ 2) :
    Calls Tryd.prog 44 #[.pointer (some ⟨rb, 0, none⟩), s] w fun e w' => e = .returned (.int .i64 (if ∀ x ∈ xs, 0 ≤ x ∧ x < RK.R k then 0 else 2)) ∧ w = w' := by
  have HU := Lib.hid (fun wx h => usable_ok k rb wx h)
  have HP := Lib.hid (fun o wx ho => places_any o k wx ho hk)
  have HW := Lib.hid (fun a b c wx => within_any a b c wx)
  have hR := RK.R_le hk
  have hR0 := RK.R_pos k
  obtain ⟨p, hp⟩ : ∃ p, RK.R k = p := ⟨_, rfl⟩
  rw [hp] at hR hR0 HP
  rw [hp]
  obtain ⟨res, hres⟩ : ∃ r : Int, (if ∀ x ∈ xs, 0 ≤ x ∧ x < (p : Int) then (0 : Int) else 2) = r := ⟨_, rfl⟩
  rw [hres]
  have HRS := Lib.hid hres
  clear hres
  obtain ⟨A, c, rfl⟩ := hs.len
  have HS := Lib.hid hs
  obtain ⟨n, hxn⟩ : ∃ n, xs.length = n := ⟨_, rfl⟩
  have HXN := Lib.hid hxn
  simp only [hxn] at HS hn ⊢
  clear hs hxn
  go_enter Tryd.func44, Tryd.ntmps44
  go_wp2_with fail
  refine (HU.out _ h).mono ?_
  rintro e w1 ⟨rfl, rfl⟩
  go_upto_region 4 with fail
  go_loopw [12, 6] (fun i _ wr => ∃ j : Nat, i = .int .i64 j ∧ j ≤ n ∧ Hid (∀ x ∈ xs.take j, 0 ≤ x ∧ x < p) ∧ w = wr) (fun i _ _ => n - (intOf i).toNat)
  case atStart => exact ⟨0, rfl, by omega, Lib.hid (fun x h => by simp at h), rfl⟩
  case round =>
    obtain ⟨j, rfl, hj, HJ, rfl⟩ := hrel
    by_cases hjl : j < n
    · obtain ⟨x, hx⟩ : ∃ x, xs[j]? = some x := ⟨xs[j]'(by have := HXN.out; omega), by have := HXN.out; simp [show j < xs.length by omega]⟩
      obtain ⟨ad, rfl, hc⟩ := HS.out.cell hx
      have HTK := Lib.hid (show xs.take (j + 1) = xs.take j ++ [x] by rw [List.take_add_one, hx]; rfl)
      have HMX := Lib.hid (List.mem_of_getElem? hx)
      clear hx
      go_wp2_with fail
      refine (HP.out _ _ (by omega)).mono ?_
      rintro e w1 ⟨rfl, rfl⟩
      go_wp2_with fail
      refine (HW.out _ _ _ _).mono ?_
      rintro e w1 ⟨rfl, rfl⟩
      by_cases hx : 0 ≤ x ∧ x < p
      · rw [show (decide ((0 : Int) ≤ x) && decide (x ≤ (p : Int) - 1)) = true by simp; omega]
        have HX := Lib.hid hx
        clear hx
        go_wp2_with fail
        go_roundw
        case rel => exact ⟨j + 1, by simp, by omega, Lib.hid (fun z hz => by
          rw [HTK.out] at hz
          rcases List.mem_append.1 hz with h | h
          · exact HJ.out z h
          · rw [List.mem_singleton.1 h]; exact HX.out), by first | rfl | trivial⟩
        case measure => simp [intOf]; omega
      · rw [show (decide ((0 : Int) ≤ x) && decide (x ≤ (p : Int) - 1)) = false by simp; omega]
        have HX := Lib.hid hx
        clear hx
        go_wp2_with fail
        go_ret
        exact ⟨by rw [← HRS.out, if_neg (fun h => HX.out (h x HMX.out))]; rfl, rfl⟩
    · obtain rfl : j = n := by omega
      have HX := Lib.hid (show ∀ x ∈ xs, 0 ≤ x ∧ x < p by
        have := HJ.out
        rw [List.take_of_length_le (by have := HXN.out; omega)] at this
        exact this)
      clear HJ
      go_wp2_with fail
      go_ret
      exact ⟨by rw [← HRS.out, if_pos HX.out]; rfl, rfl⟩
set_option maxRecDepth 100000 in
set_option maxHeartbeats 4000000 in
theorem work_in (k rb : Nat) (m : RK.S) (v : Value) (F : Nat → Prop) (x : Nat) (w : World) (hk : k ≤ 3) (h : RackIs w rb k m v F) (hx : x < RK.R k) :
    Calls Tryd.prog 23 #[.pointer (some ⟨rb, 0, none⟩), .int .i64 x] w fun e w' => e = .returned (.tuple #[.int .i64 (RK.wk k m x : Int), .int .i64 0]) ∧ Below w.heap.size w w' := by
  have HC := Lib.hid (fun cap sb wx h hs => check_one k rb sb cap (x : Int) wx hk h hs)
  have hH := fun wx h => next_any k v m F x wx hk h hx
  have HR := Lib.hid h
  have hrs := blk_lt h.1
  have hwk := wrap_small (n := k) (by omega)
  have hif : (if (0 : Int) ≤ (x : Int) ∧ (x : Int) < RK.R k then (0 : Int) else 2) = 0 := if_pos ⟨by omega, by omega⟩
  have hR4 := RK.R_le hk
  obtain ⟨N, hN⟩ : ∃ n, (RK.nxv k m x).1 = n := ⟨_, rfl⟩
  obtain ⟨W, hW⟩ : ∃ n, RK.wk k m x = n := ⟨_, rfl⟩
  obtain ⟨O, hO⟩ : ∃ n, (RK.nxv k m x).2 = n := ⟨_, rfl⟩
  simp only [hN, hW, hO] at hH
  rw [hW]
  have HH := Lib.hid hH
  simp only [hif] at HC
  clear h hif hN hW hO hH
  go_enter Tryd.func23, Tryd.ntmps23
  go_wp2_with fail
  refine (HC.out _ _ _ (row2 (blk_old HR.out.1)).1 (cell_lit _ _ _)).mono ?_
  rintro e w1 ⟨rfl, rfl⟩
  obtain ⟨w2, h2⟩ : ∃ wx : World, wx = w.alloc (.cells #[.int .i64 x] 3) := ⟨_, rfl⟩
  rw [← h2]
  have HR2 := Lib.hid (show RackIs w2 rb k m v F by rw [h2]; exact HR.out.below (by repeat (first | exact Below.refl _ _ | exact Nat.le_refl _ | refine Below.alloc ?_ ?_ _ | refine Below.setCell ?_ ?_ _ | refine Below.drew ?_ | refine bl_drewN ?_ _ | (assumption) | refine bl_call ?_ (by assumption) ?_ | omega | (simp <;> omega))))
  have B2 : Below w.heap.size w w2 := by rw [h2]; exact (by repeat (first | exact Below.refl _ _ | exact Nat.le_refl _ | refine Below.alloc ?_ ?_ _ | refine Below.setCell ?_ ?_ _ | refine Below.drew ?_ | refine bl_drewN ?_ _ | (assumption) | refine bl_call ?_ (by assumption) ?_ | omega | (simp <;> omega)))
  obtain ⟨c0, c1⟩ := row2 HR2.out.1
  have hrs2 := blk_lt HR2.out.1
  have hsz2 := B2.size
  clear h2
  go_upto_region 4 with fail
  refine with_act fun a0 ha0 => ?_
  have hsz0 : a0.tmps.size = 33 := by rw [ha0]; rfl
  refine wp_region_vals (W0 := w2) (by kernel_rfl) (by kernel_rfl) [(18, .pointer (some ⟨rb, 0, none⟩)), (19, .pointer (some ⟨rb, 0, none⟩)), (20, .pointer (some ⟨rb, 1, none⟩)), (21, v), (22, .pointer (some ⟨rb, 0, none⟩)), (23, .pointer (some ⟨rb, 0, none⟩)), (24, .pointer (some ⟨rb, 0, none⟩)), (25, .int .i64 ((k : Int) + 1)), (26, .int .i64 k), (27, .int .i64 x), (28, .tuple #[.int .i64 N, .int .i64 W, .bool O]), (17, .tuple #[.int .i64 N, .int .i64 W, .bool O]), (29, .int .i64 N), (30, .int .i64 W), (31, .bool O), (7, .int .i64 N), (8, .int .i64 W), (9, .bool O)] rfl (by show ([18, 19, 20, 21, 22, 23, 24, 25, 26, 27, 28, 17, 29, 30, 31, 7, 8, 9] : List Nat).Nodup; decide) _ hsz0 (by kernel_rfl) (BelX.start _ _) ⟨⟨rfl, ?y1v0⟩, ⟨rfl, ?y1v1⟩, ⟨rfl, ?y1v2⟩, ⟨rfl, ?y1v3⟩, ⟨rfl, ?y1v4⟩, ⟨rfl, ?y1v5⟩, ⟨rfl, ?y1v6⟩, ⟨rfl, ?y1v7⟩, ⟨rfl, ?y1v8⟩, ⟨rfl, ?y1v9⟩, ⟨rfl, ?y1v10⟩, ⟨rfl, ?y1v11⟩, ⟨rfl, ?y1v12⟩, ⟨rfl, ?y1v13⟩, ⟨rfl, ?y1v14⟩, ⟨rfl, ?y1v15⟩, ⟨rfl, ?y1v16⟩, ⟨rfl, ?y1v17⟩, trivial⟩ ?y1done
  case y1v0 =>
    intro a' w' hA hdep hX K hK
    have r0 : a'.eval (.tmp 0) = .pointer (some ⟨rb, 0, none⟩) := (hA.out 0 (by kernel_rfl)).trans (by rw [ha0]; rfl)
    have q0 := eval_get r0
    clear hdep ha0 hA
    refine StepG.value (w' := w') (v := .pointer (some ⟨rb, 0, none⟩)) (wanted_none rfl) rfl ?_ (hK _ hX)
    simp [go_sem, *]
  case y1v1 =>
    intro a' w' hA hdep hX K hK
    have r18 : a'.eval (.tmp 18) = .pointer (some ⟨rb, 0, none⟩) := hdep ⟨0, .data⟩ (by simp) rfl (18, .pointer (some ⟨rb, 0, none⟩)) rfl
    have q18 := eval_get r18
    clear hdep ha0 hA
    refine StepG.value (w' := w') (v := .pointer (some ⟨rb, 0, none⟩)) (wanted_none rfl) rfl ?_ (hK _ hX)
    simp [go_sem, *]
  case y1v2 =>
    intro a' w' hA hdep hX K hK
    have r19 : a'.eval (.tmp 19) = .pointer (some ⟨rb, 0, none⟩) := hdep ⟨1, .data⟩ (by simp) rfl (19, .pointer (some ⟨rb, 0, none⟩)) rfl
    have q19 := eval_get r19
    clear hdep ha0 hA
    refine StepG.value (w' := w') (v := .pointer (some ⟨rb, 1, none⟩)) (wanted_none rfl) rfl ?_ (hK _ hX)
    simp [go_sem, *]
  case y1v3 =>
    intro a' w' hA hdep hX K hK
    have r20 : a'.eval (.tmp 20) = .pointer (some ⟨rb, 1, none⟩) := hdep ⟨2, .data⟩ (by simp) rfl (20, .pointer (some ⟨rb, 1, none⟩)) rfl
    have kc0 : w'.cell? ⟨rb, 0, none⟩ = some (.int .i64 ((k : Int) + 1)) := hX.cell (by simp) (by first | assumption | (go_simp; done) | (simp; done))
    have kc1 : w'.cell? ⟨rb, 1, none⟩ = some (v) := hX.cell (by simp) (by first | assumption | (go_simp; done) | (simp; done))
    have q20 := eval_get r20
    clear hdep ha0 hA
    refine StepG.value (w' := w') (v := v) (wanted_none rfl) rfl ?_ (hK _ hX)
    simp [go_sem, *]
  case y1v4 =>
    intro a' w' hA hdep hX K hK
    have r0 : a'.eval (.tmp 0) = .pointer (some ⟨rb, 0, none⟩) := (hA.out 0 (by kernel_rfl)).trans (by rw [ha0]; rfl)
    have q0 := eval_get r0
    clear hdep ha0 hA
    refine StepG.value (w' := w') (v := .pointer (some ⟨rb, 0, none⟩)) (wanted_none rfl) rfl ?_ (hK _ hX)
    simp [go_sem, *]
  case y1v5 =>
    intro a' w' hA hdep hX K hK
    have r22 : a'.eval (.tmp 22) = .pointer (some ⟨rb, 0, none⟩) := hdep ⟨4, .data⟩ (by simp) rfl (22, .pointer (some ⟨rb, 0, none⟩)) rfl
    have q22 := eval_get r22
    clear hdep ha0 hA
    refine StepG.value (w' := w') (v := .pointer (some ⟨rb, 0, none⟩)) (wanted_none rfl) rfl ?_ (hK _ hX)
    simp [go_sem, *]
  case y1v6 =>
    intro a' w' hA hdep hX K hK
    have r23 : a'.eval (.tmp 23) = .pointer (some ⟨rb, 0, none⟩) := hdep ⟨5, .data⟩ (by simp) rfl (23, .pointer (some ⟨rb, 0, none⟩)) rfl
    have q23 := eval_get r23
    clear hdep ha0 hA
    refine StepG.value (w' := w') (v := .pointer (some ⟨rb, 0, none⟩)) (wanted_none rfl) rfl ?_ (hK _ hX)
    simp [go_sem, *]
  case y1v7 =>
    intro a' w' hA hdep hX K hK
    have r24 : a'.eval (.tmp 24) = .pointer (some ⟨rb, 0, none⟩) := hdep ⟨6, .data⟩ (by simp) rfl (24, .pointer (some ⟨rb, 0, none⟩)) rfl
    have kc0 : w'.cell? ⟨rb, 0, none⟩ = some (.int .i64 ((k : Int) + 1)) := hX.cell (by simp) (by first | assumption | (go_simp; done) | (simp; done))
    have kc1 : w'.cell? ⟨rb, 1, none⟩ = some (v) := hX.cell (by simp) (by first | assumption | (go_simp; done) | (simp; done))
    have q24 := eval_get r24
    clear hdep ha0 hA
    refine StepG.value (w' := w') (v := .int .i64 ((k : Int) + 1)) (wanted_none rfl) rfl ?_ (hK _ hX)
    simp [go_sem, *]
  case y1v8 =>
    intro a' w' hA hdep hX K hK
    have r25 : a'.eval (.tmp 25) = .int .i64 ((k : Int) + 1) := hdep ⟨7, .data⟩ (by simp) rfl (25, .int .i64 ((k : Int) + 1)) rfl
    have q25 := eval_get r25
    clear hdep ha0 hA
    refine StepG.value (w' := w') (v := .int .i64 k) (wanted_none rfl) rfl ?_ (hK _ hX)
    simp [go_sem, *]
  case y1v9 =>
    intro a' w' hA hdep hX K hK
    have r1 : a'.eval (.tmp 1) = .int .i64 x := (hA.out 1 (by kernel_rfl)).trans (by rw [ha0]; rfl)
    have q1 := eval_get r1
    clear hdep ha0 hA
    refine StepG.value (w' := w') (v := .int .i64 x) (wanted_none rfl) rfl ?_ (hK _ hX)
    simp [go_sem, *]
  case y1v10 =>
    intro a' w' hA hdep hX K hK
    have r21 : a'.eval (.tmp 21) = v := hdep ⟨3, .data⟩ (by simp) rfl (21, v) rfl
    have r26 : a'.eval (.tmp 26) = .int .i64 k := hdep ⟨8, .data⟩ (by simp) rfl (26, .int .i64 k) rfl
    have r27 : a'.eval (.tmp 27) = .int .i64 x := hdep ⟨9, .data⟩ (by simp) rfl (27, .int .i64 x) rfl
    have q21 := eval_get r21
    have q26 := eval_get r26
    have q27 := eval_get r27
    clear hdep ha0 hA
    refine StepG.call (v := .tuple #[.int .i64 N, .int .i64 W, .bool O]) (wanted_none rfl) rfl ?_ ((HH.out w' (HR2.out.2.1.kept (BelP.ofX hX) (fun _ _ h => by simp at h)))) (fun w2 hb => hK _ (hX.call hb))
    simp [go_sem, *]
  case y1v11 =>
    intro a' w' hA hdep hX K hK
    have r28 : a'.eval (.tmp 28) = .tuple #[.int .i64 N, .int .i64 W, .bool O] := hdep ⟨10, .data⟩ (by simp) rfl (28, .tuple #[.int .i64 N, .int .i64 W, .bool O]) rfl
    have q28 := eval_get r28
    clear hdep ha0 hA
    refine StepG.value (w' := w') (v := .tuple #[.int .i64 N, .int .i64 W, .bool O]) (wanted_none rfl) rfl ?_ (hK _ hX)
    simp [go_sem, *]
  case y1v12 =>
    intro a' w' hA hdep hX K hK
    have r17 : a'.eval (.tmp 17) = .tuple #[.int .i64 N, .int .i64 W, .bool O] := hdep ⟨11, .data⟩ (by simp) rfl (17, .tuple #[.int .i64 N, .int .i64 W, .bool O]) rfl
    have q17 := eval_get r17
    clear hdep ha0 hA
    refine StepG.value (w' := w') (v := .int .i64 N) (wanted_none rfl) rfl ?_ (hK _ hX)
    simp [go_sem, *]
  case y1v13 =>
    intro a' w' hA hdep hX K hK
    have r17 : a'.eval (.tmp 17) = .tuple #[.int .i64 N, .int .i64 W, .bool O] := hdep ⟨11, .data⟩ (by simp) rfl (17, .tuple #[.int .i64 N, .int .i64 W, .bool O]) rfl
    have q17 := eval_get r17
    clear hdep ha0 hA
    refine StepG.value (w' := w') (v := .int .i64 W) (wanted_none rfl) rfl ?_ (hK _ hX)
    simp [go_sem, *]
  case y1v14 =>
    intro a' w' hA hdep hX K hK
    have r17 : a'.eval (.tmp 17) = .tuple #[.int .i64 N, .int .i64 W, .bool O] := hdep ⟨11, .data⟩ (by simp) rfl (17, .tuple #[.int .i64 N, .int .i64 W, .bool O]) rfl
    have q17 := eval_get r17
    clear hdep ha0 hA
    refine StepG.value (w' := w') (v := .bool O) (wanted_none rfl) rfl ?_ (hK _ hX)
    simp [go_sem, *]
  case y1v15 =>
    intro a' w' hA hdep hX K hK
    have r29 : a'.eval (.tmp 29) = .int .i64 N := hdep ⟨12, .data⟩ (by simp) rfl (29, .int .i64 N) rfl
    have q29 := eval_get r29
    clear hdep ha0 hA
    refine StepG.value (w' := w') (v := .int .i64 N) (wanted_none rfl) rfl ?_ (hK _ hX)
    simp [go_sem, *]
  case y1v16 =>
    intro a' w' hA hdep hX K hK
    have r30 : a'.eval (.tmp 30) = .int .i64 W := hdep ⟨13, .data⟩ (by simp) rfl (30, .int .i64 W) rfl
    have q30 := eval_get r30
    clear hdep ha0 hA
    refine StepG.value (w' := w') (v := .int .i64 W) (wanted_none rfl) rfl ?_ (hK _ hX)
    simp [go_sem, *]
  case y1v17 =>
    intro a' w' hA hdep hX K hK
    have r31 : a'.eval (.tmp 31) = .bool O := hdep ⟨14, .data⟩ (by simp) rfl (31, .bool O) rfl
    have q31 := eval_get r31
    clear hdep ha0 hA
    refine StepG.value (w' := w') (v := .bool O) (wanted_none rfl) rfl ?_ (hK _ hX)
    simp [go_sem, *]
  intro w3 hXR
  rw [ha0]; simp only [putL, Act.put, List.setIfInBounds_toArray, List.set_cons_zero, List.set_cons_succ]
  clear ha0 hsz0
  have B3 : Below w.heap.size w w3 := hXR.below (by first | assumption | exact (by repeat (first | exact Below.refl _ _ | exact Nat.le_refl _ | refine Below.alloc ?_ ?_ _ | refine Below.setCell ?_ ?_ _ | refine Below.drew ?_ | refine bl_drewN ?_ _ | (assumption) | refine bl_call ?_ (by assumption) ?_ | omega | (simp <;> omega)))) (by first | omega | (simp <;> omega)) (by simp)
  go_wp2_with fail
  exact bodyPost_ret (v := .tuple #[.int .i64 W, .int .i64 0]) (by simp [results, Tryd.results23, go_sem]) rfl ⟨rfl, (by repeat (first | exact Below.refl _ _ | exact Nat.le_refl _ | refine Below.alloc ?_ ?_ _ | refine Below.setCell ?_ ?_ _ | refine Below.drew ?_ | refine bl_drewN ?_ _ | (assumption) | refine bl_call ?_ (by assumption) ?_ | omega | (simp <;> omega)))⟩
set_option maxHeartbeats 4000000 in
theorem work_out (k rb : Nat) (m : RK.S) (v : Value) (F : Nat → Prop) (x : Int) (w : World) (hk : k ≤ 3) (h : RackIs w rb k m v F) (hx : ¬ (0 ≤ x ∧ x < RK.R k)) :
    Calls Tryd.prog 23 #[.pointer (some ⟨rb, 0, none⟩), .int .i64 x] w fun e w' => e = .returned (.tuple #[.int .i64 0, .int .i64 2]) ∧ Below w.heap.size w w' := by
  have HC := Lib.hid (fun cap sb wx h hs => check_one k rb sb cap x wx hk h hs)
  have HR := Lib.hid h
  have hrs := blk_lt h.1
  simp only [if_neg hx] at HC
  clear h hx
  go_enter Tryd.func23, Tryd.ntmps23
  go_wp2_with fail
  refine (HC.out _ _ _ (row2 (blk_old HR.out.1)).1 (cell_lit _ _ _)).mono ?_
  rintro e w1 ⟨rfl, rfl⟩
  go_wp2_with fail
  exact bodyPost_ret (v := .tuple #[.int .i64 0, .int .i64 2]) (by simp [results, Tryd.results23, go_sem]) rfl ⟨rfl, (by repeat (first | exact Below.refl _ _ | exact Nat.le_refl _ | refine Below.alloc ?_ ?_ _ | refine Below.setCell ?_ ?_ _ | refine Below.drew ?_ | refine bl_drewN ?_ _ | (assumption) | refine bl_call ?_ (by assumption) ?_ | omega | (simp <;> omega)))⟩
end Go.Proofs.YtpnfmbeccjehiaaDoor
/- The rack's methods: Before, Count. -/
namespace Go.Proofs.YtpnfmbeccjehiaaDoor
open Go.RowKit Go.Proofs.YtpnfmbeccjehiaaDoorW.PrintWords Go.Proofs.YtpnfmbeccjehiaaDoorW.PrintLast Go.Proofs.YtpnfmbeccjehiaaDoorW.PrintMore
attribute [local go_sem ↓] Go.wp_at_zero Go.wp_at_succ

namespace RK
/-- the place before, and whether there is one -/
def bfv (m : S) : Nat → Nat × Bool
  | 0 => (0, false)
  | x + 1 => if m x = true then (x, true) else bfv m x
theorem bfv_none {m : S} : ∀ {x : Nat}, (∀ z, z < x → m z = false) → bfv m x = (0, false)
  | 0, _ => rfl
  | x + 1, h => by
    rw [bfv, if_neg (by rw [h x (by omega)]; decide)]
    exact bfv_none fun z hz => h z (by omega)
theorem bfv_some {m : S} {i : Nat} (hi : m i = true) : ∀ {x : Nat}, i < x → (∀ z, i < z → z < x → m z = false) → bfv m x = (i, true)
  | 0, h, _ => by omega
  | x + 1, h, hz => by
    rw [bfv]
    by_cases e : i = x
    · rw [if_pos (by rw [← e]; exact hi), e]
    · rw [if_neg (by rw [hz x (by omega) (by omega)]; decide)]
      exact bfv_some hi (by omega) fun z h1 h2 => hz z h1 (by omega)
theorem bfv_spec (m : S) : ∀ x, ((bfv m x).2 = true → m (bfv m x).1 = true ∧ (bfv m x).1 < x ∧ ∀ z, (bfv m x).1 < z → z < x → m z = false) ∧ ((bfv m x).2 = false → (bfv m x).1 = 0 ∧ ∀ z, z < x → m z = false)
  | 0 => ⟨fun h => by simp [bfv] at h, fun _ => ⟨rfl, fun z hz => by omega⟩⟩
  | x + 1 => by
    rw [bfv]
    by_cases h : m x = true
    · rw [if_pos h]
      exact ⟨fun _ => ⟨h, by show x < x + 1; omega, fun z h1 h2 => by simp only at h1; omega⟩, fun h => by simp at h⟩
    · rw [if_neg h]
      obtain ⟨h1, h2⟩ := bfv_spec m x
      refine ⟨fun h3 => ?_, fun h3 => ⟨(h2 h3).1, fun z hz => ?_⟩⟩
      · obtain ⟨q1, q2, q3⟩ := h1 h3
        refine ⟨q1, by omega, fun z hz hx => ?_⟩
        by_cases e : z = x
        · rw [e]; simpa using h
        · exact q3 z hz (by omega)
      · by_cases e : z = x
        · rw [e]; simpa using h
        · exact (h2 h3).2 z (by omega)
/-- how many of the n places from lo on are there -/
def cn (m : S) (lo : Nat) : Nat → Nat
  | 0 => 0
  | n + 1 => cn m lo n + (if m (lo + n) = true then 1 else 0)
theorem cn_le (m : S) (lo : Nat) : ∀ n, cn m lo n ≤ n
  | 0 => Nat.le_refl _
  | n + 1 => by have := cn_le m lo n; rw [cn]; split <;> omega
end RK
set_option maxRecDepth 100000 in
set_option maxHeartbeats 4000000 in
theorem before_in (k rb : Nat) (m : RK.S) (v : Value) (F : Nat → Prop) (x : Nat) (w : World) (hk : k ≤ 3) (h : RackIs w rb k m v F) (hx : x < RK.R k) :
    Calls Tryd.prog 25 #[.pointer (some ⟨rb, 0, none⟩), .int .i64 x] w fun e w' => e = .returned (foundT (RK.bfv m x)) ∧ Below w.heap.size w w' := by
  have HC := Lib.hid (fun cap sb wx h hs => check_one k rb sb cap (x : Int) wx hk h hs)
  have HH := Lib.hid (fun (y : Nat) wx h hy => has_any k (k : Int) v m F y wx rfl hk h hy)
  have HR := Lib.hid h
  have hrs := blk_lt h.1
  have hwk := wrap_small (n := k) (by omega)
  have hif : (if (0 : Int) ≤ (x : Int) ∧ (x : Int) < RK.R k then (0 : Int) else 2) = 0 := if_pos ⟨by omega, by omega⟩
  have hR4 := RK.R_le hk
  have hx4 : x < 256 := by omega
  obtain ⟨T, hT⟩ : ∃ n, foundT (RK.bfv m x) = n := ⟨_, rfl⟩
  rw [hT]
  have HTT := Lib.hid hT
  have HX := Lib.hid hx
  simp only [hif] at HC
  clear h hif hT hx hR4
  go_enter Tryd.func25, Tryd.ntmps25
  go_wp2_with fail
  refine (HC.out _ _ _ (row2 (blk_old HR.out.1)).1 (cell_lit _ _ _)).mono ?_
  rintro e w1 ⟨rfl, rfl⟩
  obtain ⟨w2, h2⟩ : ∃ wx : World, wx = w.alloc (.cells #[.int .i64 x] 3) := ⟨_, rfl⟩
  rw [← h2]
  have HR2 := Lib.hid (show RackIs w2 rb k m v F by rw [h2]; exact HR.out.below (by repeat (first | exact Below.refl _ _ | exact Nat.le_refl _ | refine Below.alloc ?_ ?_ _ | refine Below.setCell ?_ ?_ _ | refine Below.drew ?_ | refine bl_drewN ?_ _ | (assumption) | refine bl_call ?_ (by assumption) ?_ | omega | (simp <;> omega))))
  have B2 : Below w.heap.size w w2 := by rw [h2]; exact (by repeat (first | exact Below.refl _ _ | exact Nat.le_refl _ | refine Below.alloc ?_ ?_ _ | refine Below.setCell ?_ ?_ _ | refine Below.drew ?_ | refine bl_drewN ?_ _ | (assumption) | refine bl_call ?_ (by assumption) ?_ | omega | (simp <;> omega)))
  have hsz2 := B2.size
  clear h2
  go_upto_region 5 with fail
  go_loopw [7] (fun y wr => ∃ j : Nat, y = .int .i64 ((j : Int) - 1) ∧ j ≤ x ∧ Hid (∀ z, j ≤ z → z < x → m z = false) ∧ Hid (RackIs wr rb k m v F) ∧ Below w.heap.size w wr) (fun y _ => (intOf y + 1).toNat)
  case atStart => exact ⟨x, by first | rfl | (congr 1; omega) | simp, by omega, Lib.hid (fun z h1 h2 => by omega), HR2, B2⟩
  case round =>
    obtain ⟨j, rfl, hj, HZ, HRr, B⟩ := hrel
    have zr := B.size
    cases j with
    | zero =>
      have HN := Lib.hid (show T = .tuple #[.int .i64 0, .int .i64 6] by
        rw [← HTT.out, RK.bfv_none (fun z hz => HZ.out z (by omega) hz)]; rfl)
      go_wp2_with fail
      exact bodyPost_ret (v := .tuple #[.int .i64 0, .int .i64 6]) (by simp [results, Tryd.results25, go_sem]) rfl ⟨by rw [HN.out], B⟩
    | succ i =>
      obtain ⟨c0, c1⟩ := row2 HRr.out.1
      have e1 : ((i + 1 : Nat) : Int) - 1 = (i : Int) := by omega
      rw [e1]
      clear e1
      obtain ⟨M, hM⟩ : ∃ b, m i = b := ⟨_, rfl⟩
      have HHi := Lib.hid (fun wx h => HH.out i wx h (by have := HX.out; omega))
      rw [hM] at HHi
      have HMi := Lib.hid hM
      clear hM
      have hrs2 := blk_lt HRr.out.1
      go_upto_region 7 with fail
      refine with_act fun a0 ha0 => ?_
      have hsz0 : a0.tmps.size = 33 := by rw [ha0]; rfl
      refine wp_region_vals (W0 := wr) (by kernel_rfl) (by kernel_rfl) [(21, .pointer (some ⟨rb, 0, none⟩)), (22, .pointer (some ⟨rb, 0, none⟩)), (23, .pointer (some ⟨rb, 1, none⟩)), (24, v), (25, .pointer (some ⟨rb, 0, none⟩)), (26, .pointer (some ⟨rb, 0, none⟩)), (27, .pointer (some ⟨rb, 0, none⟩)), (28, .int .i64 ((k : Int) + 1)), (29, .int .i64 k), (30, .int .i64 i), (31, .bool M)] rfl (by show ([21, 22, 23, 24, 25, 26, 27, 28, 29, 30, 31] : List Nat).Nodup; decide) _ hsz0 (by kernel_rfl) (BelX.start _ _) ⟨⟨rfl, ?y1v0⟩, ⟨rfl, ?y1v1⟩, ⟨rfl, ?y1v2⟩, ⟨rfl, ?y1v3⟩, ⟨rfl, ?y1v4⟩, ⟨rfl, ?y1v5⟩, ⟨rfl, ?y1v6⟩, ⟨rfl, ?y1v7⟩, ⟨rfl, ?y1v8⟩, ⟨rfl, ?y1v9⟩, ⟨rfl, ?y1v10⟩, trivial⟩ ?y1done
      case y1v0 =>
        intro a' w' hA hdep hX K hK
        have r0 : a'.eval (.tmp 0) = .pointer (some ⟨rb, 0, none⟩) := (hA.out 0 (by kernel_rfl)).trans (by rw [ha0]; rfl)
        have q0 := eval_get r0
        clear hdep ha0 hA
        refine StepG.value (w' := w') (v := .pointer (some ⟨rb, 0, none⟩)) (wanted_none rfl) rfl ?_ (hK _ hX)
        simp [go_sem, *]
      case y1v1 =>
        intro a' w' hA hdep hX K hK
        have r21 : a'.eval (.tmp 21) = .pointer (some ⟨rb, 0, none⟩) := hdep ⟨0, .data⟩ (by simp) rfl (21, .pointer (some ⟨rb, 0, none⟩)) rfl
        have q21 := eval_get r21
        clear hdep ha0 hA
        refine StepG.value (w' := w') (v := .pointer (some ⟨rb, 0, none⟩)) (wanted_none rfl) rfl ?_ (hK _ hX)
        simp [go_sem, *]
      case y1v2 =>
        intro a' w' hA hdep hX K hK
        have r22 : a'.eval (.tmp 22) = .pointer (some ⟨rb, 0, none⟩) := hdep ⟨1, .data⟩ (by simp) rfl (22, .pointer (some ⟨rb, 0, none⟩)) rfl
        have q22 := eval_get r22
        clear hdep ha0 hA
        refine StepG.value (w' := w') (v := .pointer (some ⟨rb, 1, none⟩)) (wanted_none rfl) rfl ?_ (hK _ hX)
        simp [go_sem, *]
      case y1v3 =>
        intro a' w' hA hdep hX K hK
        have r23 : a'.eval (.tmp 23) = .pointer (some ⟨rb, 1, none⟩) := hdep ⟨2, .data⟩ (by simp) rfl (23, .pointer (some ⟨rb, 1, none⟩)) rfl
        have kc0 : w'.cell? ⟨rb, 0, none⟩ = some (.int .i64 ((k : Int) + 1)) := hX.cell (by simp) (by first | assumption | (go_simp; done) | (simp; done))
        have kc1 : w'.cell? ⟨rb, 1, none⟩ = some (v) := hX.cell (by simp) (by first | assumption | (go_simp; done) | (simp; done))
        have q23 := eval_get r23
        clear hdep ha0 hA
        refine StepG.value (w' := w') (v := v) (wanted_none rfl) rfl ?_ (hK _ hX)
        simp [go_sem, *]
      case y1v4 =>
        intro a' w' hA hdep hX K hK
        have r0 : a'.eval (.tmp 0) = .pointer (some ⟨rb, 0, none⟩) := (hA.out 0 (by kernel_rfl)).trans (by rw [ha0]; rfl)
        have q0 := eval_get r0
        clear hdep ha0 hA
        refine StepG.value (w' := w') (v := .pointer (some ⟨rb, 0, none⟩)) (wanted_none rfl) rfl ?_ (hK _ hX)
        simp [go_sem, *]
      case y1v5 =>
        intro a' w' hA hdep hX K hK
        have r25 : a'.eval (.tmp 25) = .pointer (some ⟨rb, 0, none⟩) := hdep ⟨4, .data⟩ (by simp) rfl (25, .pointer (some ⟨rb, 0, none⟩)) rfl
        have q25 := eval_get r25
        clear hdep ha0 hA
        refine StepG.value (w' := w') (v := .pointer (some ⟨rb, 0, none⟩)) (wanted_none rfl) rfl ?_ (hK _ hX)
        simp [go_sem, *]
      case y1v6 =>
        intro a' w' hA hdep hX K hK
        have r26 : a'.eval (.tmp 26) = .pointer (some ⟨rb, 0, none⟩) := hdep ⟨5, .data⟩ (by simp) rfl (26, .pointer (some ⟨rb, 0, none⟩)) rfl
        have q26 := eval_get r26
        clear hdep ha0 hA
        refine StepG.value (w' := w') (v := .pointer (some ⟨rb, 0, none⟩)) (wanted_none rfl) rfl ?_ (hK _ hX)
        simp [go_sem, *]
      case y1v7 =>
        intro a' w' hA hdep hX K hK
        have r27 : a'.eval (.tmp 27) = .pointer (some ⟨rb, 0, none⟩) := hdep ⟨6, .data⟩ (by simp) rfl (27, .pointer (some ⟨rb, 0, none⟩)) rfl
        have kc0 : w'.cell? ⟨rb, 0, none⟩ = some (.int .i64 ((k : Int) + 1)) := hX.cell (by simp) (by first | assumption | (go_simp; done) | (simp; done))
        have kc1 : w'.cell? ⟨rb, 1, none⟩ = some (v) := hX.cell (by simp) (by first | assumption | (go_simp; done) | (simp; done))
        have q27 := eval_get r27
        clear hdep ha0 hA
        refine StepG.value (w' := w') (v := .int .i64 ((k : Int) + 1)) (wanted_none rfl) rfl ?_ (hK _ hX)
        simp [go_sem, *]
      case y1v8 =>
        intro a' w' hA hdep hX K hK
        have r28 : a'.eval (.tmp 28) = .int .i64 ((k : Int) + 1) := hdep ⟨7, .data⟩ (by simp) rfl (28, .int .i64 ((k : Int) + 1)) rfl
        have q28 := eval_get r28
        clear hdep ha0 hA
        refine StepG.value (w' := w') (v := .int .i64 k) (wanted_none rfl) rfl ?_ (hK _ hX)
        simp [go_sem, *]
      case y1v9 =>
        intro a' w' hA hdep hX K hK
        have r7 : a'.eval (.tmp 7) = .int .i64 i := (hA.out 7 (by kernel_rfl)).trans (by rw [ha0]; rfl)
        have q7 := eval_get r7
        clear hdep ha0 hA
        refine StepG.value (w' := w') (v := .int .i64 i) (wanted_none rfl) rfl ?_ (hK _ hX)
        simp [go_sem, *]
      case y1v10 =>
        intro a' w' hA hdep hX K hK
        have r24 : a'.eval (.tmp 24) = v := hdep ⟨3, .data⟩ (by simp) rfl (24, v) rfl
        have r29 : a'.eval (.tmp 29) = .int .i64 k := hdep ⟨8, .data⟩ (by simp) rfl (29, .int .i64 k) rfl
        have r30 : a'.eval (.tmp 30) = .int .i64 i := hdep ⟨9, .data⟩ (by simp) rfl (30, .int .i64 i) rfl
        have q24 := eval_get r24
        have q29 := eval_get r29
        have q30 := eval_get r30
        clear hdep ha0 hA
        refine StepG.call (v := .bool M) (wanted_none rfl) rfl ?_ ((HHi.out w' (HRr.out.2.1.kept (BelP.ofX hX) (fun _ _ h => by simp at h)))) (fun w2 hb => hK _ (hX.call hb))
        simp [go_sem, *]
      intro w3 hXR
      rw [ha0]; simp only [putL, Act.put, List.setIfInBounds_toArray, List.set_cons_zero, List.set_cons_succ]
      clear ha0 hsz0
      have B3 : Below w.heap.size w w3 := hXR.below (by first | assumption | exact (by repeat (first | exact Below.refl _ _ | exact Nat.le_refl _ | refine Below.alloc ?_ ?_ _ | refine Below.setCell ?_ ?_ _ | refine Below.drew ?_ | refine bl_drewN ?_ _ | (assumption) | refine bl_call ?_ (by assumption) ?_ | omega | (simp <;> omega)))) (by first | omega | (simp <;> omega)) (by simp)
      have HR3 := Lib.hid (HRr.out.below (belX_toBelow hXR))
      clear hXR c0 c1
      cases M with
      | true =>
        have HN := Lib.hid (show T = .tuple #[.int .i64 i, .int .i64 0] by
          rw [← HTT.out, RK.bfv_some HMi.out (show i < x by omega) (fun z h1 h2 => HZ.out z (by omega) h2)]; rfl)
        go_wp2_with fail
        exact bodyPost_ret (v := .tuple #[.int .i64 i, .int .i64 0]) (by simp [results, Tryd.results25, go_sem]) rfl ⟨by rw [HN.out], B3⟩
      | false =>
        go_wp2_with fail
        go_roundw
        case rel => exact ⟨i, by first | rfl | simp, by omega, Lib.hid (fun z h1 h2 => by
          by_cases e : z = i
          · rw [e]; exact HMi.out
          · exact HZ.out z (by omega) h2), HR3, B3⟩
        case measure => simp [intOf]
set_option maxHeartbeats 4000000 in
theorem before_out (k rb : Nat) (m : RK.S) (v : Value) (F : Nat → Prop) (x : Int) (w : World) (hk : k ≤ 3) (h : RackIs w rb k m v F) (hx : ¬ (0 ≤ x ∧ x < RK.R k)) :
    Calls Tryd.prog 25 #[.pointer (some ⟨rb, 0, none⟩), .int .i64 x] w fun e w' => e = .returned (.tuple #[.int .i64 0, .int .i64 2]) ∧ Below w.heap.size w w' := by
  have HC := Lib.hid (fun cap sb wx h hs => check_one k rb sb cap x wx hk h hs)
  have HR := Lib.hid h
  have hrs := blk_lt h.1
  simp only [if_neg hx] at HC
  clear h hx
  go_enter Tryd.func25, Tryd.ntmps25
  go_wp2_with fail
  refine (HC.out _ _ _ (row2 (blk_old HR.out.1)).1 (cell_lit _ _ _)).mono ?_
  rintro e w1 ⟨rfl, rfl⟩
  go_wp2_with fail
  exact bodyPost_ret (v := .tuple #[.int .i64 0, .int .i64 2]) (by simp [results, Tryd.results25, go_sem]) rfl ⟨rfl, (by repeat (first | exact Below.refl _ _ | exact Nat.le_refl _ | refine Below.alloc ?_ ?_ _ | refine Below.setCell ?_ ?_ _ | refine Below.drew ?_ | refine bl_drewN ?_ _ | (assumption) | refine bl_call ?_ (by assumption) ?_ | omega | (simp <;> omega)))⟩
set_option maxRecDepth 100000 in
set_option maxHeartbeats 4000000 in
theorem count_in (k rb : Nat) (m : RK.S) (v : Value) (F : Nat → Prop) (lo hi : Nat) (w : World) (hk : k ≤ 3) (h : RackIs w rb k m v F) (hlo : lo < RK.R k) (hhi : hi < RK.R k) :
    Calls Tryd.prog 28 #[.pointer (some ⟨rb, 0, none⟩), .int .i64 lo, .int .i64 hi] w fun e w' => e = .returned (.tuple #[.int .i64 (RK.cn m lo (hi + 1 - lo) : Nat), .int .i64 0]) ∧ Below w.heap.size w w' := by
  have hC := fun s wx h hs => check_any k rb s [(lo : Int), (hi : Int)] wx hk h hs (by simp)
  have hif : (if ∀ x ∈ [(lo : Int), (hi : Int)], 0 ≤ x ∧ x < RK.R k then (0 : Int) else 2) = 0 := if_pos (fun x hx => by
    simp only [List.mem_cons, List.not_mem_nil, or_false] at hx
    rcases hx with rfl | rfl <;> omega)
  simp only [hif] at hC
  have HC := Lib.hid hC
  have HH := Lib.hid (fun (y : Nat) wx h hy => has_any k (k : Int) v m F y wx rfl hk h hy)
  have HR := Lib.hid h
  have hrs := blk_lt h.1
  have hwk := wrap_small (n := k) (by omega)
  have hR4 := RK.R_le hk
  have hl4 : lo < 256 := by omega
  have hh4 : hi < 256 := by omega
  obtain ⟨N, hN⟩ : ∃ n, hi + 1 - lo = n := ⟨_, rfl⟩
  obtain ⟨T, hT⟩ : ∃ n, RK.cn m lo N = n := ⟨_, rfl⟩
  rw [hN, hT]
  have HTT := Lib.hid hT
  have HHI := Lib.hid hhi
  have HNN := Lib.hid hN
  have hcl := RK.cn_le m lo
  have HCL := Lib.hid hcl
  clear h hif hT hhi hlo hR4 hC hcl hN
  go_enter Tryd.func28, Tryd.ntmps28
  go_wp2_with fail
  refine (HC.out _ _ (row2 (blk_old HR.out.1)).1 (LI.two (blk_new _ _))).mono ?_
  rintro e w1 ⟨rfl, rfl⟩
  obtain ⟨w2, h2⟩ : ∃ wx : World, wx = w.alloc (.cells #[.int .i64 lo, .int .i64 hi] 3) := ⟨_, rfl⟩
  rw [← h2]
  have HR2 := Lib.hid (show RackIs w2 rb k m v F by rw [h2]; exact HR.out.below (by repeat (first | exact Below.refl _ _ | exact Nat.le_refl _ | refine Below.alloc ?_ ?_ _ | refine Below.setCell ?_ ?_ _ | refine Below.drew ?_ | refine bl_drewN ?_ _ | (assumption) | refine bl_call ?_ (by assumption) ?_ | omega | (simp <;> omega))))
  have B2 : Below w.heap.size w w2 := by rw [h2]; exact (by repeat (first | exact Below.refl _ _ | exact Nat.le_refl _ | refine Below.alloc ?_ ?_ _ | refine Below.setCell ?_ ?_ _ | refine Below.drew ?_ | refine bl_drewN ?_ _ | (assumption) | refine bl_call ?_ (by assumption) ?_ | omega | (simp <;> omega)))
  have hsz2 := B2.size
  clear h2
  go_upto_region 6 with fail
  go_loopw [9, 10] (fun n y wr => ∃ (j c : Nat), y = .int .i64 ((lo + j : Nat) : Int) ∧ n = .int .i64 c ∧ c ≤ j ∧ j ≤ N ∧ Hid (RK.cn m lo j = c) ∧ Hid (RackIs wr rb k m v F) ∧ Below w.heap.size w wr) (fun _ y _ => (N + lo) - (intOf y).toNat)
  case atStart => exact ⟨0, 0, by simp, by simp, by omega, by omega, Lib.hid rfl, HR2, B2⟩
  case round =>
    obtain ⟨j, c, rfl, rfl, hcj, hj, HCN, HRr, B⟩ := hrel
    have zr := B.size
    by_cases hjn : j < N
    · have hle : lo + j ≤ hi := by have := HNN.out; omega
      obtain ⟨c0, c1⟩ := row2 HRr.out.1
      obtain ⟨i, hi'⟩ : ∃ i, lo + j = i := ⟨_, rfl⟩
      rw [hi'] at hle
      rw [hi']
      obtain ⟨M, hM⟩ : ∃ b, m i = b := ⟨_, rfl⟩
      have HHi := Lib.hid (fun wx h => HH.out i wx h (by have := HHI.out; omega))
      rw [hM] at HHi
      have HIJ := Lib.hid hi'
      have HMi := Lib.hid hM
      have hi4 : i < 256 := by omega
      have hj4 : c ≤ 256 := by omega
      have HJN := Lib.hid hjn
      have HCJ := Lib.hid hcj
      clear hM hi' hjn hj hcj
      have hrs2 := blk_lt HRr.out.1
      go_upto_region 8 with fail
      refine with_act fun a0 ha0 => ?_
      have hsz0 : a0.tmps.size = 39 := by rw [ha0]; rfl
      refine wp_region_vals (W0 := wr) (by kernel_rfl) (by kernel_rfl) [(25, .pointer (some ⟨rb, 0, none⟩)), (26, .pointer (some ⟨rb, 0, none⟩)), (27, .pointer (some ⟨rb, 1, none⟩)), (28, v), (29, .pointer (some ⟨rb, 0, none⟩)), (30, .pointer (some ⟨rb, 0, none⟩)), (31, .pointer (some ⟨rb, 0, none⟩)), (32, .int .i64 ((k : Int) + 1)), (33, .int .i64 k), (34, .int .i64 i), (35, .bool M)] rfl (by show ([25, 26, 27, 28, 29, 30, 31, 32, 33, 34, 35] : List Nat).Nodup; decide) _ hsz0 (by kernel_rfl) (BelX.start _ _) ⟨⟨rfl, ?y2v0⟩, ⟨rfl, ?y2v1⟩, ⟨rfl, ?y2v2⟩, ⟨rfl, ?y2v3⟩, ⟨rfl, ?y2v4⟩, ⟨rfl, ?y2v5⟩, ⟨rfl, ?y2v6⟩, ⟨rfl, ?y2v7⟩, ⟨rfl, ?y2v8⟩, ⟨rfl, ?y2v9⟩, ⟨rfl, ?y2v10⟩, trivial⟩ ?y2done
      case y2v0 =>
        intro a' w' hA hdep hX K hK
        have r0 : a'.eval (.tmp 0) = .pointer (some ⟨rb, 0, none⟩) := (hA.out 0 (by kernel_rfl)).trans (by rw [ha0]; rfl)
        have q0 := eval_get r0
        clear hdep ha0 hA
        refine StepG.value (w' := w') (v := .pointer (some ⟨rb, 0, none⟩)) (wanted_none rfl) rfl ?_ (hK _ hX)
        simp [go_sem, *]
      case y2v1 =>
        intro a' w' hA hdep hX K hK
        have r25 : a'.eval (.tmp 25) = .pointer (some ⟨rb, 0, none⟩) := hdep ⟨0, .data⟩ (by simp) rfl (25, .pointer (some ⟨rb, 0, none⟩)) rfl
        have q25 := eval_get r25
        clear hdep ha0 hA
        refine StepG.value (w' := w') (v := .pointer (some ⟨rb, 0, none⟩)) (wanted_none rfl) rfl ?_ (hK _ hX)
        simp [go_sem, *]
      case y2v2 =>
        intro a' w' hA hdep hX K hK
        have r26 : a'.eval (.tmp 26) = .pointer (some ⟨rb, 0, none⟩) := hdep ⟨1, .data⟩ (by simp) rfl (26, .pointer (some ⟨rb, 0, none⟩)) rfl
        have q26 := eval_get r26
        clear hdep ha0 hA
        refine StepG.value (w' := w') (v := .pointer (some ⟨rb, 1, none⟩)) (wanted_none rfl) rfl ?_ (hK _ hX)
        simp [go_sem, *]
      case y2v3 =>
        intro a' w' hA hdep hX K hK
        have r27 : a'.eval (.tmp 27) = .pointer (some ⟨rb, 1, none⟩) := hdep ⟨2, .data⟩ (by simp) rfl (27, .pointer (some ⟨rb, 1, none⟩)) rfl
        have kc0 : w'.cell? ⟨rb, 0, none⟩ = some (.int .i64 ((k : Int) + 1)) := hX.cell (by simp) (by first | assumption | (go_simp; done) | (simp; done))
        have kc1 : w'.cell? ⟨rb, 1, none⟩ = some (v) := hX.cell (by simp) (by first | assumption | (go_simp; done) | (simp; done))
        have q27 := eval_get r27
        clear hdep ha0 hA
        refine StepG.value (w' := w') (v := v) (wanted_none rfl) rfl ?_ (hK _ hX)
        simp [go_sem, *]
      case y2v4 =>
        intro a' w' hA hdep hX K hK
        have r0 : a'.eval (.tmp 0) = .pointer (some ⟨rb, 0, none⟩) := (hA.out 0 (by kernel_rfl)).trans (by rw [ha0]; rfl)
        have q0 := eval_get r0
        clear hdep ha0 hA
        refine StepG.value (w' := w') (v := .pointer (some ⟨rb, 0, none⟩)) (wanted_none rfl) rfl ?_ (hK _ hX)
        simp [go_sem, *]
      case y2v5 =>
        intro a' w' hA hdep hX K hK
        have r29 : a'.eval (.tmp 29) = .pointer (some ⟨rb, 0, none⟩) := hdep ⟨4, .data⟩ (by simp) rfl (29, .pointer (some ⟨rb, 0, none⟩)) rfl
        have q29 := eval_get r29
        clear hdep ha0 hA
        refine StepG.value (w' := w') (v := .pointer (some ⟨rb, 0, none⟩)) (wanted_none rfl) rfl ?_ (hK _ hX)
        simp [go_sem, *]
      case y2v6 =>
        intro a' w' hA hdep hX K hK
        have r30 : a'.eval (.tmp 30) = .pointer (some ⟨rb, 0, none⟩) := hdep ⟨5, .data⟩ (by simp) rfl (30, .pointer (some ⟨rb, 0, none⟩)) rfl
        have q30 := eval_get r30
        clear hdep ha0 hA
        refine StepG.value (w' := w') (v := .pointer (some ⟨rb, 0, none⟩)) (wanted_none rfl) rfl ?_ (hK _ hX)
        simp [go_sem, *]
      case y2v7 =>
        intro a' w' hA hdep hX K hK
        have r31 : a'.eval (.tmp 31) = .pointer (some ⟨rb, 0, none⟩) := hdep ⟨6, .data⟩ (by simp) rfl (31, .pointer (some ⟨rb, 0, none⟩)) rfl
        have kc0 : w'.cell? ⟨rb, 0, none⟩ = some (.int .i64 ((k : Int) + 1)) := hX.cell (by simp) (by first | assumption | (go_simp; done) | (simp; done))
        have kc1 : w'.cell? ⟨rb, 1, none⟩ = some (v) := hX.cell (by simp) (by first | assumption | (go_simp; done) | (simp; done))
        have q31 := eval_get r31
        clear hdep ha0 hA
        refine StepG.value (w' := w') (v := .int .i64 ((k : Int) + 1)) (wanted_none rfl) rfl ?_ (hK _ hX)
        simp [go_sem, *]
      case y2v8 =>
        intro a' w' hA hdep hX K hK
        have r32 : a'.eval (.tmp 32) = .int .i64 ((k : Int) + 1) := hdep ⟨7, .data⟩ (by simp) rfl (32, .int .i64 ((k : Int) + 1)) rfl
        have q32 := eval_get r32
        clear hdep ha0 hA
        refine StepG.value (w' := w') (v := .int .i64 k) (wanted_none rfl) rfl ?_ (hK _ hX)
        simp [go_sem, *]
      case y2v9 =>
        intro a' w' hA hdep hX K hK
        have r10 : a'.eval (.tmp 10) = .int .i64 i := (hA.out 10 (by kernel_rfl)).trans (by rw [ha0]; rfl)
        have q10 := eval_get r10
        clear hdep ha0 hA
        refine StepG.value (w' := w') (v := .int .i64 i) (wanted_none rfl) rfl ?_ (hK _ hX)
        simp [go_sem, *]
      case y2v10 =>
        intro a' w' hA hdep hX K hK
        have r28 : a'.eval (.tmp 28) = v := hdep ⟨3, .data⟩ (by simp) rfl (28, v) rfl
        have r33 : a'.eval (.tmp 33) = .int .i64 k := hdep ⟨8, .data⟩ (by simp) rfl (33, .int .i64 k) rfl
        have r34 : a'.eval (.tmp 34) = .int .i64 i := hdep ⟨9, .data⟩ (by simp) rfl (34, .int .i64 i) rfl
        have q28 := eval_get r28
        have q33 := eval_get r33
        have q34 := eval_get r34
        clear hdep ha0 hA
        refine StepG.call (v := .bool M) (wanted_none rfl) rfl ?_ ((HHi.out w' (HRr.out.2.1.kept (BelP.ofX hX) (fun _ _ h => by simp at h)))) (fun w2 hb => hK _ (hX.call hb))
        simp [go_sem, *]
      intro w3 hXR
      rw [ha0]; simp only [putL, Act.put, List.setIfInBounds_toArray, List.set_cons_zero, List.set_cons_succ]
      clear ha0 hsz0
      have B3 : Below w.heap.size w w3 := hXR.below (by first | assumption | exact (by repeat (first | exact Below.refl _ _ | exact Nat.le_refl _ | refine Below.alloc ?_ ?_ _ | refine Below.setCell ?_ ?_ _ | refine Below.drew ?_ | refine bl_drewN ?_ _ | (assumption) | refine bl_call ?_ (by assumption) ?_ | omega | (simp <;> omega)))) (by first | omega | (simp <;> omega)) (by simp)
      have HR3 := Lib.hid (HRr.out.below (belX_toBelow hXR))
      clear hXR c0 c1
      cases M with
      | true =>
        go_wp2_with fail
        go_roundw
        case rel => exact ⟨j + 1, c + 1, by have := HIJ.out; first | (congr 1; omega) | (simp; omega), by first | rfl | simp, by have := HCJ.out; omega, by have := HJN.out; omega, Lib.hid (by rw [RK.cn, HIJ.out, if_pos HMi.out, HCN.out]), HR3, B3⟩
        case measure => have h1 := HIJ.out; have h2 := HJN.out; simp [intOf]; omega
      | false =>
        go_wp2_with fail
        go_roundw
        case rel => exact ⟨j + 1, c, by have := HIJ.out; first | (congr 1; omega) | (simp; omega), by first | rfl | simp, by have := HCJ.out; omega, by have := HJN.out; omega, Lib.hid (by rw [RK.cn, HIJ.out, if_neg (by rw [HMi.out]; decide), HCN.out]; rfl), HR3, B3⟩
        case measure => have h1 := HIJ.out; have h2 := HJN.out; simp [intOf]; omega
    · obtain rfl : j = N := by omega
      have hgt : ¬ lo + j ≤ hi := by have := HNN.out; omega
      have HN := Lib.hid (show c = T by rw [← HTT.out, HCN.out])
      go_wp2_with fail
      exact bodyPost_ret (v := .tuple #[.int .i64 c, .int .i64 0]) (by simp [results, Tryd.results28, go_sem]) rfl ⟨by rw [HN.out], B⟩
set_option maxHeartbeats 4000000 in
theorem count_out (k rb : Nat) (m : RK.S) (v : Value) (F : Nat → Prop) (x y : Int) (w : World) (hk : k ≤ 3) (h : RackIs w rb k m v F) (hx : ¬ ((0 ≤ x ∧ x < RK.R k) ∧ (0 ≤ y ∧ y < RK.R k))) :
    Calls Tryd.prog 28 #[.pointer (some ⟨rb, 0, none⟩), .int .i64 x, .int .i64 y] w fun e w' => e = .returned (.tuple #[.int .i64 0, .int .i64 2]) ∧ Below w.heap.size w w' := by
  have hC := fun s wx h hs => check_any k rb s [x, y] wx hk h hs (by simp)
  have hif : (if ∀ z ∈ [x, y], 0 ≤ z ∧ z < RK.R k then (0 : Int) else 2) = 2 := if_neg (fun hz => hx ⟨hz x (by simp), hz y (by simp)⟩)
  simp only [hif] at hC
  have HC := Lib.hid hC
  have HR := Lib.hid h
  have hrs := blk_lt h.1
  clear h hx hC hif
  go_enter Tryd.func28, Tryd.ntmps28
  go_wp2_with fail
  refine (HC.out _ _ (row2 (blk_old HR.out.1)).1 (LI.two (blk_new _ _))).mono ?_
  rintro e w1 ⟨rfl, rfl⟩
  go_wp2_with fail
  exact bodyPost_ret (v := .tuple #[.int .i64 0, .int .i64 2]) (by simp [results, Tryd.results28, go_sem]) rfl ⟨rfl, (by repeat (first | exact Below.refl _ _ | exact Nat.le_refl _ | refine Below.alloc ?_ ?_ _ | refine Below.setCell ?_ ?_ _ | refine Below.drew ?_ | refine bl_drewN ?_ _ | (assumption) | refine bl_call ?_ (by assumption) ?_ | omega | (simp <;> omega)))⟩
end Go.Proofs.YtpnfmbeccjehiaaDoor
