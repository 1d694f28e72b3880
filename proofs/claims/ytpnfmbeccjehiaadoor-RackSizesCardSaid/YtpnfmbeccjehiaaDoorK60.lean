/- What the reference's Shapes comes to. -/
import Derived.Test.YtpnfmbeccjehiaaDoorQ9
import Derived.Test.YtpnfmbeccjehiaaDoorK61
import Derived.Test.YtpnfmbeccjehiaaDoorK54
import Derived.Test.YtpnfmbeccjehiaaDoorZC
namespace Go.Proofs.YtpnfmbeccjehiaaDoor
open Go.RowKit Go.Proofs.YtpnfmbeccjehiaaDoorW.PrintWords Go.Proofs.YtpnfmbeccjehiaaDoorW.PrintLast Go.Proofs.YtpnfmbeccjehiaaDoorW.PrintMore
/-- what the reference's Shapes hands back -/
def shapesR : Option Nat → Int × Bool
 | some n => ((n : Int), true)
 | none => (0, false)
theorem shapes_from (l : List UInt8) (hl : l.length ≤ 5000) : ∀ (d j : Nat), j + d = 4 → Ev (fun K => PR.remouldref07_Shapes.l0 K ⟨l.toArray⟩ (j : Int)) (shapesR (RK.sizeFrom l d j)) := by
 intro d
 induction d with
 | zero =>
  intro j hj
  have c1 : ¬ (j : Int) ≤ 3 := by omega
  refine ⟨1, fun K hK => ?_⟩
  obtain ⟨K, rfl⟩ : ∃ m, K = m + 1 := ⟨K - 1, by omega⟩
  dsimp only
  rw [PR.remouldref07_Shapes.l0, if_neg c1]
  rfl
 | succ d ih =>
  intro j hj
  have c1 : (j : Int) ≤ 3 := by omega
  obtain ⟨a, ha⟩ := Read_ev j (by omega) l hl
  dsimp only at ha
  rw [RK.sizeFrom]
  cases hro : RK.readOf j l with
  | some m =>
   have e1 : readR j l = (zs (RK.lst j m), true) := by unfold readR; rw [hro]
   rw [e1] at ha
   obtain ⟨h1, -⟩ := RK.readOf_some hro
   obtain ⟨b, hb⟩ := size_f j (by omega)
   refine ⟨a + b + 1, fun K hK => ?_⟩
   obtain ⟨K, rfl⟩ : ∃ m, K = m + 1 := ⟨K - 1, by omega⟩
   dsimp only
   rw [PR.remouldref07_Shapes.l0, if_pos c1, ha K (by omega), Option.bind_some, if_pos rfl, hb m h1 K (by omega)]
   rfl
  | none =>
   have e1 : readR j l = ([], false) := by unfold readR; rw [hro]
   rw [e1] at ha
   obtain ⟨b, hb⟩ := ih (j + 1) (by omega)
   dsimp only at hb
   refine ⟨a + b + 1, fun K hK => ?_⟩
   obtain ⟨K, rfl⟩ : ∃ m, K = m + 1 := ⟨K - 1, by omega⟩
   dsimp only
   rw [PR.remouldref07_Shapes.l0, if_pos c1, ha K (by omega), Option.bind_some, if_neg (fun h => Bool.false_ne_true h), wrap_s (by omega)]
   exact hb K (by omega)
theorem refShapes (l : List UInt8) (w : World) (hl : l.length ≤ 5000) :
  Calls Tryd.prog 30 #[.string ⟨l.toArray⟩] w fun e w' => e = .returned (.tuple #[.int .i64 (shapesR (RK.sizeOf l)).1, .bool (shapesR (RK.sizeOf l)).2]) ∧ Below w.heap.size w w' := by
 obtain ⟨K, h⟩ := shapes_from l hl 4 0 rfl
 exact PR.remouldref07_Shapes.calls K ⟨l.toArray⟩ _ _ w (h K (Nat.le_refl _))
end Go.Proofs.YtpnfmbeccjehiaaDoor
