/- What the law's brief comes to. -/
import Derived.Test.YtpnfmbeccjehiaaDoorK59
namespace Go.Proofs.YtpnfmbeccjehiaaDoor
open Go.RowKit Go.Proofs.YtpnfmbeccjehiaaDoorW.PrintWords Go.Proofs.YtpnfmbeccjehiaaDoorW.PrintLast Go.Proofs.YtpnfmbeccjehiaaDoorW.PrintMore
theorem brief_any (l : List UInt8) (w : World) :
  ∃ l' : List UInt8, l'.length ≤ 4096 ∧ Calls Tryd.prog 11 #[.string ⟨l.toArray⟩] w fun e w' => e = .returned (.string ⟨l'.toArray⟩) ∧ Below w.heap.size w w' := by
 have hm : ∃ n : Nat, mn ((⟨l.toArray⟩ : ByteArray).size : Int) 4096 = (n : Int) ∧ n ≤ 4096 ∧ n ≤ l.length := by
  rw [str_size]
  unfold mn
  by_cases h : (4096 : Int) < (l.length : Int)
  ·
   rw [if_pos h]; exact ⟨4096, rfl, Nat.le_refl _, by omega⟩
  ·
   rw [if_neg h]; exact ⟨l.length, rfl, by omega, Nat.le_refl _⟩
 obtain ⟨n, h1, h2, h3⟩ := hm
 refine ⟨l.take n, by rw [List.length_take]; omega, PR.remouldlaw07_brief.calls ⟨l.toArray⟩ ⟨(l.take n).toArray⟩ w ?_⟩
 unfold PR.remouldlaw07_brief.f
 have c2 : (n : Int) ≤ ((⟨l.toArray⟩ : ByteArray).size : Int) := by rw [str_size]; omega
 rw [h1, if_pos (Int.natCast_nonneg n), if_pos c2, Int.toNat_natCast]
 congr 1
 apply ByteArray.ext
 simp
end Go.Proofs.YtpnfmbeccjehiaaDoor
