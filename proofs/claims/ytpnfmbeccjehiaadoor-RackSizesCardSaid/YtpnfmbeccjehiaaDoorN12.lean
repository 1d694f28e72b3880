/- What a text is the shape of: at its own order, and at another. -/
import Derived.Test.YtpnfmbeccjehiaaDoorN11
import Derived.Test.YtpnfmbeccjehiaaDoorZ6
namespace Go.Proofs.YtpnfmbeccjehiaaDoor
namespace RK
theorem setOf_lst {k : Nat} {m : S} (hs : Supp k m) : setOf (lst k m) = m := ext_iff fun x => by rw [setOf_iff, mem_lst hs]
theorem readOf_shT {k : Nat} (hk : k ≤ 3) {m : S} (hs : Supp k m) : readOf k (shT k m) = some m := by
 have h := rd_shT k hk hs [] (fun c r e => by cases e)
 rw [List.append_nil] at h
 have e : setOf (pl k m) = m := ext_iff fun x => by rw [setOf_iff, mem_pl k hs]
 rw [readOf, h]
 simp only
 rw [if_pos ⟨fun x hx => hs x ((mem_pl k hs x).1 hx), by rw [e]⟩, e]
theorem readOf_some {k : Nat} {l : List UInt8} {m : S} (h : readOf k l = some m) : Supp k m ∧ shT k m = l := by
 unfold readOf at h
 split at h
 ·
  rename_i out heq
  split at h
  ·
   rename_i hc
   obtain rfl := Option.some.inj h
   exact ⟨fun x hx => hc.1 x ((setOf_iff _ _).1 hx), hc.2⟩
  ·
   cases h
 ·
  cases h
theorem readOf_other {o k : Nat} (ho : o ≤ 3) (hk : k ≤ 3) {m m' : S} (hs : Supp k m) (h : readOf o (shT k m) = some m') : lst o m' = lst k m := by
 obtain ⟨h1, h2⟩ := readOf_some h
 obtain ⟨rfl, -⟩ := shT_cross o k ho hk h1 hs [] [] fol_nil fol_nil (by rw [h2])
 exact asc_ext (lst_asc _ _) (lst_asc _ _) fun x => by rw [mem_lst h1, mem_lst hs]
end RK
end Go.Proofs.YtpnfmbeccjehiaaDoor
