/- A rack in new memory, and a list of the reference beside it: each call by the sets alone. -/
import Derived.Test.YtpnfmbeccjehiabGreatDoorZE
namespace Go.Proofs.YtpnfmbeccjehiabGreatDoor
open Go.RowKit Go.Proofs.YtpnfmbeccjehiabGreatDoorW.PrintWords Go.Proofs.YtpnfmbeccjehiabGreatDoorW.PrintLast Go.Proofs.YtpnfmbeccjehiabGreatDoorW.PrintMore
/-- a rack, all of it in memory from B on -/
def Mine (B:Nat) (w:World) (rb k:Nat) (m:RK.S):Prop:=∃v F,RackIs w rb k m v F/\B<=rb/\∀c,F c->B<=c
theorem Both.mine {B:Nat} {w:World} {rb k:Nat} {m:RK.S} {v:Value} {F:Nat->Prop} {sv:Value} (h:Both B w rb k m v F sv):Mine B w rb k m:=⟨v,F,h.rack,h.rb_le,h.F_le⟩
theorem Mine.below {B:Nat} {w w':World} {rb k:Nat} {m:RK.S} (h:Mine B w rb k m) (hb:Below w.heap.size w w'):Mine B w' rb k m:=by
 obtain⟨v,F,h1,h2,h3⟩:=h;exact⟨v,F,h1.below hb,h2,h3⟩
theorem Mine.supp {B:Nat} {w:World} {rb k:Nat} {m:RK.S} (h:Mine B w rb k m):RK.Supp k m:=by
 obtain⟨v,F,h1,-⟩:=h;exact h1.2.1.supp
theorem mine_has {B:Nat} {w:World} {rb k:Nat} {m:RK.S} (hk:k<=3) (h:Mine B w rb k m) {x:Nat} (hx:x < RK.R k) :
  Calls Tryz.prog 25 #[.pointer (some ⟨rb,0,none⟩),.int .i64 x] w fun e w'=>e=.returned (.tuple #[.bool (m x),.int .i64 0])/\Below w.heap.size w w':=by
 obtain⟨v,F,h1,-,-⟩:=h;exact has_in k rb m v F x w hk h1 hx
theorem mine_shape {B:Nat} {w:World} {rb k:Nat} {m:RK.S} (hk:k<=3) (h:Mine B w rb k m) (ht:Tab w) :
  Calls Tryz.prog 7 #[.pointer (some ⟨rb,0,none⟩)] w fun e w'=>e=.returned (.string ⟨(RK.shT k m).toArray⟩)/\Below w.heap.size w w':=by
 obtain⟨v,F,h1,-,-⟩:=h;exact shape_any k rb m v F w hk h1 ht
/-- a rack and a list of the reference, apart from each other -/
structure Pair (B:Nat) (w:World) (rb k:Nat) (m m2:RK.S) (sv:Value):Prop where
 rack:∃v F,RackIs w rb k m v F/\B<=rb/\(∀c,F c->B<=c)/\∀q,sv.ownBlock=some q->q≠rb/\¬F q
 set:SetIs w B sv k m2
theorem Pair.below {B:Nat} {w w':World} {rb k:Nat} {m m2:RK.S} {sv:Value} (h:Pair B w rb k m m2 sv) (hb:Below w.heap.size w w'):Pair B w' rb k m m2 sv:=by
 obtain⟨⟨v,F,h1,h2⟩,h3⟩:=h;exact⟨⟨v,F,h1.below hb,h2⟩,own_below h3 hb⟩
theorem Pair.mine {B:Nat} {w:World} {rb k:Nat} {m m2:RK.S} {sv:Value} (h:Pair B w rb k m m2 sv):Mine B w rb k m:=by
 obtain⟨⟨v,F,h1,h2,h3,-⟩,-⟩:=h;exact⟨v,F,h1,h2,h3⟩
theorem pair_new (k:Nat) {w0 w:World} (hk:k<=3) (h0:Below w0.heap.size w0 w) :
  Calls Tryz.prog 4 #[.int .i64 k] w fun e w'=>∃rb,e=.returned (.pointer (some ⟨rb,0,none⟩))/\Pair w0.heap.size w' rb k (fun _=>false) (fun _=>false) (.slice none 0 0)/\Below w0.heap.size w0 w':=by
 refine(new_ok k w hk).mono ?_;rintro e w' ⟨rb,rfl,hR,hrb,hb⟩;have hs:=h0.size;exact⟨rb,rfl,⟨⟨_,_,hR,by omega,fun _ h=>False.elim h,fun q hq=>by simp[Value.ownBlock]at hq⟩,set_nil _ _ _⟩,bl_call h0 hb hs⟩
theorem pair_insert {w0 w:World} {rb k:Nat} {m m2:RK.S} {sv:Value} (hk:k<=3) (h:Pair w0.heap.size w rb k m m2 sv) (h0:Below w0.heap.size w0 w) {x:Nat} (hx:x < RK.R k) :
  Calls Tryz.prog 14 #[.pointer (some ⟨rb,0,none⟩),.int .i64 x] w fun e w'=>e=.returned (.tuple #[.bool (!m x),.int .i64 0])/\Pair w0.heap.size w' rb k (RK.ins m x) m2 sv/\Below w0.heap.size w0 w':=by
 obtain⟨⟨v,F,h1,h2,h3,h4⟩,h5⟩:=h;refine(insert_any2 k rb m v F x w hk h1 hx).mono ?_;rintro e w' ⟨rfl,v',F',hR,hB,hF⟩;have hs:=h0.size;refine⟨rfl,⟨⟨v',F',hR,h2,fun c hc=>?_,fun q hq=>⟨(h4 q hq).1,fun h=>?_⟩⟩,own_belP h5 hB (fun q hq h=>?_)⟩,hB.below h0 hs (fun c hc=>?_)⟩
 ·
  rcases hF c hc with h | h
  · exact h3 c h
  · omega
 ·
  rcases hF q h with h | h
  · exact(h4 q hq).2 h
  · have:=(own_lt2 h5 q hq).2; omega
 ·
  rcases h with h | h
  · exact(h4 q hq).1 h
  · exact(h4 q hq).2 h
 ·
  rcases hc with h | h
  · omega
  · exact h3 c h
theorem pair_refInsert {w0 w:World} {rb k:Nat} {m m2:RK.S} {sv:Value} (hk:k<=3) (h:Pair w0.heap.size w rb k m m2 sv) (h0:Below w0.heap.size w0 w) (hs2:RK.Supp k m2) {x:Nat} (hx:x < RK.R k) :
  Calls Tryz.prog 22 #[sv,.int .i64 (x:Int)] w fun e w'=>∃sv',e=.returned sv'/\Pair w0.heap.size w' rb k m (RK.ins m2 x) sv'/\Below w0.heap.size w0 w':=by
 obtain⟨⟨v,F,h1,h2,h3,h4⟩,h5⟩:=h;refine(refInsert k m2 sv x w0 w hk hs2 hx h0 h5).mono ?_;rintro e w' ⟨sv',rfl,hS,hq,hB,hb⟩;refine⟨sv',rfl,⟨⟨v,F,h1.kept hB (fun h=>(h4 _ h).1 rfl) (fun c hc h=>(h4 c h).2 hc),h2,h3,fun q hq'=>?_⟩,hS⟩,hb⟩;rcases hq q hq' with h | h
 · exact h4 q h
 ·
  refine⟨?_,fun h'=>?_⟩
  · have:=blk_lt h1.1; omega
  · have:=h1.2.1.lt k q h'; omega
theorem mine_list {B:Nat} {w:World} {rb k:Nat} {m:RK.S} (hk:k<=3) (h:Mine B w rb k m) :
  Calls Tryz.prog 8 #[.pointer (some ⟨rb,0,none⟩)] w fun e w'=>∃p q r,e=.returned (.slice p q r)/\w'.ownsRow w.heap.size 3 1 (.slice p q r) (RK.lst k m).length (ints (RK.lst k m))/\Below w.heap.size w w':=by
 obtain⟨v,F,h1,-,-⟩:=h;refine(listM_any k rb m v F w hk h1).mono ?_;rintro e w' ⟨sv,rfl,hO,hb⟩;obtain⟨p,q,r,rfl⟩:=own_form hO;exact⟨p,q,r,rfl,hO,hb⟩
theorem mine_next {B:Nat} {w:World} {rb k:Nat} {m:RK.S} (hk:k<=3) (h:Mine B w rb k m) {x:Nat} (hx:x < RK.R k) :
  Calls Tryz.prog 15 #[.pointer (some ⟨rb,0,none⟩),.int .i64 x] w fun e w'=>e=.returned (foundT (RK.nxv k m x))/\Below w.heap.size w w':=by
 obtain⟨v,F,h1,-,-⟩:=h;exact next_in k rb m v F x w hk h1 hx
theorem mine_before {B:Nat} {w:World} {rb k:Nat} {m:RK.S} (hk:k<=3) (h:Mine B w rb k m) {x:Nat} (hx:x < RK.R k) :
  Calls Tryz.prog 32 #[.pointer (some ⟨rb,0,none⟩),.int .i64 x] w fun e w'=>e=.returned (foundT (RK.bfv m x))/\Below w.heap.size w w':=by
 obtain⟨v,F,h1,-,-⟩:=h;exact before_in k rb m v F x w hk h1 hx
end Go.Proofs.YtpnfmbeccjehiabGreatDoor
