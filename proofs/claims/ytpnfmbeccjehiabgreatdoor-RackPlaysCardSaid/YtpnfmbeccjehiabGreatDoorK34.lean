/- filled: a rack with the places of a list, and the reference's set. -/
import Derived.Test.YtpnfmbeccjehiabGreatDoorZ7
namespace Go.Proofs.YtpnfmbeccjehiabGreatDoor
open Go.RowKit Go.Proofs.YtpnfmbeccjehiabGreatDoorW.PrintWords Go.Proofs.YtpnfmbeccjehiabGreatDoorW.PrintLast Go.Proofs.YtpnfmbeccjehiabGreatDoorW.PrintMore
attribute [local go_sem ↓] Go.wp_at_zero Go.wp_at_succ
/-- a rack and the reference's set of the same places, all in new memory -/
structure Both (B:Nat) (w:World) (rb k:Nat) (m:RK.S) (v:Value) (F:Nat->Prop) (sv:Value):Prop where
 rack:RackIs w rb k m v F
 set:SetIs w B sv k m
 rb_le:B<=rb
 F_le:∀c,F c->B<=c
 apart:∀q,sv.ownBlock=some q->q≠rb/\¬F q
theorem own_lt2 {w:World} {B e size n:Nat} {v:Value} {xs:List Value} (h:w.ownsRow B e size v n xs):∀q,v.ownBlock=some q->B<=q/\q < w.heap.size:=fun q hq=>h.lt q hq
theorem Both.below {B:Nat} {w w':World} {rb k:Nat} {m:RK.S} {v:Value} {F:Nat->Prop} {sv:Value} (h:Both B w rb k m v F sv) (hb:Below w.heap.size w w'):Both B w' rb k m v F sv :=
 ⟨h.rack.below hb,own_below h.set hb,h.rb_le,h.F_le,h.apart⟩
theorem set_nil (w:World) (B k:Nat):SetIs w B (.slice none 0 0) k (fun _=>false):=by
 unfold SetIs;rw[(RK.lst_emp (m:=fun _=>false) (fun x h=>by cases h)).2 (fun _=>rfl)];exact World.ownsRow_nil _ _ _ _
/-- Insert of a place, whether it is there or not -/
theorem insert_any2 (k rb:Nat) (m:RK.S) (v:Value) (F:Nat->Prop) (x:Nat) (w:World) (hk:k<=3) (h:RackIs w rb k m v F) (hx:x < RK.R k) :
  Calls Tryz.prog 14 #[.pointer (some ⟨rb,0,none⟩),.int .i64 x] w fun e w'=>e=.returned (.tuple #[.bool (!m x),.int .i64 0])/\∃v' F',RackIs w' rb k (RK.ins m x) v' F'/\BelP (fun c=>c=rb∨F c) w w'/\∀c,F' c->F c∨w.heap.size<=c:=by
 cases hm:m x with
 | true =>
  refine(insert_old k rb m v F x w hk h hx hm).mono ?_;rintro e w' ⟨rfl,hb⟩;refine⟨rfl,v,F,?_,(BelP.ofBelow hb).mono (fun _ _ h=>False.elim h),fun c hc=>.inl hc⟩;rw[RK.ins_same hm];exact h.below hb
 | false=>exact insert_new k rb m v F x w hk h hx hm
end Go.Proofs.YtpnfmbeccjehiabGreatDoor
