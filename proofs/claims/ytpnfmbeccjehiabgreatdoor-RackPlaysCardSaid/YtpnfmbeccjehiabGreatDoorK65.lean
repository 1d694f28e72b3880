/- A rack beside a list, and a block of calls that no method touches; the reference's questions. -/
import Derived.Test.YtpnfmbeccjehiabGreatDoorK64
import Derived.Test.YtpnfmbeccjehiabGreatDoorZB
import Derived.Test.YtpnfmbeccjehiabGreatDoorK55
namespace Go.Proofs.YtpnfmbeccjehiabGreatDoor
open Go.RowKit Go.ChangeMaps Go.Proofs.YtpnfmbeccjehiabGreatDoorW.PrintWords Go.Proofs.YtpnfmbeccjehiabGreatDoorW.PrintLast Go.Proofs.YtpnfmbeccjehiabGreatDoorW.PrintMore
attribute [local go_sem ↓] Go.wp_at_zero Go.wp_at_succ
/-- what kind of block a tree owns -/
theorem Rep.kind {T:Ty}:∀(k:Nat) {w:World} {v:Value} {m:RK.S} {F:Nat->Prop},Rep T k w v m F->∀b,F b->(∃cs,w.heap[b]?=some (.cells cs T.r (0,0)))∨∃es c,w.heap[b]?=some (.map es c)
 | 0,_,_,_,_,h,b,hb=>absurd hb (h.2.1 b)
 | k+1,w,v,m,F,h,x,hx=>by
  obtain⟨h0,h1 | ⟨a,b,g,bm,sv,Fs,sp,Fp,h1,h2,h3,h4,h5,h6,h7,h8,h9,h10⟩⟩:=h
  · exact absurd hx (h1.2.2 x)
  ·
   rcases (h10 x).1 hx with rfl | rfl | h | ⟨s,h⟩
   · exact .inl ⟨_,h4⟩
   · obtain⟨es,c,hb,-⟩:=h5;exact .inr ⟨es,c,hb⟩
   · exact Rep.kind k h6 x h
   · exact Rep.kind k (h7 s (h8 s x h)) x h
/-- a block of another type is none of a rack's -/
theorem RackIs.off {w:World} {rb k:Nat} {m:RK.S} {v:Value} {F:Nat->Prop} (h:RackIs w rb k m v F) {g t:Nat} {cs:Array Value} (hg:w.heap[g]?=some (.cells cs t (0,0))) (h1:t≠ty.r) (h2:t≠44):g≠rb/\¬F g:=by
 refine⟨fun e=>?_,fun hF=>?_⟩
 · subst e;have h3:=h.1;rw[hg]at h3;simp at h3;exact h2 h3.2
 ·
  rcases Rep.kind k h.2.1 g hF with ⟨cs',h3⟩ | ⟨es,c,h3⟩
  · rw[hg]at h3;simp at h3;exact h1 h3.2
  · rw[hg]at h3;simp at h3
/-- Insert and Delete with a block that they leave alone -/
theorem pair_insert_by {w0 w:World} {rb k:Nat} {m m2:RK.S} {sv:Value} (hk:k<=3) (h:Pair w0.heap.size w rb k m m2 sv) (h0:Below w0.heap.size w0 w) {x:Nat} (hx:x < RK.R k) {g t:Nat} {cs:Array Value} (hg:w.heap[g]?=some (.cells cs t (0,0))) (ht1:t≠ty.r) (ht2:t≠44) :
  Calls Tryz.prog 14 #[.pointer (some ⟨rb,0,none⟩),.int .i64 x] w fun e w'=>e=.returned (.tuple #[.bool (!m x),.int .i64 0])/\Pair w0.heap.size w' rb k (RK.ins m x) m2 sv/\Below w0.heap.size w0 w'/\w'.heap[g]?=some (.cells cs t (0,0)):=by
 obtain⟨⟨v,F,h1,h2,h3,h4⟩,h5⟩:=h;have hoff:=h1.off hg ht1 ht2;refine(insert_any2 k rb m v F x w hk h1 hx).mono ?_;rintro e w' ⟨rfl,v',F',hR,hB,hF⟩;have hs:=h0.size;refine⟨rfl,⟨⟨v',F',hR,h2,fun c hc=>?_,fun q hq=>⟨(h4 q hq).1,fun h=>?_⟩⟩,own_belP h5 hB (fun q hq h=>?_)⟩,hB.below h0 hs (fun c hc=>?_),(hB.block g (blk_lt hg) (fun h=>?_)).trans hg⟩
 ·
  rcases hF c hc with h | h
  · exact h3 c h
  · omega
 ·
  rcases hF q h with h | h
  · exact(h4 q hq).2 h
  · have:=(own_lt2 h5 q hq).2; omega
 ·
  rcases h with h | h
  · exact(h4 q hq).1 h
  · exact(h4 q hq).2 h
 ·
  rcases hc with h | h
  · omega
  · exact h3 c h
 ·
  rcases h with h | h
  · exact hoff.1 h
  · exact hoff.2 h
theorem pair_delete_by {w0 w:World} {rb k:Nat} {m m2:RK.S} {sv:Value} (hk:k<=3) (h:Pair w0.heap.size w rb k m m2 sv) (h0:Below w0.heap.size w0 w) {x:Nat} (hx:x < RK.R k) {g t:Nat} {cs:Array Value} (hg:w.heap[g]?=some (.cells cs t (0,0))) (ht1:t≠ty.r) (ht2:t≠44) :
  Calls Tryz.prog 23 #[.pointer (some ⟨rb,0,none⟩),.int .i64 x] w fun e w'=>e=.returned (.tuple #[.bool (m x),.int .i64 0])/\Pair w0.heap.size w' rb k (RK.del m x) m2 sv/\Below w0.heap.size w0 w'/\w'.heap[g]?=some (.cells cs t (0,0)):=by
 obtain⟨⟨v,F,h1,h2,h3,h4⟩,h5⟩:=h;have hoff:=h1.off hg ht1 ht2;have hs:=h0.size;cases hm:m x with
 | true =>
  refine(delete_yes k rb m v F x w hk h1 hx hm).mono ?_;rintro e w' ⟨rfl,v',F',hR,hB,hF⟩;refine⟨rfl,⟨⟨v',F',hR,h2,fun c hc=>?_,fun q hq=>⟨(h4 q hq).1,fun h=>?_⟩⟩,own_belP h5 hB (fun q hq h=>?_)⟩,hB.below h0 hs (fun c hc=>?_),(hB.block g (blk_lt hg) (fun h=>?_)).trans hg⟩
  ·
   rcases hF c hc with h | h
   · exact h3 c h
   · omega
  ·
   rcases hF q h with h | h
   · exact(h4 q hq).2 h
   · have:=(own_lt2 h5 q hq).2; omega
  ·
   rcases h with h | h
   · exact(h4 q hq).1 h
   · exact(h4 q hq).2 h
  ·
   rcases hc with h | h
   · omega
   · exact h3 c h
  ·
   rcases h with h | h
   · exact hoff.1 h
   · exact hoff.2 h
 | false =>
  refine(delete_no k rb m v F x w hk h1 hx hm).mono ?_;rintro e w' ⟨rfl,hb⟩;have e1:RK.del m x=m:=RK.ext_iff fun y=>by
   rw[RK.del_iff];exact⟨fun h=>h.2,fun h=>⟨fun e=>(by rw[e,hm]at h; cases h),h⟩⟩
  rw[e1];exact⟨rfl,⟨⟨v,F,h1.below hb,h2,h3,h4⟩,own_below h5 hb⟩,bl_call h0 hb hs,(hb.block g (blk_lt hg)).trans hg⟩
theorem mine_out {B:Nat} {w:World} {rb k:Nat} {m:RK.S} (hk:k<=3) (h:Mine B w rb k m) {x:Int} (hx:¬(0<=x/\x < RK.R k)) :
  (Calls Tryz.prog 14 #[.pointer (some ⟨rb,0,none⟩),.int .i64 x] w fun e w'=>e=.returned (.tuple #[.bool false,.int .i64 2])/\Below w.heap.size w w') /\
  (Calls Tryz.prog 23 #[.pointer (some ⟨rb,0,none⟩),.int .i64 x] w fun e w'=>e=.returned (.tuple #[.bool false,.int .i64 2])/\Below w.heap.size w w') /\
  (Calls Tryz.prog 25 #[.pointer (some ⟨rb,0,none⟩),.int .i64 x] w fun e w'=>e=.returned (.tuple #[.bool false,.int .i64 2])/\Below w.heap.size w w') /\
  (Calls Tryz.prog 15 #[.pointer (some ⟨rb,0,none⟩),.int .i64 x] w fun e w'=>e=.returned (.tuple #[.int .i64 0,.int .i64 2])/\Below w.heap.size w w') /\
  (Calls Tryz.prog 32 #[.pointer (some ⟨rb,0,none⟩),.int .i64 x] w fun e w'=>e=.returned (.tuple #[.int .i64 0,.int .i64 2])/\Below w.heap.size w w') /\
  (Calls Tryz.prog 33 #[.pointer (some ⟨rb,0,none⟩),.int .i64 x] w fun e w'=>e=.returned (.tuple #[.int .i64 0,.int .i64 2])/\Below w.heap.size w w'):=by
 obtain⟨v,F,h1,-,-⟩:=h;exact⟨insert_out k rb m v F x w hk h1 hx,delete_out k rb m v F x w hk h1 hx,has_out k rb m v F x w hk h1 hx,next_out k rb m v F x w hk h1 hx,before_out k rb m v F x w hk h1 hx,work_out k rb m v F x w hk h1 hx⟩
theorem mine_work {B:Nat} {w:World} {rb k:Nat} {m:RK.S} (hk:k<=3) (h:Mine B w rb k m) {x:Nat} (hx:x < RK.R k) :
  Calls Tryz.prog 33 #[.pointer (some ⟨rb,0,none⟩),.int .i64 x] w fun e w'=>e=.returned (.tuple #[.int .i64 (RK.wk k m x:Int),.int .i64 0])/\Below w.heap.size w w':=by
 obtain⟨v,F,h1,-,-⟩:=h;exact work_in k rb m v F x w hk h1 hx
theorem mine_count {B:Nat} {w:World} {rb k:Nat} {m:RK.S} (hk:k<=3) (h:Mine B w rb k m) {lo hi:Nat} (hlo:lo < RK.R k) (hhi:hi < RK.R k) :
  Calls Tryz.prog 35 #[.pointer (some ⟨rb,0,none⟩),.int .i64 lo,.int .i64 hi] w fun e w'=>e=.returned (.tuple #[.int .i64 (RK.cn m lo (hi+1-lo):Nat),.int .i64 0])/\Below w.heap.size w w':=by
 obtain⟨v,F,h1,-,-⟩:=h;exact count_in k rb m v F lo hi w hk h1 hlo hhi
theorem mine_count_out {B:Nat} {w:World} {rb k:Nat} {m:RK.S} (hk:k<=3) (h:Mine B w rb k m) {x y:Int} (hx:¬((0<=x/\x < RK.R k)/\(0<=y/\y < RK.R k))) :
  Calls Tryz.prog 35 #[.pointer (some ⟨rb,0,none⟩),.int .i64 x,.int .i64 y] w fun e w'=>e=.returned (.tuple #[.int .i64 0,.int .i64 2])/\Below w.heap.size w w':=by
 obtain⟨v,F,h1,-,-⟩:=h;exact count_out k rb m v F x y w hk h1 hx
/-- the reference's questions of any number -/
theorem refNext (v:Value) (L:List Nat) (x:Int) (w:World) (hv:LI w v (zs L)) (hL:L.length<=1000) :
  Calls Tryz.prog 27 #[v,.int .i64 x] w fun e w'=>e=.returned (.tuple #[.int .i64 (nextL L x).1,.bool (nextL L x).2])/\Below w.heap.size w w':=by
 obtain⟨A,c,rfl,h1,h2⟩:=hv;exact(PR.remouldref07_Next.calls _ A c (zs L) x _ _ w h2 h1 (next_ev L x hL)).mono fun _ _ h=>⟨h.1,h.2.below⟩
theorem refBefore (v:Value) (L:List Nat) (x:Int) (w:World) (hv:LI w v (zs L)) (hL:L.length<=1000) :
  Calls Tryz.prog 30 #[v,.int .i64 x] w fun e w'=>e=.returned (.tuple #[.int .i64 (befL L.reverse x).1,.bool (befL L.reverse x).2])/\Below w.heap.size w w':=by
 obtain⟨A,c,rfl,h1,h2⟩:=hv;exact(PR.remouldref07_Before.calls _ A c (zs L) x _ _ w h2 h1 (before_ev L x hL)).mono fun _ _ h=>⟨h.1,h.2.below⟩
theorem refCount (v:Value) (L:List Nat) (lo hi:Int) (w:World) (hv:LI w v (zs L)) (hL:L.length<=1000) :
  Calls Tryz.prog 36 #[v,.int .i64 lo,.int .i64 hi] w fun e w'=>e=.returned (.int .i64 ((cntL L lo hi:Nat):Int))/\Below w.heap.size w w':=by
 obtain⟨A,c,rfl,h1,h2⟩:=hv;exact(PR.remouldref07_Count.calls _ A c (zs L) lo hi _ w h2 h1 (count_ev L lo hi hL)).mono fun _ _ h=>⟨h.1,h.2.below⟩
theorem refWork (k:Nat) (m:RK.S) (v:Value) (x:Nat) (w:World) (hk:k<=3) (hs:RK.Supp k m) (hx:x < RK.R k) (hv:LI w v (zs (RK.lst k m))) :
  Calls Tryz.prog 34 #[v,.int .i64 (k:Int),.int .i64 (x:Int)] w fun e w'=>e=.returned (.int .i64 ((RK.wk k m x:Nat):Int))/\Below w.heap.size w w':=by
 obtain⟨A,c,rfl,h1,h2⟩:=hv;obtain⟨K,h⟩:=work_f k hk;exact(PR.remouldref07_Work.calls K A c (zs (RK.lst k m)) k x _ w h2 h1 (h m hs x hx K (Nat.le_refl _))).mono fun _ _ h=>⟨h.1,h.2⟩
theorem agrees_any (n e:Int) (pl:Bool) (want:Int) (ok:Bool) (w:World) (h:if pl=true then (if ok=true then n=want/\e=0 else n=0/\e=6) else n=0/\e=2) :
  Calls Tryz.prog 28 #[.int .i64 n,.int .i64 e,.bool pl,.int .i64 want,.bool ok] w fun e w'=>e=.returned (.bool true)/\Below w.heap.size w w':=by
 refine(PR.remouldlaw07_agrees.calls n e pl want ok true w ?_).mono fun _ _ h=>⟨h.1,h.2.below⟩
 unfold PR.remouldlaw07_agrees.f;cases pl <;> cases ok <;> simp at h <;> obtain⟨rfl,rfl⟩:=h <;> simp
theorem turned_any (is:Bool) (e:Int) (pl want:Bool) (w:World) (h:if pl=true then is=want/\e=0 else is=false/\e=2) :
  Calls Tryz.prog 20 #[.bool is,.int .i64 e,.bool pl,.bool want] w fun e w'=>e=.returned (.bool true)/\Below w.heap.size w w':=by
 refine(PR.remouldlaw07_turned.calls is e pl want true w ?_).mono fun _ _ h=>⟨h.1,h.2.below⟩
 unfold PR.remouldlaw07_turned.f;cases pl <;> simp at h <;> obtain⟨rfl,rfl⟩:=h <;> simp
end Go.Proofs.YtpnfmbeccjehiabGreatDoor
