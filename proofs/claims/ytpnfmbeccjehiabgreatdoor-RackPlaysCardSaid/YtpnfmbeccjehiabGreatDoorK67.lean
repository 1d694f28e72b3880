/- A call on both sides, whatever its method and numbers; the rack's Order. -/
import Derived.Test.YtpnfmbeccjehiabGreatDoorK66
set_option maxHeartbeats 2000000
namespace Go.Proofs.YtpnfmbeccjehiabGreatDoor
open Go.RowKit Go.Proofs.YtpnfmbeccjehiabGreatDoorW.PrintWords Go.Proofs.YtpnfmbeccjehiabGreatDoorW.PrintLast Go.Proofs.YtpnfmbeccjehiabGreatDoorW.PrintMore
attribute [local go_sem ↓] Go.wp_at_zero Go.wp_at_succ
theorem nine {r:Int} (h:0<=r/\r < 9):r=0∨r=1∨r=2∨r=3∨r=4∨r=5∨r=6∨r=7∨r=8:=by omega
theorem u64_mod (op:Int):wrap64 ((IntKind.u64.wrap op).tmod 9)=op % 18446744073709551616 % 9:=by
 have e1:IntKind.u64.wrap op=op % 18446744073709551616:=by simp[IntKind.wrap,IntKind.signed,IntKind.bits]
 rw[e1,Int.tmod_eq_emod_of_nonneg (Int.emod_nonneg _ (by decide))];unfold wrap64;omega
theorem called_any {w0 w:World} (k rb:Nat) (m:RK.S) (sv:Value) (op x y:Int) (hk:k<=3) (h:Pair w0.heap.size w rb k m m sv) (h0:Below w0.heap.size w0 w) :
  Calls Tryz.prog 10 #[.pointer (some ⟨rb,0,none⟩),sv,.int .i64 (k:Int),.agg #[.int .i64 op,.int .i64 x,.int .i64 y]] w fun e w'=>∃sv' m',e=.returned (.tuple #[sv',.bool true])/\Pair w0.heap.size w' rb k m' m' sv'/\Below w0.heap.size w0 w':=by
 have e9:=u64_mod op;have h9:=nine (r:=op % 18446744073709551616 % 9) (by omega)
 by_cases hx:0<=x/\x < RK.R k
 ·
  obtain⟨n,rfl⟩:∃n:Nat,x=n:=⟨x.toNat,by omega⟩
  have hn:n < RK.R k:=by omega
  rcases h9 with hr | hr | hr | hr | hr | hr | hr | hr | hr
  · exact called_0 k rb m sv op y n hn hk h h0 (by rw[e9]; exact hr)
  · exact called_1 k rb m sv op y n hn hk h h0 (by rw[e9]; exact hr)
  · exact called_2 k rb m sv op y n hn hk h h0 (by rw[e9]; exact hr)
  · exact called_3 k rb m sv op y n hn hk h h0 (by rw[e9]; exact hr)
  · exact called_4 k rb m sv op y n hn hk h h0 (by rw[e9]; exact hr)
  · exact called_5 k rb m sv op y n hn hk h h0 (by rw[e9]; exact hr)
  · exact called_6 k rb m sv op y n hn hk h h0 (by rw[e9]; exact hr)
  · exact called_7 k rb m sv op y n hn hk h h0 (by rw[e9]; exact hr)
  · exact called_8 k rb m sv op y n hn hk h h0 (by rw[e9]; exact hr)
 rcases h9 with hr | hr | hr | hr | hr | hr | hr | hr | hr
 · exact called_0x k rb m sv op y x hx hk h h0 (by rw[e9]; exact hr)
 · exact called_1x k rb m sv op y x hx hk h h0 (by rw[e9]; exact hr)
 · exact called_2x k rb m sv op y x hx hk h h0 (by rw[e9]; exact hr)
 · exact called_3x k rb m sv op y x hx hk h h0 (by rw[e9]; exact hr)
 · exact called_4x k rb m sv op y x hx hk h h0 (by rw[e9]; exact hr)
 · exact called_5x k rb m sv op y x hx hk h h0 (by rw[e9]; exact hr)
 · exact called_6x k rb m sv op y x hx hk h h0 (by rw[e9]; exact hr)
 · exact called_7x k rb m sv op y x hx hk h h0 (by rw[e9]; exact hr)
 · exact called_8x k rb m sv op y x hx hk h h0 (by rw[e9]; exact hr)
theorem mine_order {B:Nat} {w:World} {rb k:Nat} {m:RK.S} (hk:k<=3) (h:Mine B w rb k m) :
  Calls Tryz.prog 9 #[.pointer (some ⟨rb,0,none⟩)] w fun e w'=>e=.returned (.int .i64 (k:Int))/\Below w.heap.size w w':=by
 obtain⟨v,F,h1,-,-⟩:=h;obtain⟨c0,c1⟩:=row2 h1.1;have HU:=Lib.hid (usable_ok k rb w c0);clear h1;go_enter Tryz.func9,Tryz.ntmps9;go_wp2_with fail;refine HU.out.mono ?_;rintro e w1 ⟨rfl,rfl⟩;go_wp2_with fail
 go_ret
 exact⟨rfl,Below.refl _ _⟩
end Go.Proofs.YtpnfmbeccjehiabGreatDoor
