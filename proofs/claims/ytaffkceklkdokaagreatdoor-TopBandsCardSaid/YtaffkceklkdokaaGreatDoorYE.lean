/- demand returns where something is so, and panics with an error where it is not. -/
import Derived.Test.YtaffkceklkdokaaGreatDoorG1
import Derived.Test.YtaffkceklkdokaaGreatDoorYD
import Derived.WalkLawsBesides
set_option maxHeartbeats 1000000
namespace Go.Proofs.YtaffkceklkdokaaGreatDoor.GG
open Go.RowKit
attribute [local go_sem ↓] Go.wp_at_zero Go.wp_at_succ
/-- the powers lie in a block -/
def Pows (w:World) (g:Nat):Prop:=w.heap[g]?=some (.cells (fl ((List.range 81).map GM.pt)).toArray 84 (0,0))
theorem Pows.cells {w:World} {g:Nat} (h:Pows w g) {m:Nat} (hm:m < 81) :
  w.cell? ⟨g,m * 2,none⟩=some (.int .i64 (GM.pt m).1)/\w.cell? ⟨g,m * 2+1,none⟩=some (.int .i64 (GM.pt m).2):=by
 have hl:((List.range 81).map GM.pt)[m]?=some (GM.pt m):=by simp[hm]
 unfold Pows at h;rw[row_n h,row_n h];exact⟨fl_get0 _ m _ hl,fl_get1 _ m _ hl⟩
theorem of_any (g:Nat) (k:Int) (m:Nat) (w:World) (h:Pows w g) (hk:40+k=m) (hm:m < 81) :
  Calls Tryz.prog 35 #[.pointer (some ⟨g,0,none⟩),.int .i64 k] w fun e w'=>e=.returned (.agg #[.int .i64 (GM.pt m).1,.int .i64 (GM.pt m).2])/\Below w.heap.size w w':=by
 obtain⟨c0,c1⟩:=h.cells hm;have hg:=blk_lt h;clear h;have hne:¬g=w.heap.size:=by omega
 have hne':¬w.heap.size=g:=by omega
 go_enter Tryz.func35,Tryz.ntmps35;go_wp2;exact bodyPost_ret (v:=.agg #[.int .i64 (GM.pt m).1,.int .i64 (GM.pt m).2]) (by simp[results,Tryz.results35,go_sem, *]) rfl ⟨rfl,(by repeat (first | exact Below.refl _ _ | exact Nat.le_refl _ | refine Below.alloc ?_ ?_ _ | refine Below.setCell ?_ ?_ _ | refine Below.drew ?_ | refine bl_drewN ?_ _ | (assumption) | refine bl_call ?_ (by assumption) ?_ | omega | (simp <;> omega)))⟩
theorem pows_size:(fl ((List.range 81).map GM.pt)).toArray.size=162:=by simp[fl_length]
theorem pows_one:(fl ((List.range 81).map GM.pt)).toArray.all (·.oneCell')=true:=by
 rw[Array.all_eq_true_iff_forall_mem];intro u hu;exact fl_one _ u (by simpa using hu)
theorem wpList_store_pows {ops:Array Oper} {rest:List Oper} {o:Oper} {a:Act} {w1:World} {Q:Exit->Act->World->Prop} (hgd:o.guard=none) (x y:Operand) (ho:o.op=.store 84 x y)
  (hx:a.eval x=.pointer (some ⟨w1.heap.size,0,none⟩)) (hy:a.eval y=.agg (fl ((List.range 81).map GM.pt)).toArray)
  (h:∀w2,Pows w2 w1.heap.size->Below w1.heap.size w1 w2->w1.heap.size < w2.heap.size->wpList Tryz.prog ops Q rest (a.put o.dst undef) w2) :
  wpList Tryz.prog ops Q (o :: rest) a (w1.alloc (.cells Tryz.zeroCells84 84)):=by
 refine wpList_store_row hgd 84 x y ho w1.heap.size _ hx hy 84 Tryz.zeroCells84 (blk_new _ _) (by rw[pows_size]; exact size75) (by rw[pows_size,zero75]; simp[fl_length]) pows_one ?_;refine h _ (setRow_heap _ _ _ _ _ _ (blk_new _ _)) (below_setRow ((Below.refl _ _).alloc (Nat.le_refl _) _) (Nat.le_refl _) _) (by simp)
end Go.Proofs.YtaffkceklkdokaaGreatDoor.GG
/- digits reads the digits of a part of a text, or panics. -/
namespace Go.Proofs.YtaffkceklkdokaaGreatDoor.GG
open Go.RowKit
attribute [local go_sem ↓] Go.wp_at_zero Go.wp_at_succ
theorem infoInt:(Tryz.prog.info? 3).map (fun i=>(i.zero,i.size,i.bytes))=some (some (.int .i64 0),1,8):=by kernel_rfl
theorem cell_one_new (w:World) (a:Value) (t:TypeId):∀j u,[a][j]?=some u->(w.alloc (.cells #[a] t)).cell? ((⟨w.heap.size,0,none⟩:Addr).add j)=some u:=by
 intro j u hj
 match j,hj with
 | 0,hj=>simp at hj; subst hj; simp[Addr.add]
 | j+1,hj=>simp at hj
theorem one_cell (x:Int):∀u∈[Value.int .i64 x],u.oneCell'=true:=by intro u hu; simp at hu; subst hu; rfl
end Go.Proofs.YtaffkceklkdokaaGreatDoor.GG
/- read returns the value of a text, or panics. -/
namespace Go.Proofs.YtaffkceklkdokaaGreatDoor.GG
open Go.RowKit
attribute [local go_sem ↓] Go.wp_at_zero Go.wp_at_succ
theorem own_mono {w:World} {B B' e size n:Nat} {v:Value} {xs:List Value} (h:w.ownsRow B e size v n xs) (hb:B'<=B):w.ownsRow B' e size v n xs:=by
 obtain⟨h1,h2⟩:=h;refine⟨h1,?_⟩;rcases h2 with h2 | ⟨g,cap,cur,a,b,c,d⟩
 · exact .inl h2
 · exact .inr ⟨g,cap,cur,a,by omega,c,d⟩
theorem pt_bd:∀n:Fin 82,-200000000<=(GM.pt n).1/\(GM.pt n).1<=200000000/\-200000000<=(GM.pt n).2/\(GM.pt n).2<=200000000:=by decide +kernel
theorem own_belX {w w':World} {B e size n g cap:Nat} {bs:List Nat} {xs:List Value} (h:w.ownsRow B e size (.slice (some ⟨g,0,none⟩) n cap) n xs) (hX:BelX bs w w') (hg:g ∉ bs):w'.ownsRow B e size (.slice (some ⟨g,0,none⟩) n cap) n xs:=by
 obtain⟨h1,h2⟩:=h;refine⟨h1,?_⟩;rcases h2 with ⟨h2,h3⟩ | ⟨g',cap',cur,a,b,c,d⟩
 · cases h2
 · simp only[Value.slice.injEq,Option.some.injEq,Addr.mk.injEq,and_true,true_and]at a;obtain⟨rfl,rfl⟩:=a;exact .inr ⟨g,cap,cur,rfl,b,(hX.block _ (blk_lt c) hg).trans c,d⟩
end Go.Proofs.YtaffkceklkdokaaGreatDoor.GG
