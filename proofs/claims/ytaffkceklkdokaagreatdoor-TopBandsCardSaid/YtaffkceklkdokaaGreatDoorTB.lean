/- Triples: parent, left, right, isTriple. -/
import Derived.Test.YtaffkceklkdokaaGreatDoorT4
import Derived.RangeFuncBox
namespace Go.Proofs.YtaffkceklkdokaaGreatDoor
open Go.RowKit
attribute [local go_sem ↓] Go.wp_at_zero Go.wp_at_succ
theorem keepc {W W1:World} {p:Addr} {v:Value} (hb:Below W.heap.size W W1) (h:W.cell? p=some v):W1.cell? p=some v:=(hb.cell (block_lt_of_cell h)).trans h
open Go.RowKit
attribute [local go_sem ↓] Go.wp_at_zero Go.wp_at_succ
theorem infoB8:(Tryz.prog.info? 5).map (fun i=>(i.zero,i.size,i.bytes))=some (some (.int .u8 0),1,1):=by kernel_rfl
/-- the package's first triple lies there -/
def First (w:World):Prop:=∃t q,w.heap[(0:Nat)]?=some (.cells #[.int .i64 1,.int .i64 2,.int .i64 5] t q)
theorem First.below {w w':World} (h:First w) (hb:Below w.heap.size w w'):First w':=h.imp fun _=>.imp fun _ h=>(hb.block _ (blk_lt h)).trans h
theorem First.cells {w:World} (h:First w):w.cell? ⟨0,0,none⟩=some (.int .i64 1)/\w.cell? ⟨0,1,none⟩=some (.int .i64 2)/\w.cell? ⟨0,2,none⟩=some (.int .i64 5)/\0 < w.heap.size:=by
 obtain⟨t,q,h⟩:=h;exact⟨cell_of_row w _ 0 _ _ _ h,cell_of_row w _ 1 _ _ _ h,cell_of_row w _ 2 _ _ _ h,blk_lt h⟩
theorem cell_one_new' {w:World} {k:Nat} {a:Value} {t:TypeId} (h:k=w.heap.size):∀j u,[a][j]?=some u->(w.alloc (.cells #[a] t)).cell? ((⟨k,0,none⟩:Addr).add j)=some u:=by subst h; exact cell_one_new w a t
end Go.Proofs.YtaffkceklkdokaaGreatDoor
