/- An argument that is a slice of structs of three ints. -/
import Derived.Test.YtpnfmbeccjehiabGreatDoorF2
import Derived.Deep.Slices
set_option maxRecDepth 100000
namespace Go.Proofs.YtpnfmbeccjehiabGreatDoor
open Go.ChangeShapes Go.WideShapes Go.ChangeAt Go.RowKit Go.Deep
/-- a slice whose elements are three ints each -/
def CI (w:World) (v:Value) (cs:List (Int × Int × Int)):Prop:=∃A c,v=.slice A cs.length c/\cs.length<=c/\cs.length<=9223372036854775807/\∀j t,cs[j]?=some t->∃a,A=some a/\w.cell? (a.add (j * 3))=some (.int .i64 t.1)/\w.cell? (a.add (j * 3+1))=some (.int .i64 t.2.1)/\w.cell? (a.add (j * 3+2))=some (.int .i64 t.2.2)
theorem cell_old {w w':World} (hb:Below w.heap.size w w') {a:Addr} {v:Value} (h:w.cell? a=some v):w'.cell? a=some v:=(hb.cell (block_lt_of_cell h)).trans h
theorem CI.below {w w':World} {v:Value} {cs:List (Int × Int × Int)} (h:CI w v cs) (hb:Below w.heap.size w w'):CI w' v cs:=by
 obtain⟨A,c,h1,h2,h3,h4⟩:=h;refine⟨A,c,h1,h2,h3,fun j t hj=>?_⟩;obtain⟨a,e,c0,c1,c2⟩:=h4 j t hj;exact⟨a,e,cell_old hb c0,cell_old hb c1,cell_old hb c2⟩
theorem CI.len {w:World} {v:Value} {cs:List (Int × Int × Int)} (h:CI w v cs):∃A c,v=.slice A cs.length c:=by
 obtain⟨A,c,h1,-⟩:=h;exact⟨A,c,h1⟩
theorem CI.cell {w:World} {A:Option Addr} {n c:Nat} {cs:List (Int × Int × Int)} (h:CI w (.slice A n c) cs) {j:Nat} {t:Int × Int × Int} (hj:cs[j]?=some t):∃a,A=some a/\w.cell? (a.add (j * 3))=some (.int .i64 t.1)/\w.cell? (a.add (j * 3+1))=some (.int .i64 t.2.1)/\w.cell? (a.add (j * 3+2))=some (.int .i64 t.2.2):=by
 obtain⟨A',c',h1,h2,h3,h4⟩:=h;cases h1;exact h4 j t hj
theorem CI_of {H:Type} {enc:TypeId × Value->H} {W:World} {base base':Nat} {v:Value} {d:DataW H} {ps:List MemPlace} (hv:Value.okWide Tryz.prog W .any base' 22 v) (h:DataW.Trod enc Tryz.prog W base (fun _=>true) true 22 v d ps) :
  ∃xs,CI W v xs/\∀x∈xs,(-9223372036854775808<=x.1/\x.1<=9223372036854775807)/\(-9223372036854775808<=x.2.1/\x.2.1<=9223372036854775807)/\-9223372036854775808<=x.2.2/\x.2.2<=9223372036854775807:=by
 obtain⟨a0,len,cap,rfl⟩:=Go.WideShapes.okWide_slice Tryz.underlying22 hv;obtain⟨fuel,hf⟩:=h;rcases open_slice Tryz.underlying22 hf with ⟨hcs,-⟩ | ⟨a,len',cap',m,n,D,Pl,hcs,-,hl,hm,hmm,-,hx⟩
 ·
  obtain⟨rfl,rfl,rfl⟩:a0=none/\len=0/\cap=0:=by simpa[Value.cells]using hcs
  exact⟨[],⟨none,0,rfl,Nat.le_refl _,by simp,fun j t h=>by simp at h⟩,fun x h=>by cases h⟩
 ·
  obtain⟨rfl,rfl,rfl⟩:a0=some a/\len=len'/\cap=cap':=by simpa[Value.cells]using hcs
  have hlm:len<=m:=by rw[hmm]; split <;> omega
  have hm':len<=9223372036854775807:=by unfold maxLen at hm; omega
  have each:∀i,i < len->∃q:Int × Int × Int,(W.cell? (a.add (i * 3))=some (.int .i64 q.1)/\W.cell? (a.add (i * 3+1))=some (.int .i64 q.2.1)/\W.cell? (a.add (i * 3+2))=some (.int .i64 q.2.2))/\((-9223372036854775808<=q.1/\q.1<=9223372036854775807)/\(-9223372036854775808<=q.2.1/\q.2.1<=9223372036854775807)/\-9223372036854775808<=q.2.2/\q.2.2<=9223372036854775807):=by
   intro i hi;obtain⟨cs',h1,h2⟩:=hx i (by omega);rw[show Tryz.prog.cellsOf 34=3 by kernel_rfl]at h1;obtain⟨-,hlen,hcell⟩:=World.cells?_some h1;obtain⟨c0,c1,c2,rfl⟩:∃c0 c1 c2,cs' = [c0,c1,c2]:=by
    match cs',hlen with
    | [c0,c1,c2],_=>exact⟨c0,c1,c2,rfl⟩
   obtain⟨y0,y1,y2,k,-,-,g0,g1,g2⟩:=trod_struct3 Tryz.underlying34 h2;rw[show Tryz.prog.cellsOf 3=1 by kernel_rfl]at g0 g1 g2;obtain⟨n0,e0,-,w0⟩:=DataW.trod_int Tryz.underlying3 (by simpa using g0);obtain⟨n1,e1,-,w1⟩:=DataW.trod_int Tryz.underlying3 (by simpa using g1);obtain⟨n2,e2,-,w2⟩:=DataW.trod_int Tryz.underlying3 (by simpa using g2);cases e0; cases e1; cases e2;have q0:=hcell 0 (by omega);have q1:=hcell 1 (by omega);have q2:=hcell 2 (by omega);rw[Go.Deep.add_add]at q0 q1 q2;exact⟨(n0,n1,n2),⟨by simpa using q0,by simpa using q1,by simpa using q2⟩,inI w0,inI w1,inI w2⟩
  obtain⟨f,hf⟩:=choose_lt each;refine⟨(List.range len).map f,⟨some a,cap,by simp,by simpa using hl,by simpa using hm',fun j t hj=>?_⟩,fun x hx=>?_⟩
  ·
   obtain⟨i,hi,rfl⟩:∃i,(List.range len)[j]?=some i/\f i=t:=by simpa using hj
   obtain⟨hi1,rfl⟩:j < len/\j=i:=by
    obtain⟨h1,h2⟩:=List.getElem?_eq_some_iff.1 hi;rw[List.getElem_range]at h2;exact⟨by simpa using h1,h2⟩
   exact⟨a,rfl,(hf j hi1).1⟩
  · obtain⟨i,hi,rfl⟩:=List.mem_map.1 hx;exact(hf i (List.mem_range.1 hi)).2
end Go.Proofs.YtpnfmbeccjehiabGreatDoor
