/- The machine of the patterns aa, ab, bb: what its worlds look like. -/
import Derived.Test.YtaffkceklkdokaaGreatDoorTL
import Derived.Test.YtaffkceklkdokaaGreatDoorTG
import Derived.Laws.RangeString
import Derived.Carry
set_option maxRecDepth 100000
set_option maxHeartbeats 4000000
namespace Go.Proofs.YtaffkceklkdokaaGreatDoor
open Go.RowKit Go.ChangeMaps
/-- but for one block, what was there is as it was -/
def OneCh (W W':World) (b:Nat):Prop:=∀k o,W.heap[k]?=some o->k≠b->W'.heap[k]?=some o
theorem one_below {W W':World} (h:Below W.heap.size W W') (b:Nat):OneCh W W' b:=fun k _ ho _=>(h.block k (blk_lt ho)).trans ho
theorem one_alloc (W:World) (o:Obj) (b:Nat):OneCh W (W.alloc o) b:=fun _ _ ho _=>blk_old ho
theorem one_set (W:World) (r:Nat) (o:Obj):OneCh W (setBlock W r o) r:=fun _ _ ho hne=>(sb_other hne).trans ho
theorem one_store (W:World) (b j:Nat) (v:Value):OneCh W (W.setCell ⟨b,j,none⟩ v) b:=fun _ _ ho hne=>(heap_setCell_other _ _ _ _ hne).trans ho
theorem one_grown {W W':World} {v:Value} {b:Nat} (h:W.grownBy W' v.ownBlock) (hb:∀k,v.ownBlock=some k->k=b):OneCh W W' b:=fun k _ ho hne=>(h.block k (blk_lt ho) (fun e=>hne (hb k e.symm))).trans ho
theorem own_one {W W':World} {B e size n b:Nat} {v:Value} {xs:List Value} (h:W.ownsRow B e size v n xs) (hc:OneCh W W' b) (hb:b < B∨∀cur q,W.heap[b]?≠some (.cells cur e q)):W'.ownsRow B e size v n xs:=by
 refine⟨h.1,?_⟩;rcases h.2 with hn | ⟨g,cap,cur,rfl,hg,hgg,rest⟩
 · exact .inl hn
 ·
  refine .inr ⟨g,cap,cur,rfl,hg,hc g _ hgg ?_,rest⟩;rintro rfl;rcases hb with hb | hb
  · omega
  · exact hb _ _ hgg
theorem own_cell {W:World} {B e n g cap:Nat} {xs:List Value} (h:W.ownsRow B e 1 (.slice (some ⟨g,0,none⟩) n cap) n xs) {j:Nat} {u:Value} (hj:xs[j]?=some u):W.cell? ⟨g,j,none⟩=some u:=by
 obtain⟨h1,h2⟩:=h;rcases h2 with ⟨hn,-⟩ | ⟨g',cap',cur,e1,-,e3,-,-,-,e4⟩
 · exact absurd hn (by simp)
 ·
  obtain⟨rfl,rfl⟩:g=g'/\cap=cap':=by simpa using e1
  rw[cell_of_row W g j _ _ _ e3];have h3:cur.toList[j]?=some u:=by
   rw[<-e4,List.getElem?_take]at hj
   split at hj
   · exact hj
   · cases hj
  simpa using h3
theorem own_blk {W:World} {B e n g cap:Nat} {xs:List Value} (h:W.ownsRow B e 1 (.slice (some ⟨g,0,none⟩) n cap) n xs):∃cur,W.heap[g]?=some (.cells cur e (0,0))/\cur.toList.take (n * 1)=xs/\B<=g:=by
 obtain⟨h1,h2⟩:=h;rcases h2 with ⟨hn,-⟩ | ⟨g',cap',cur,e1,e2,e3,-,-,-,e4⟩
 · exact absurd hn (by simp)
 ·
  obtain⟨rfl,rfl⟩:g=g'/\cap=cap':=by simpa using e1
  exact⟨cur,e3,e4,e2⟩
/-- the rows that stand in the machine -/
def Nx (B:Nat) (W:World) (rb:Nat) (nv:Value) (rows:List (Int × Int)):Prop :=
 ∃rvs,W.ownsRow B 22 1 nv rows.length rvs/\∀(k:Nat) (p:Int × Int),rows[k]?=some p->∃gk ck cur,rvs[k]?=some (Value.slice (some ⟨gk,0,none⟩) 2 ck)/\gk < rb/\W.heap[gk]?=some (.cells cur 3 (0,0))/\cur[0]?=some (.int .i64 p.1)/\cur[1]?=some (.int .i64 p.2)
theorem Nx.one {B rb b:Nat} {W W':World} {nv:Value} {rows:List (Int × Int)} (h:Nx B W rb nv rows) (hc:OneCh W W' b) (h1:∀cur q,W.heap[b]?≠some (.cells cur 22 q)) (h2:rb<=b∨∀cur q,W.heap[b]?≠some (.cells cur 3 q)):Nx B W' rb nv rows:=by
 obtain⟨rvs,ho,hr⟩:=h;refine⟨rvs,own_one ho hc (.inr h1),fun k p hk=>?_⟩;obtain⟨gk,ck,cur,e1,e2,e3,e4⟩:=hr k p hk;refine⟨gk,ck,cur,e1,e2,hc gk _ e3 ?_,e4⟩;rintro rfl;rcases h2 with h2 | h2
 · omega
 · exact h2 _ _ e3
theorem Nx.mono {B rb rb':Nat} {W:World} {nv:Value} {rows:List (Int × Int)} (h:Nx B W rb nv rows) (hb:rb<=rb'):Nx B W rb' nv rows:=by
 obtain⟨rvs,ho,hr⟩:=h;refine⟨rvs,ho,fun k p hk=>?_⟩;obtain⟨gk,ck,cur,e1,e2,e3⟩:=hr k p hk;exact⟨gk,ck,cur,e1,by omega,e3⟩
def SV:Nat->List Value
 | 1=>[.string ⟨#[]⟩]
 | 2=>[.string ⟨#[]⟩,.string ⟨#[97]⟩]
 | 3=>[.string ⟨#[]⟩,.string ⟨#[97]⟩,.string ⟨#[98]⟩]
 | _=>[.string ⟨#[]⟩,.string ⟨#[97]⟩,.string ⟨#[98]⟩,.string ⟨#[98,97]⟩]
def ME:Nat->Array MapEntry
 | 1=>#[⟨.string ⟨#[]⟩,.int .i64 0,0⟩]
 | 2=>#[⟨.string ⟨#[]⟩,.int .i64 0,0⟩,⟨.string ⟨#[97]⟩,.int .i64 1,1⟩]
 | 3=>#[⟨.string ⟨#[]⟩,.int .i64 0,0⟩,⟨.string ⟨#[97]⟩,.int .i64 1,1⟩,⟨.string ⟨#[98]⟩,.int .i64 2,2⟩]
 | _=>#[⟨.string ⟨#[]⟩,.int .i64 0,0⟩,⟨.string ⟨#[97]⟩,.int .i64 1,1⟩,⟨.string ⟨#[98]⟩,.int .i64 2,2⟩,⟨.string ⟨#[98,97]⟩,.int .i64 3,3⟩]
abbrev MaV (g n cs:Nat) (nv:Value):Array Value:=#[.int .i64 2,.slice (some ⟨g,0,none⟩) n cs,nv]
structure NM (w W:World) (rb g cs n:Nat) (nv:Value) (rows:List (Int × Int)):Prop where
 mach:W.heap[w.heap.size+1]?=some (.cells (MaV g n cs nv) 200 (0,0))
 own:W.ownsRow w.heap.size 9 1 (.slice (some ⟨g,0,none⟩) n cs) n (SV n)
 mp:W.heap[w.heap.size+1+1]?=some (.map (ME n) n)
 nx:Nx w.heap.size W rb nv rows
 bel:Below w.heap.size w W
/-- an object that is none of the machine's -/
def Alien (W:World) (rb b:Nat):Prop:=W.heap[b]?=none∨(∃s p,W.heap[b]?=some (.stringIter s p))∨(rb<=b/\∃cur q,W.heap[b]?=some (.cells cur 3 q))
theorem NM.one {w W W':World} {rb g cs n b:Nat} {nv:Value} {rows:List (Int × Int)} (h:NM w W rb g cs n nv rows) (hc:OneCh W W' b) (ha:Alien W rb b) (hB:Below w.heap.size w W'):NM w W' rb g cs n nv rows:=by
 obtain⟨h1,h2,h3,h4,h5⟩:=h;have k1:∀o,W.heap[b]?=some o->(∀s p,o≠.stringIter s p)->(∀cur q,o≠.cells cur 3 q)->False:=by
  intro o ho n1 n2;rcases ha with ha | ⟨s,p,ha⟩ | ⟨-,cur,q,ha⟩
  · rw[ha]at ho; cases ho
  · rw[ha]at ho; exact n1 _ _ (Option.some.inj ho).symm
  · rw[ha]at ho; exact n2 _ _ (Option.some.inj ho).symm
 refine⟨hc _ _ h1 fun e=>k1 _ (by rw[<-e]; exact h1) (fun _ _ h=>by cases h) (fun _ _ h=>by simp at h),own_one h2 hc (.inr fun cur q h=>k1 _ h (fun _ _ h=>by cases h) (fun _ _ h=>by simp at h)),
  hc _ _ h3 fun e=>k1 _ (by rw[<-e]; exact h3) (fun _ _ h=>by cases h) (fun _ _ h=>by cases h),h4.one hc (fun cur q h=>k1 _ h (fun _ _ h=>by cases h) (fun _ _ h=>by simp at h)) ?_,hB⟩
 rcases ha with ha | ⟨s,p,ha⟩ | ⟨hle,-⟩
 · exact .inr fun cur q h=>by rw[ha]at h; cases h
 · exact .inr fun cur q h=>by rw[ha]at h; cases h
 · exact .inl hle
/-- iterators and rows of ints stay -/
def KeepTy (W W':World):Prop:=∀(k:Nat) (o:Obj),W.heap[k]?=some o->((∃s p,o=.stringIter s p)∨(∃cur,o=.cells cur 3 (0,0)))->W'.heap[k]?=some o
theorem KeepTy.own {W W':World} (h:KeepTy W W') {B size n:Nat} {v:Value} {xs:List Value} (ho:W.ownsRow B 3 size v n xs):W'.ownsRow B 3 size v n xs:=by
 refine⟨ho.1,?_⟩;rcases ho.2 with hn | ⟨g,cap,cur,rfl,hg,hgg,rest⟩
 · exact .inl hn
 · exact .inr ⟨g,cap,cur,rfl,hg,h g _ hgg (.inr ⟨_,rfl⟩),rest⟩
theorem NM.push {w W W4:World} {q g cs n g4 cs4:Nat} {nv:Value} {rows:List (Int × Int)} {sn:ByteArray} (h:NM w W q g cs n nv rows) (hn:SV n ++ [.string sn]=SV (n+1))
  (hown:W4.ownsRow w.heap.size 9 1 (.slice (some ⟨g4,0,none⟩) (n+1) cs4) (n+1) (SV n ++ [.string sn]))
  (hgrow:((setBlock W (w.heap.size+1+1) (.map (ME (n+1)) (n+1))).alloc (.cells #[.string sn] 9)).grownBy W4 (some g)) :
  W4.heap[w.heap.size+1]?=some (.cells (MaV g n cs nv) 200 (0,0))/\NM w (W4.setCell ⟨w.heap.size+1,1,none⟩ (.slice (some ⟨g4,0,none⟩) (n+1) cs4)) q g4 cs4 (n+1) nv rows /\
   KeepTy W (W4.setCell ⟨w.heap.size+1,1,none⟩ (.slice (some ⟨g4,0,none⟩) (n+1) cs4))/\W.heap.size<=W4.heap.size:=by
 obtain⟨h1,h2,h3,h4,h5⟩:=h;obtain⟨cur,hcur,-,hgB⟩:=own_blk h2;rw[hn]at hown;obtain⟨W3,hW3⟩:∃W3,W3=setBlock W (w.heap.size+1+1) (.map (ME (n+1)) (n+1)):=⟨_,rfl⟩
 rw[<-hW3]at hgrow;have hz3:W3.heap.size=W.heap.size:=by rw[hW3]; simp[setBlock]
 have one3:OneCh W W3 (w.heap.size+1+1):=by rw[hW3]; exact one_set _ _ _
 have hne1:w.heap.size+1≠g:=fun e=>by rw[e]at h1; rw[h1]at hcur; simp at hcur
 have hne2:w.heap.size+1+1≠g:=fun e=>by rw[e]at h3; rw[h3]at hcur; simp at hcur
 have hcur3:W3.heap[g]?=some (.cells cur 9 (0,0)):=one3 _ _ hcur (Ne.symm hne2);have one4:OneCh (W3.alloc (.cells #[.string sn] 9)) W4 g:=fun k o ho hne=>(hgrow.block k (blk_lt ho) (fun e=>hne (by simpa using e))).trans ho;have m4:W4.heap[w.heap.size+1]?=some (.cells (MaV g n cs nv) 200 (0,0)):=one4 _ _ (blk_old (one3 _ _ h1 (by omega))) hne1;have p4:W4.heap[w.heap.size+1+1]?=some (.map (ME (n+1)) (n+1)):=one4 _ _ (blk_old (by rw[hW3]; exact sb_new h3)) hne2;have B3:Below w.heap.size w W3:=by rw[hW3]; exact sb_below _ h5 (by omega)
 have B4:Below w.heap.size w W4:=Below.grown (B3.alloc B3.size _) hgrow (by have:=B3.size; simp; omega) (fun x hx=>Nat.le_trans hgB (Nat.le_of_eq (Option.some.inj hx)));refine⟨m4,⟨?_,?_,?_,?_,?_⟩,?_,?_⟩
 · exact(blk_setI 1 _ m4).trans rfl
 · exact own_one hown (one_store _ _ _ _) (.inr fun cur qq h=>by rw[m4]at h; simp at h)
 · exact one_store _ _ _ _ _ _ p4 (by omega)
 · have x3:Nx w.heap.size W3 q nv rows:=h4.one one3 (fun cur qq h=>by rw[h3]at h; cases h) (.inr fun cur qq h=>by rw[h3]at h; cases h);have x3':=x3.one (one_alloc W3 (.cells #[.string sn] 9) W3.heap.size) (fun cur qq h=>by simp at h) (.inr fun cur qq h=>by simp at h);have x4:=x3'.one one4 (fun cur qq h=>by rw[blk_old hcur3]at h; simp at h) (.inr fun cur qq h=>by rw[blk_old hcur3]at h; simp at h);exact x4.one (one_store _ _ _ _) (fun cur qq h=>by rw[m4]at h; simp at h) (.inr fun cur qq h=>by rw[m4]at h; simp at h)
 · exact B4.setCell (p:=⟨w.heap.size+1,1,none⟩) (by show w.heap.size<=w.heap.size+1; omega) _
 ·
  intro k o ho hk;have n1:k≠w.heap.size+1+1:=by
   rintro rfl;rw[h3]at ho;obtain rfl:=Option.some.inj ho;rcases hk with ⟨s,p,hk⟩ | ⟨c,hk⟩ <;> cases hk
  have n2:k≠g:=by
   rintro rfl;rw[hcur]at ho;obtain rfl:=Option.some.inj ho;rcases hk with ⟨s,p,hk⟩ | ⟨c,hk⟩
   · cases hk
   · simp at hk
  have n3:k≠w.heap.size+1:=by
   rintro rfl;rw[h1]at ho;obtain rfl:=Option.some.inj ho;rcases hk with ⟨s,p,hk⟩ | ⟨c,hk⟩
   · cases hk
   · simp at hk
  exact one_store _ _ _ _ _ _ (one4 _ _ (blk_old (one3 _ _ ho n1)) n2) n3
 · have:=hgrow.size;simp at this;omega
theorem alien_new (W:World) (rb:Nat):Alien W rb W.heap.size:=.inl (by simp)
/-- a row has grown -/
theorem NM.rowed {w W W':World} {q g cs n:Nat} {nv v:Value} {rows:List (Int × Int)} {s:ByteArray} {p m:Nat} {xs:List Value} (h:NM w W q g cs n nv rows) (hit:W.heap[q]?=some (.stringIter s p)) (x:Value)
  (hrow:W.ownsRow q 3 1 v m xs) (hg:(W.alloc (.cells #[x] 3)).grownBy W' v.ownBlock) (hq:w.heap.size<=q):NM w W' q g cs n nv rows/\W'.heap[q]?=some (.stringIter s p):=by
 have hA:NM w (W.alloc (.cells #[x] 3)) q g cs n nv rows:=h.one (one_alloc _ _ W.heap.size) (alien_new _ _) (h.bel.alloc h.bel.size _);rcases hrow.2 with ⟨rfl,-⟩ | ⟨gk,cap,cur,rfl,hge,hgg,-⟩
 · have h1:OneCh (W.alloc (.cells #[x] 3)) W' (W.alloc (.cells #[x] 3)).heap.size:=one_grown (v:=.slice none 0 0) hg (fun k hk=>by cases hk);exact⟨hA.one h1 (alien_new _ _) (Below.grown hA.bel hg (by have:=h.bel.size; simp; omega) (fun k hk=>by cases hk)),h1 _ _ (blk_old hit) (by have:=blk_lt hit; simp; omega)⟩
 · have h1:OneCh (W.alloc (.cells #[x] 3)) W' gk:=one_grown (v:=.slice (some ⟨gk,0,none⟩) m cap) hg (fun k hk=>(Option.some.inj hk).symm);refine⟨hA.one h1 (.inr (.inr ⟨hge,cur,_,blk_old hgg⟩)) (Below.grown hA.bel hg (by have:=h.bel.size; simp; omega) (fun k hk=>Nat.le_trans hq (Nat.le_trans hge (Nat.le_of_eq (Option.some.inj hk))))),h1 _ _ (blk_old hit) ?_⟩;rintro rfl;rw[hit]at hgg;cases hgg
theorem NM.nextRow {w W W4:World} {q g cs n gk ck:Nat} {nv nv':Value} {rows:List (Int × Int)} {rvs:List Value} {a b:Int} (h:NM w W q g cs n nv rows) (hrv:W.ownsRow w.heap.size 22 1 nv rows.length rvs)
  (hent:∀(k:Nat) (p:Int × Int),rows[k]?=some p->∃gk ck cur,rvs[k]?=some (Value.slice (some ⟨gk,0,none⟩) 2 ck)/\gk < q/\W.heap[gk]?=some (.cells cur 3 (0,0))/\cur[0]?=some (.int .i64 p.1)/\cur[1]?=some (.int .i64 p.2))
  (hrow:W.ownsRow q 3 1 (.slice (some ⟨gk,0,none⟩) 2 ck) 2 [.int .i64 a,.int .i64 b])
  (hown:W4.ownsRow w.heap.size 22 1 nv' (rows.length+1) (rvs ++ [.slice (some ⟨gk,0,none⟩) 2 ck])) (hgrow:(W.alloc (.cells #[.slice (some ⟨gk,0,none⟩) 2 ck] 22)).grownBy W4 nv.ownBlock) :
  W4.heap[w.heap.size+1]?=some (.cells (MaV g n cs nv) 200 (0,0))/\NM w (W4.setCell ⟨w.heap.size+1,2,none⟩ nv') (W4.setCell ⟨w.heap.size+1,2,none⟩ nv').heap.size g cs n nv' (rows ++ [(a,b)]):=by
 obtain⟨h1,h2,h3,h4,h5⟩:=h;obtain⟨WA,hWA⟩:∃WA,WA=W.alloc (.cells #[.slice (some ⟨gk,0,none⟩) 2 ck] 22):=⟨_,rfl⟩
 rw[<-hWA]at hgrow;have oA:∀{k:Nat} {o:Obj},W.heap[k]?=some o->WA.heap[k]?=some o:=fun ho=>by rw[hWA]; exact blk_old ho
 have hzA:W.heap.size < WA.heap.size:=by rw[hWA]; simp
 obtain⟨bn,hc,ht,hbn⟩:∃bn,OneCh WA W4 bn/\(∀o,WA.heap[bn]?=some o->∃cur,o=.cells cur 22 (0,0))/\∀k,nv.ownBlock=some k->w.heap.size<=k:=by
  rcases hrv.2 with ⟨rfl,-⟩ | ⟨gn,cap,cur,rfl,hge,hgg,-⟩
  · exact⟨WA.heap.size,one_grown (v:=.slice none 0 0) hgrow (fun k hk=>by cases hk),fun o ho=>by simp at ho,fun k hk=>by cases hk⟩
  · refine⟨gn,one_grown (v:=.slice (some ⟨gn,0,none⟩) rows.length cap) hgrow (fun k hk=>(Option.some.inj hk).symm),fun o ho=>?_,fun k hk=>Nat.le_trans hge (Nat.le_of_eq (Option.some.inj hk))⟩;rw[oA hgg]at ho;exact⟨cur,(Option.some.inj ho).symm⟩
 have hn:∀{k:Nat} {o:Obj},W.heap[k]?=some o->(∀cur,o≠.cells cur 22 (0,0))->W4.heap[k]?=some o:=fun {k o} ho hne=>hc k o (oA ho) fun e=>by
  obtain⟨cur,rfl⟩:=ht o (by rw[<-e]; exact oA ho);exact hne cur rfl
 have m4:=hn h1 (fun cur h=>by simp at h);have BA:Below w.heap.size w WA:=by rw[hWA]; exact h5.alloc h5.size _
 have B4:Below w.heap.size w W4:=Below.grown BA hgrow BA.size hbn;obtain⟨W5,hW5⟩:∃W5,W5=W4.setCell ⟨w.heap.size+1,2,none⟩ nv':=⟨_,rfl⟩
 have hz5:W4.heap.size=W5.heap.size:=by rw[hW5]; simp[World.setCell]
 have hz4:=hgrow.size;rw[<-hW5];have h5k:∀{k:Nat} {o:Obj},W4.heap[k]?=some o->k≠w.heap.size+1->W5.heap[k]?=some o:=fun ho hne=>by rw[hW5]; exact one_store _ _ _ _ _ _ ho hne
 have hint:∀{k:Nat} {cur:Array Value},W.heap[k]?=some (.cells cur 3 (0,0))->W5.heap[k]?=some (.cells cur 3 (0,0)):=fun {k cur} ho=>h5k (hn ho (fun c h=>by simp at h)) (by
  rintro rfl;rw[h1]at ho;simp at ho)
 refine⟨m4,⟨?_,?_,?_,⟨rvs ++ [.slice (some ⟨gk,0,none⟩) 2 ck],?_,fun k p hk=>?_⟩,?_⟩⟩
 · rw[hW5]; exact(blk_setI 2 _ m4).trans rfl
 ·
  refine⟨h2.1,?_⟩;rcases h2.2 with ⟨hx,-⟩ | ⟨g',cap',cur,e1,e2,e3,e4⟩
  · exact absurd hx (by simp)
  · refine .inr ⟨g',cap',cur,e1,e2,h5k (hn e3 (fun c h=>by simp at h)) ?_,e4⟩;rintro rfl;rw[h1]at e3;simp at e3
 · exact h5k (hn h3 (fun c h=>by cases h)) (by omega)
 · rw[List.length_append,List.length_singleton];exact own_one hown (by rw[hW5]; exact one_store _ _ _ _:OneCh W4 W5 (w.heap.size+1)) (.inr fun cur qq h=>by rw[m4]at h; simp at h)
 ·
  have hl:rvs.length=rows.length:=by have:=hrv.1; omega
  rcases Nat.lt_or_ge k rows.length with hlt | hge
  · rw[List.getElem?_append_left hlt]at hk;obtain⟨gk',ck',cur,e1,e2,e3,e4⟩:=hent k p hk;exact⟨gk',ck',cur,by rw[List.getElem?_append_left (by omega)]; exact e1,by have:=blk_lt e3; omega,hint e3,e4⟩
  ·
   rw[List.getElem?_append_right hge]at hk;have hk0:k-rows.length=0:=by
    rcases Nat.eq_zero_or_pos (k-rows.length) with h | h
    · exact h
    · rw[List.getElem?_eq_none (by simp; omega)]at hk; cases hk
   rw[hk0]at hk;obtain rfl:(a,b)=p:=by simpa using hk
   obtain⟨-,hx | ⟨g',cap',cur,e1,-,e3,-,-,-,e4⟩⟩:=hrow
   · exact absurd hx.1 (by simp)
   ·
    obtain⟨rfl,rfl⟩:gk=g'/\ck=cap':=by simpa using e1
    have c0:cur.toList[0]?=some (.int .i64 a):=by
     have:=congrArg (·[0]?) e4
     simpa[List.getElem?_take]using this
    have c1:cur.toList[1]?=some (.int .i64 b):=by
     have:=congrArg (·[1]?) e4
     simpa[List.getElem?_take]using this
    exact⟨gk,ck,cur,by rw[List.getElem?_append_right (by omega),hl,hk0]; rfl,by have:=blk_lt e3; omega,hint e3,by simpa using c0,by simpa using c1⟩
 · rw[hW5]; exact B4.setCell (p:=⟨w.heap.size+1,2,none⟩) (by show w.heap.size<=w.heap.size+1; omega) _
theorem next_at {P:Program} {W:World} {r:Nat} {s:ByteArray} {pos:Nat} (ty:TypeId) (h:W.heap[r]?=some (.stringIter s pos)) (hp:pos < s.size) (ha:(s[pos]'hp).toNat < 128) :
  (Instr.next (.pointer (some ⟨r,0,none⟩)) true ty).run P W=.ok (.tuple #[.bool true,.int .i64 pos,.int .i32 (s[pos]'hp).toNat]) (setBlock W r (.stringIter s (pos+1))):=by
 simp only[Instr.next,getObj,setObj,Sem.run_bind,Sem.run,h,Result.andThen,hp,if_true,decode_ascii s pos hp ha];simp[goInt,setBlock]
theorem next_over {P:Program} {W:World} {r:Nat} {s:ByteArray} {pos:Nat} (ty:TypeId) (h:W.heap[r]?=some (.stringIter s pos)) (hp:¬pos < s.size) :
  (Instr.next (.pointer (some ⟨r,0,none⟩)) true ty).run P W=.ok (.tuple #[.bool false]) W:=by
 simp[Instr.next,getObj,Sem.run,h,hp]
open Go.RowKit Go.ChangeMaps
def oN:Nat->Nat
 | 0=>1 | 1=>3 | 2=>3 | _=>4
def oR:Nat->List (Int × Int)
 | 0=>[] | 1=>[(1,2)] | 2=>[(1,2),(-1,-1)] | 3=>[(1,2),(-1,-1),(3,-1)] | _=>[(1,2),(-1,-1),(3,-1),(-1,-1)]
/-- what is left of the letters -/
def itLeft (W:World) (q:Nat):Nat:=match W.heap[q]? with | some (.stringIter _ p)=>2-p | _=>0
theorem itLeft_at {W:World} {q p:Nat} {s:ByteArray} (h:W.heap[q]?=some (.stringIter s p)):itLeft W q=2-p:=by
 unfold itLeft;rw[h]
/-- states and row within a round -/
def iN:Nat->Nat->Nat
 | 0,0=>1 | 0,1=>2 | 0,_=>3 | 1,_=>3 | 2,0=>3 | 2,_=>4 | _,_=>4
def iR:Nat->Nat->List Int
 | 0,0=>[] | 0,1=>[1] | 0,_=>[1,2] | 1,0=>[] | 1,1=>[-1] | 1,_=>[-1,-1] | 2,0=>[] | 2,1=>[3] | 2,_=>[3,-1] | _,0=>[] | _,1=>[-1] | _,_=>[-1,-1]
def iV (l:List Int):List Value:=l.map (.int .i64)
theorem one_i (x:Int):∀u∈[Value.int .i64 x],u.oneCell'=true:=by intro u hu; simp at hu; subst hu; rfl
theorem one_s (x:ByteArray):∀u∈[Value.string x],u.oneCell'=true:=by intro u hu; simp at hu; subst hu; rfl
theorem one_sl (g n c:Nat):∀u∈[Value.slice (some ⟨g,0,none⟩) n c],u.oneCell'=true:=by intro u hu; simp at hu; subst hu; rfl
theorem infoStr:(Tryz.prog.info? 9).map (fun i=>(i.zero,i.size,i.bytes))=some (some (.string ⟨#[]⟩),1,16):=by kernel_rfl
theorem infoSli:(Tryz.prog.info? 22).map (fun i=>(i.zero,i.size,i.bytes))=some (some (.slice none 0 0),1,24):=by kernel_rfl
theorem cv97 (W:World):(convert 21 9 (.int .i32 97)).run Tryz.prog W=.ok (.string ⟨#[97]⟩) W:=by kernel_rfl
theorem cv98 (W:World):(convert 21 9 (.int .i32 98)).run Tryz.prog W=.ok (.string ⟨#[98]⟩) W:=by kernel_rfl
theorem mk_c (W:World) (e:Bool) (s:ByteArray):(Instr.checkKey e 10000 9 (.string s)).run Tryz.prog W=.ok () W:=by
 cases e <;> kernel_rfl
theorem mk_f0 (W:World):(Instr.findKey 9 (.string ⟨#[]⟩) (#[]:Array MapEntry).toList).run Tryz.prog W=.ok none W:=by kernel_rfl
theorem mk_f1 (W:World):(Instr.findKey 9 (.string ⟨#[97]⟩) (ME 1).toList).run Tryz.prog W=.ok none W:=by kernel_rfl
theorem mk_f2 (W:World):(Instr.findKey 9 (.string ⟨#[98]⟩) (ME 2).toList).run Tryz.prog W=.ok none W:=by kernel_rfl
theorem mk_f3 (W:World):(Instr.findKey 9 (.string ⟨#[98,97]⟩) (ME 3).toList).run Tryz.prog W=.ok none W:=by kernel_rfl
attribute [local go_sem ↓] Go.wp_at_zero Go.wp_at_succ
theorem newMachine_ok (sb cap:Nat) (w:World) (hM:MaxM w) (c0:w.cell? ⟨sb,0,none⟩=some (.string AA)) (c1:w.cell? ⟨sb,1,none⟩=some (.string AB)) (c2:w.cell? ⟨sb,2,none⟩=some (.string BB)) :
  Calls Tryz.prog 113 #[.int .i64 2,.slice (some ⟨sb,0,none⟩) 3 cap] w fun e w'=>∃g cs nv,e=.returned (.pointer (some ⟨w.heap.size+1,0,none⟩))/\NM w w' w'.heap.size g cs 4 nv [(1,2),(-1,-1),(3,-1),(-1,-1)]:=by
 have hmm:=@run_makeMap Tryz.prog;obtain⟨i0,hii,hz0,hz1,hz2⟩:=info_parts infoInt;obtain⟨j0,hjj,hy0,hy1,hy2⟩:=info_parts infoStr;obtain⟨l0,hll,hx0,hx1,hx2⟩:=info_parts infoSli;go_enter Tryz.func113,Tryz.ntmps113;go_wp2_with fail;obtain⟨W0,h0⟩:∃W0,W0=(((w.alloc (.cells #[.string ⟨#[]⟩] 9)).alloc (.cells #[.int .i64 2,.slice (some ⟨w.heap.size,0,none⟩) 1 1,.slice none 0 0] 200)).alloc (.map #[] 0)):=⟨_,rfl⟩
 rw[<-h0];have S0:W0.heap[w.heap.size]?=some (.cells #[.string ⟨#[]⟩] 9 (0,0)):=by rw[h0]; exact(by repeat (first | assumption | (with_reducible apply blk_set2) | (with_reducible apply blk_set1) | (with_reducible refine blk_far2 ?_ ?_; (first | omega | (simp; done) | (simp; omega))) | (with_reducible refine blk_far1 ?_ ?_; (first | omega | (simp; done) | (simp; omega))) | (with_reducible refine blk_new' _ _ ?_; (first | omega | (simp; done) | (simp; omega))) | (with_reducible refine blk_old ?_) | (with_reducible refine blk_drew ?_)))
 have R0:W0.heap[w.heap.size+1]?=some (.cells (MaV w.heap.size 1 1 (.slice none 0 0)) 200 (0,0)):=by rw[h0]; exact(by repeat (first | assumption | (with_reducible apply blk_set2) | (with_reducible apply blk_set1) | (with_reducible refine blk_far2 ?_ ?_; (first | omega | (simp; done) | (simp; omega))) | (with_reducible refine blk_far1 ?_ ?_; (first | omega | (simp; done) | (simp; omega))) | (with_reducible refine blk_new' _ _ ?_; (first | omega | (simp; done) | (simp; omega))) | (with_reducible refine blk_old ?_) | (with_reducible refine blk_drew ?_)))
 have M0:W0.heap[w.heap.size+1+1]?=some (.map #[] 0):=by rw[h0]; exact(by repeat (first | assumption | (with_reducible apply blk_set2) | (with_reducible apply blk_set1) | (with_reducible refine blk_far2 ?_ ?_; (first | omega | (simp; done) | (simp; omega))) | (with_reducible refine blk_far1 ?_ ?_; (first | omega | (simp; done) | (simp; omega))) | (with_reducible refine blk_new' _ _ ?_; (first | omega | (simp; done) | (simp; omega))) | (with_reducible refine blk_old ?_) | (with_reducible refine blk_drew ?_)))
 have B0:Below w.heap.size w W0:=by rw[h0]; exact(by repeat (first | exact Below.refl _ _ | exact Nat.le_refl _ | refine Below.alloc ?_ ?_ _ | refine Below.setCell ?_ ?_ _ | refine Below.drew ?_ | refine bl_drewN ?_ _ | (assumption) | refine bl_call ?_ (by assumption) ?_ | omega | (simp <;> omega)))
 clear h0;have hpt:(Instr.mapUpdate 201 (.map (some (w.heap.size+1+1))) (.string ⟨#[]⟩) (.int .i64 0)).run Tryz.prog W0=.ok () (setBlock W0 (w.heap.size+1+1) (.map (ME 1) 1)):=put_new M0 Tryz.underlying201 (mk_c W0 _ _) (mk_f0 W0);obtain⟨W1,h1⟩:∃W1,W1=setBlock W0 (w.heap.size+1+1) (.map (ME 1) 1):=⟨_,rfl⟩
 rw[<-h1]at hpt;have hNM:NM w W1 W1.heap.size w.heap.size 1 1 (.slice none 0 0) []:=by
  refine⟨?_,?_,?_,⟨[],World.ownsRow_nil _ _ _ _,fun k p h=>by simp at h⟩,?_⟩
  · rw[h1]; exact(sb_other (by omega)).trans R0
  · refine⟨rfl,.inr ⟨w.heap.size,1,#[.string ⟨#[]⟩],rfl,Nat.le_refl _,?_,Nat.le_refl _,by decide,rfl,rfl⟩⟩;rw[h1]; exact(sb_other (by omega)).trans S0
  · rw[h1]; exact sb_new M0
  · rw[h1]; exact sb_below _ B0 (by omega)
 have HNM:=Lib.hid hNM;have HM:=Lib.hid hM;have HC:=Lib.hid (And.intro c0 (And.intro c1 c2));clear c0 c1 c2 hNM h1 S0 R0 M0 B0 hM hmm;rw[hpt];simp only[Result.andThen,Oper.upon_skip];clear hpt;go_wp2;go_loopw [7] (fun x wr=>∃i:Nat,x=.int .i64 i/\i<=4/\∃g cs nv,NM w wr wr.heap.size g cs (oN i) nv (oR i)) (fun x _=>4-(intOf x).toNat)
 case atStart=>exact⟨0,rfl,by decide,_,_,_,HNM.out⟩
 case round =>
  clear HNM;obtain⟨i,rfl,hi,g,cs,nv,hNM⟩:=hrel;rcases (by omega:i=0∨i=1∨i=2∨i=3∨i=4) with rfl | rfl | rfl | rfl | rfl
  ·
   have hu:=hi;clear hu;have m0:wr.cell? ⟨w.heap.size+1,0,none⟩=some (.int .i64 2):=cell_of_row wr _ 0 _ _ _ hNM.mach;have m1:wr.cell? ⟨w.heap.size+1,1,none⟩=some (.slice (some ⟨g,0,none⟩) 1 cs):=cell_of_row wr _ 1 _ _ _ hNM.mach;have m2:wr.cell? ⟨w.heap.size+1,2,none⟩=some nv:=cell_of_row wr _ 2 _ _ _ hNM.mach;have HNM:=Lib.hid hNM;clear hNM;have hsl:∀W:World,(Instr.slice 9 (.string ⟨#[97,98,99]⟩) none (some (.int .i64 2)) none).run Tryz.prog W=.ok (.string AB) W:=fun _=>by kernel_rfl
   go_wp2_with fail;obtain⟨q,hq0⟩:∃q,q=wr.heap.size:=⟨_,rfl⟩
   obtain⟨Wi,hwi⟩:∃Wi,Wi=wr.iter AB 0:=⟨_,rfl⟩
   have Ni:NM w Wi q g cs 1 nv (oR 0):=by rw[hwi,hq0]; exact HNM.out.one (one_alloc _ _ wr.heap.size) (alien_new _ _) (HNM.out.bel.alloc HNM.out.bel.size _)
   have iti:Wi.heap[q]?=some (.stringIter AB 0):=by rw[hwi,hq0]; exact blk_new _ _
   have hq:w.heap.size<=q:=by rw[hq0]; exact HNM.out.bel.size
   rw[<-hwi,<-hq0];have HNi:=Lib.hid Ni;have HITi:=Lib.hid iti;clear hwi hq0 HNM m0 m1 m2 Ni iti hsl;go_loopw [8] (fun v wr=>∃c:Nat,c<=2/\wr.heap[q]?=some (.stringIter AB c)/\wr.ownsRow q 3 1 v (iR 0 c).length (iV (iR 0 c))/\∃g cs,NM w wr q g cs (iN 0 c) nv (oR 0)) (fun _ wr=>itLeft wr q)
   case atStart=>exact⟨0,by decide,HITi.out,World.ownsRow_nil _ _ _ _,_,_,HNi.out⟩
   case round =>
    clear HNi HITi;obtain⟨c,hc,hit,hrow,g2,cs2,hNM⟩:=hrel;rcases (by omega:c=0∨c=1∨c=2) with rfl | rfl | rfl
    ·
     have hu:=hc;clear hu;have hqW:q < wr.heap.size:=blk_lt hit;have hnx:(Instr.next (.pointer (some ⟨q,0,none⟩)) true 0).run Tryz.prog wr=.ok (.tuple #[.bool true,.int .i64 0,.int .i32 97]) (setBlock wr q (.stringIter AB (0+1))):=next_at 0 hit (by decide) (by decide);obtain⟨W1,h1⟩:∃W1,W1=setBlock wr q (.stringIter AB (0+1)):=⟨_,rfl⟩
     rw[<-h1]at hnx;have it1:W1.heap[q]?=some (.stringIter AB (0+1)):=by rw[h1]; exact sb_new hit
     have N1:NM w W1 q g2 cs2 1 nv (oR 0):=hNM.one (by rw[h1]; exact one_set _ _ _) (.inr (.inl ⟨_,_,hit⟩)) (by rw[h1]; exact sb_below _ hNM.bel hq);have row1:=own_one hrow (by rw[h1]; exact one_set _ _ _:OneCh wr W1 q) (.inr (fun cur qq h=>by rw[hit]at h; cases h));have m0:W1.cell? ⟨w.heap.size+1,0,none⟩=some (.int .i64 2):=cell_of_row W1 _ 0 _ _ _ N1.mach;have m1:W1.cell? ⟨w.heap.size+1,1,none⟩=some (.slice (some ⟨g2,0,none⟩) 1 cs2):=cell_of_row W1 _ 1 _ _ _ N1.mach;have m2:W1.cell? ⟨w.heap.size+1,2,none⟩=some nv:=cell_of_row W1 _ 2 _ _ _ N1.mach;have s0:W1.cell? ⟨g2,0,none⟩=some (.string ⟨#[]⟩):=own_cell N1.own rfl;have hcv:=cv97;have hcat:(⟨#[]⟩:ByteArray) ++ (⟨#[97]⟩:ByteArray)=⟨#[97]⟩:=by kernel_rfl
     have HA:=Lib.hid (avoids_ok sb cap ⟨#[97]⟩ false false false (by decide) W1 (HM.out.below N1.bel) (keepc N1.bel HC.out.1) (keepc N1.bel HC.out.2.1) (keepc N1.bel HC.out.2.2) (by kernel_rfl) (by kernel_rfl) (by kernel_rfl));have HIT0:=Lib.hid hit;have HN1:=Lib.hid N1;have HIT1:=Lib.hid it1;have HROW1:=Lib.hid row1;clear h1 it1 N1 row1 hit hNM hrow;go_wp2_with fail;refine HA.out.mono ?_;rintro e W2 ⟨rfl,hb2⟩;have it2:=(hb2.block _ (blk_lt HIT1.out)).trans HIT1.out;have N2:=HN1.out.one (one_below hb2 W1.heap.size) (alien_new _ _) (HN1.out.bel.trans (hb2.mono HN1.out.bel.size));have row2:=own_one HROW1.out (one_below hb2 W1.heap.size) (.inr fun cur qq h=>by simp at h);have hqW2:=blk_lt it2;clear hnx m0 m1 m2 s0 hcv hcat HA HN1 HIT1 HROW1 hb2;have hlk:(Instr.lookup 201 (.map (some (w.heap.size+1+1))) (.string ⟨#[97]⟩) true).run Tryz.prog W2=.ok (.tuple #[.int .i64 0,.bool false]) W2:=look_none N2.mp Tryz.underlying201 (mk_c W2 _ _) (mk_f1 W2) (pk_z W2) true;have hpt:(Instr.mapUpdate 201 (.map (some (w.heap.size+1+1))) (.string ⟨#[97]⟩) (.int .i64 1)).run Tryz.prog W2=.ok () (setBlock W2 (w.heap.size+1+1) (.map (ME (1+1)) (1+1))):=put_new N2.mp Tryz.underlying201 (mk_c W2 _ _) (mk_f1 W2);have hmx3:max (0:Int) (-3)=0:=by decide
     have hmx2:max (0:Int) (-2)=0:=by decide
     have hex:(⟨#[97]⟩:ByteArray).extract 0 1=⟨#[97]⟩:=by kernel_rfl
     have m0:W2.cell? ⟨w.heap.size+1,0,none⟩=some (.int .i64 2):=cell_of_row W2 _ 0 _ _ _ N2.mach;have m1:W2.cell? ⟨w.heap.size+1,1,none⟩=some (.slice (some ⟨g2,0,none⟩) 1 cs2):=cell_of_row W2 _ 1 _ _ _ N2.mach;have m2:W2.cell? ⟨w.heap.size+1,2,none⟩=some nv:=cell_of_row W2 _ 2 _ _ _ N2.mach;obtain⟨W3,h3⟩:∃W3,W3=setBlock W2 (w.heap.size+1+1) (.map (ME (1+1)) (1+1)):=⟨_,rfl⟩
     rw[<-h3]at hpt;have hz3:W3.heap.size=W2.heap.size:=by rw[h3]; simp[setBlock]
     have own3:W3.ownsRow w.heap.size 9 1 (.slice (some ⟨g2,0,none⟩) 1 cs2) 1 (SV 1):=own_one N2.own (by rw[h3]; exact one_set _ _ _:OneCh W2 W3 (w.heap.size+1+1)) (.inr fun cur qq h=>by rw[N2.mp]at h; cases h);have n1:W3.cell? ⟨w.heap.size+1,1,none⟩=some (.slice (some ⟨g2,0,none⟩) 1 cs2):=by rw[h3]; exact(World.cell?_of_block (a:=⟨w.heap.size+1,1,none⟩) (sb_other (by show w.heap.size+1≠w.heap.size+1+1; omega))).trans m1
     have hwz:w.heap.size<=W2.heap.size:=N2.bel.size;have HOWN3:=Lib.hid own3;have H3:=Lib.hid h3;have HN2:=Lib.hid N2;have HIT2:=Lib.hid it2;have HROW2:=Lib.hid row2;have HZ3:=Lib.hid hz3;clear N2 it2 row2 own3 h3 hz3;go_wp2_with (first
      | (at_builtin; refine wpList_append_own _ rfl _ _ 160 rfl w.heap.size 9 j0 (.string ⟨#[]⟩) 1 16 Tryz.underlying160 hjj hy0 hy1 hy2 rfl (by decide) _ _ _ rfl (own_one HOWN3.out (one_alloc _ _ W3.heap.size) (.inr fun cur qq h=>by simp at h)) ⟨W3.heap.size,0,none⟩ 1 1 [.string ⟨#[97]⟩] rfl rfl (cell_one_new _ _ _) (one_s _) (by decide) (by decide) (by have:=HZ3.out; simp; omega) ?_; intro v4 W4 hown4 hgrow4 hnil4; obtain⟨g4,cs4,rfl⟩:=ownsRow_succ hown4; obtain⟨M4,N4,K4,Z4⟩:=HN2.out.push rfl hown4 (by rw[<-H3.out]; exact hgrow4); have o1:W4.cell? ⟨w.heap.size+1,1,none⟩=some (.slice (some ⟨g2,0,none⟩) 1 cs2):=cell_of_row W4 _ 1 _ _ _ M4; have of:=row_f M4; have HN4:=Lib.hid N4; have HIT4:=Lib.hid (K4 _ _ HIT2.out (.inl ⟨_,_,rfl⟩)); have HROW4:=Lib.hid (K4.own HROW2.out); clear hown4 hgrow4 hnil4 M4 N4 K4 hlk hpt m0 m1 m2 n1 hmx3 hmx2 hex)
      | (at_builtin; refine wpList_append_own _ rfl _ _ 22 rfl q 3 i0 (.int .i64 0) 1 8 Tryz.underlying22 hii hz0 hz1 hz2 rfl (by decide) _ _ _ rfl (own_one HROW4.out (one_alloc _ _ q) (.inr fun cur qq h=>by rw[HIT4.out]at h; cases h)) ⟨W4.heap.size,0,none⟩ 1 1 [.int .i64 1] rfl rfl (by exact cell_one_new' (by simp[World.setCell])) (one_i _) (by decide) (by decide) (by simp[World.setCell]; omega) ?_; intro v5 W5 hown5 hgrow5 hnil5; have NE:=HN4.out.rowed HIT4.out (.int .i64 1) HROW4.out hgrow5 hq; have HN5:=Lib.hid NE.1; have HIT5:=Lib.hid NE.2; have HROW5:=Lib.hid hown5; clear hown5 hgrow5 hnil5 NE)
      | fail)
     go_roundw
     case rel =>
      iterate 61 apply Exists.intro
      exact⟨⟨0+1,by decide,HIT5.out,HROW5.out,_,_,HN5.out⟩,rfl⟩
     case measure=>rw[itLeft_at HIT5.out,itLeft_at HIT0.out]; decide
    ·
     have hu:=hc;clear hu;have hqW:q < wr.heap.size:=blk_lt hit;have hnx:(Instr.next (.pointer (some ⟨q,0,none⟩)) true 0).run Tryz.prog wr=.ok (.tuple #[.bool true,.int .i64 1,.int .i32 98]) (setBlock wr q (.stringIter AB (1+1))):=next_at 0 hit (by decide) (by decide);obtain⟨W1,h1⟩:∃W1,W1=setBlock wr q (.stringIter AB (1+1)):=⟨_,rfl⟩
     rw[<-h1]at hnx;have it1:W1.heap[q]?=some (.stringIter AB (1+1)):=by rw[h1]; exact sb_new hit
     have N1:NM w W1 q g2 cs2 2 nv (oR 0):=hNM.one (by rw[h1]; exact one_set _ _ _) (.inr (.inl ⟨_,_,hit⟩)) (by rw[h1]; exact sb_below _ hNM.bel hq);have row1:=own_one hrow (by rw[h1]; exact one_set _ _ _:OneCh wr W1 q) (.inr (fun cur qq h=>by rw[hit]at h; cases h));have m0:W1.cell? ⟨w.heap.size+1,0,none⟩=some (.int .i64 2):=cell_of_row W1 _ 0 _ _ _ N1.mach;have m1:W1.cell? ⟨w.heap.size+1,1,none⟩=some (.slice (some ⟨g2,0,none⟩) 2 cs2):=cell_of_row W1 _ 1 _ _ _ N1.mach;have m2:W1.cell? ⟨w.heap.size+1,2,none⟩=some nv:=cell_of_row W1 _ 2 _ _ _ N1.mach;have s0:W1.cell? ⟨g2,0,none⟩=some (.string ⟨#[]⟩):=own_cell N1.own rfl;have hcv:=cv98;have hcat:(⟨#[]⟩:ByteArray) ++ (⟨#[98]⟩:ByteArray)=⟨#[98]⟩:=by kernel_rfl
     have HA:=Lib.hid (avoids_ok sb cap ⟨#[98]⟩ false false false (by decide) W1 (HM.out.below N1.bel) (keepc N1.bel HC.out.1) (keepc N1.bel HC.out.2.1) (keepc N1.bel HC.out.2.2) (by kernel_rfl) (by kernel_rfl) (by kernel_rfl));have HIT0:=Lib.hid hit;have HN1:=Lib.hid N1;have HIT1:=Lib.hid it1;have HROW1:=Lib.hid row1;clear h1 it1 N1 row1 hit hNM hrow;go_wp2_with fail;refine HA.out.mono ?_;rintro e W2 ⟨rfl,hb2⟩;have it2:=(hb2.block _ (blk_lt HIT1.out)).trans HIT1.out;have N2:=HN1.out.one (one_below hb2 W1.heap.size) (alien_new _ _) (HN1.out.bel.trans (hb2.mono HN1.out.bel.size));have row2:=own_one HROW1.out (one_below hb2 W1.heap.size) (.inr fun cur qq h=>by simp at h);have hqW2:=blk_lt it2;clear hnx m0 m1 m2 s0 hcv hcat HA HN1 HIT1 HROW1 hb2;have hlk:(Instr.lookup 201 (.map (some (w.heap.size+1+1))) (.string ⟨#[98]⟩) true).run Tryz.prog W2=.ok (.tuple #[.int .i64 0,.bool false]) W2:=look_none N2.mp Tryz.underlying201 (mk_c W2 _ _) (mk_f2 W2) (pk_z W2) true;have hpt:(Instr.mapUpdate 201 (.map (some (w.heap.size+1+1))) (.string ⟨#[98]⟩) (.int .i64 2)).run Tryz.prog W2=.ok () (setBlock W2 (w.heap.size+1+1) (.map (ME (2+1)) (2+1))):=put_new N2.mp Tryz.underlying201 (mk_c W2 _ _) (mk_f2 W2);have hmx3:max (0:Int) (-3)=0:=by decide
     have hmx2:max (0:Int) (-2)=0:=by decide
     have hex:(⟨#[98]⟩:ByteArray).extract 0 1=⟨#[98]⟩:=by kernel_rfl
     have m0:W2.cell? ⟨w.heap.size+1,0,none⟩=some (.int .i64 2):=cell_of_row W2 _ 0 _ _ _ N2.mach;have m1:W2.cell? ⟨w.heap.size+1,1,none⟩=some (.slice (some ⟨g2,0,none⟩) 2 cs2):=cell_of_row W2 _ 1 _ _ _ N2.mach;have m2:W2.cell? ⟨w.heap.size+1,2,none⟩=some nv:=cell_of_row W2 _ 2 _ _ _ N2.mach;obtain⟨W3,h3⟩:∃W3,W3=setBlock W2 (w.heap.size+1+1) (.map (ME (2+1)) (2+1)):=⟨_,rfl⟩
     rw[<-h3]at hpt;have hz3:W3.heap.size=W2.heap.size:=by rw[h3]; simp[setBlock]
     have own3:W3.ownsRow w.heap.size 9 1 (.slice (some ⟨g2,0,none⟩) 2 cs2) 2 (SV 2):=own_one N2.own (by rw[h3]; exact one_set _ _ _:OneCh W2 W3 (w.heap.size+1+1)) (.inr fun cur qq h=>by rw[N2.mp]at h; cases h);have n1:W3.cell? ⟨w.heap.size+1,1,none⟩=some (.slice (some ⟨g2,0,none⟩) 2 cs2):=by rw[h3]; exact(World.cell?_of_block (a:=⟨w.heap.size+1,1,none⟩) (sb_other (by show w.heap.size+1≠w.heap.size+1+1; omega))).trans m1
     have hwz:w.heap.size<=W2.heap.size:=N2.bel.size;have HOWN3:=Lib.hid own3;have H3:=Lib.hid h3;have HN2:=Lib.hid N2;have HIT2:=Lib.hid it2;have HROW2:=Lib.hid row2;have HZ3:=Lib.hid hz3;clear N2 it2 row2 own3 h3 hz3;go_wp2_with (first
      | (at_builtin; refine wpList_append_own _ rfl _ _ 160 rfl w.heap.size 9 j0 (.string ⟨#[]⟩) 1 16 Tryz.underlying160 hjj hy0 hy1 hy2 rfl (by decide) _ _ _ rfl (own_one HOWN3.out (one_alloc _ _ W3.heap.size) (.inr fun cur qq h=>by simp at h)) ⟨W3.heap.size,0,none⟩ 1 1 [.string ⟨#[98]⟩] rfl rfl (cell_one_new _ _ _) (one_s _) (by decide) (by decide) (by have:=HZ3.out; simp; omega) ?_; intro v4 W4 hown4 hgrow4 hnil4; obtain⟨g4,cs4,rfl⟩:=ownsRow_succ hown4; obtain⟨M4,N4,K4,Z4⟩:=HN2.out.push rfl hown4 (by rw[<-H3.out]; exact hgrow4); have o1:W4.cell? ⟨w.heap.size+1,1,none⟩=some (.slice (some ⟨g2,0,none⟩) 2 cs2):=cell_of_row W4 _ 1 _ _ _ M4; have of:=row_f M4; have HN4:=Lib.hid N4; have HIT4:=Lib.hid (K4 _ _ HIT2.out (.inl ⟨_,_,rfl⟩)); have HROW4:=Lib.hid (K4.own HROW2.out); clear hown4 hgrow4 hnil4 M4 N4 K4 hlk hpt m0 m1 m2 n1 hmx3 hmx2 hex)
      | (at_builtin; refine wpList_append_own _ rfl _ _ 22 rfl q 3 i0 (.int .i64 0) 1 8 Tryz.underlying22 hii hz0 hz1 hz2 rfl (by decide) _ _ _ rfl (own_one HROW4.out (one_alloc _ _ q) (.inr fun cur qq h=>by rw[HIT4.out]at h; cases h)) ⟨W4.heap.size,0,none⟩ 1 1 [.int .i64 2] rfl rfl (by exact cell_one_new' (by simp[World.setCell])) (one_i _) (by decide) (by decide) (by simp[World.setCell]; omega) ?_; intro v5 W5 hown5 hgrow5 hnil5; have NE:=HN4.out.rowed HIT4.out (.int .i64 2) HROW4.out hgrow5 hq; have HN5:=Lib.hid NE.1; have HIT5:=Lib.hid NE.2; have HROW5:=Lib.hid hown5; clear hown5 hgrow5 hnil5 NE)
      | fail)
     go_roundw
     case rel =>
      iterate 61 apply Exists.intro
      exact⟨⟨1+1,by decide,HIT5.out,HROW5.out,_,_,HN5.out⟩,rfl⟩
     case measure=>rw[itLeft_at HIT5.out,itLeft_at HIT0.out]; decide
    ·
     have hu:=hc;clear hu;have hnx:(Instr.next (.pointer (some ⟨q,0,none⟩)) true 0).run Tryz.prog wr=.ok (.tuple #[.bool false]) wr:=next_over 0 hit (by decide);obtain⟨gk,ck,rfl⟩:=ownsRow_succ hrow;obtain⟨rvs,hrv,hent⟩:=hNM.nx;have m0:wr.cell? ⟨w.heap.size+1,0,none⟩=some (.int .i64 2):=cell_of_row wr _ 0 _ _ _ hNM.mach;have m1:wr.cell? ⟨w.heap.size+1,1,none⟩=some (.slice (some ⟨g2,0,none⟩) 3 cs2):=cell_of_row wr _ 1 _ _ _ hNM.mach;have m2:wr.cell? ⟨w.heap.size+1,2,none⟩=some nv:=cell_of_row wr _ 2 _ _ _ hNM.mach;have hwz:=hNM.bel.size;have HN:=Lib.hid hNM;have HRV:=Lib.hid hrv;have HENT:=Lib.hid hent;have HROW:=Lib.hid hrow;clear hit hNM hrv hent hrow;go_wp2_with (first
      | (at_builtin; refine wpList_append_own _ rfl _ _ 198 rfl w.heap.size 22 l0 (.slice none 0 0) 1 24 Tryz.underlying198 hll hx0 hx1 hx2 rfl (by decide) _ _ _ rfl (own_one HRV.out (one_alloc _ _ wr.heap.size) (.inr fun cur qq h=>by simp at h)) ⟨wr.heap.size,0,none⟩ 1 1 [.slice (some ⟨gk,0,none⟩) 2 ck] rfl rfl (cell_one_new _ _ _) (one_sl _ _ _) (by decide) (by decide) (by simp; omega) ?_; intro v4 W4 hown4 hgrow4 hnil4; obtain⟨g4,cs4,rfl⟩:=ownsRow_succ hown4; obtain⟨M4,N4⟩:=HN.out.nextRow HRV.out HENT.out HROW.out hown4 hgrow4; have o1:W4.cell? ⟨w.heap.size+1,2,none⟩=some nv:=cell_of_row W4 _ 2 _ _ _ M4; have of:=row_f M4; have HN4:=Lib.hid N4; clear hown4 hgrow4 hnil4 M4 N4 m0 m1 m2 hnx)
      | fail)
     exact⟨⟨0+1,rfl,by decide,_,_,_,HN4.out⟩,by decide⟩
  ·
   have hu:=hi;clear hu;have m0:wr.cell? ⟨w.heap.size+1,0,none⟩=some (.int .i64 2):=cell_of_row wr _ 0 _ _ _ hNM.mach;have m1:wr.cell? ⟨w.heap.size+1,1,none⟩=some (.slice (some ⟨g,0,none⟩) 3 cs):=cell_of_row wr _ 1 _ _ _ hNM.mach;have m2:wr.cell? ⟨w.heap.size+1,2,none⟩=some nv:=cell_of_row wr _ 2 _ _ _ hNM.mach;have HNM:=Lib.hid hNM;clear hNM;have hsl:∀W:World,(Instr.slice 9 (.string ⟨#[97,98,99]⟩) none (some (.int .i64 2)) none).run Tryz.prog W=.ok (.string AB) W:=fun _=>by kernel_rfl
   go_wp2_with fail;obtain⟨q,hq0⟩:∃q,q=wr.heap.size:=⟨_,rfl⟩
   obtain⟨Wi,hwi⟩:∃Wi,Wi=wr.iter AB 0:=⟨_,rfl⟩
   have Ni:NM w Wi q g cs 3 nv (oR 1):=by rw[hwi,hq0]; exact HNM.out.one (one_alloc _ _ wr.heap.size) (alien_new _ _) (HNM.out.bel.alloc HNM.out.bel.size _)
   have iti:Wi.heap[q]?=some (.stringIter AB 0):=by rw[hwi,hq0]; exact blk_new _ _
   have hq:w.heap.size<=q:=by rw[hq0]; exact HNM.out.bel.size
   rw[<-hwi,<-hq0];have HNi:=Lib.hid Ni;have HITi:=Lib.hid iti;clear hwi hq0 HNM m0 m1 m2 Ni iti hsl;go_loopw [8] (fun v wr=>∃c:Nat,c<=2/\wr.heap[q]?=some (.stringIter AB c)/\wr.ownsRow q 3 1 v (iR 1 c).length (iV (iR 1 c))/\∃g cs,NM w wr q g cs (iN 1 c) nv (oR 1)) (fun _ wr=>itLeft wr q)
   case atStart=>exact⟨0,by decide,HITi.out,World.ownsRow_nil _ _ _ _,_,_,HNi.out⟩
   case round =>
    clear HNi HITi;obtain⟨c,hc,hit,hrow,g2,cs2,hNM⟩:=hrel;rcases (by omega:c=0∨c=1∨c=2) with rfl | rfl | rfl
    ·
     have hu:=hc;clear hu;have hqW:q < wr.heap.size:=blk_lt hit;have hnx:(Instr.next (.pointer (some ⟨q,0,none⟩)) true 0).run Tryz.prog wr=.ok (.tuple #[.bool true,.int .i64 0,.int .i32 97]) (setBlock wr q (.stringIter AB (0+1))):=next_at 0 hit (by decide) (by decide);obtain⟨W1,h1⟩:∃W1,W1=setBlock wr q (.stringIter AB (0+1)):=⟨_,rfl⟩
     rw[<-h1]at hnx;have it1:W1.heap[q]?=some (.stringIter AB (0+1)):=by rw[h1]; exact sb_new hit
     have N1:NM w W1 q g2 cs2 3 nv (oR 1):=hNM.one (by rw[h1]; exact one_set _ _ _) (.inr (.inl ⟨_,_,hit⟩)) (by rw[h1]; exact sb_below _ hNM.bel hq);have row1:=own_one hrow (by rw[h1]; exact one_set _ _ _:OneCh wr W1 q) (.inr (fun cur qq h=>by rw[hit]at h; cases h));have m0:W1.cell? ⟨w.heap.size+1,0,none⟩=some (.int .i64 2):=cell_of_row W1 _ 0 _ _ _ N1.mach;have m1:W1.cell? ⟨w.heap.size+1,1,none⟩=some (.slice (some ⟨g2,0,none⟩) 3 cs2):=cell_of_row W1 _ 1 _ _ _ N1.mach;have m2:W1.cell? ⟨w.heap.size+1,2,none⟩=some nv:=cell_of_row W1 _ 2 _ _ _ N1.mach;have s0:W1.cell? ⟨g2,1,none⟩=some (.string ⟨#[97]⟩):=own_cell N1.own rfl;have hcv:=cv97;have hcat:(⟨#[97]⟩:ByteArray) ++ (⟨#[97]⟩:ByteArray)=⟨#[97,97]⟩:=by kernel_rfl
     have HA:=Lib.hid (avoids_ok sb cap ⟨#[97,97]⟩ true false false (by decide) W1 (HM.out.below N1.bel) (keepc N1.bel HC.out.1) (keepc N1.bel HC.out.2.1) (keepc N1.bel HC.out.2.2) (by kernel_rfl) (by kernel_rfl) (by kernel_rfl));have HIT0:=Lib.hid hit;have HN1:=Lib.hid N1;have HIT1:=Lib.hid it1;have HROW1:=Lib.hid row1;clear h1 it1 N1 row1 hit hNM hrow;go_wp2_with fail;refine HA.out.mono ?_;rintro e W2 ⟨rfl,hb2⟩;have it2:=(hb2.block _ (blk_lt HIT1.out)).trans HIT1.out;have N2:=HN1.out.one (one_below hb2 W1.heap.size) (alien_new _ _) (HN1.out.bel.trans (hb2.mono HN1.out.bel.size));have row2:=own_one HROW1.out (one_below hb2 W1.heap.size) (.inr fun cur qq h=>by simp at h);have hqW2:=blk_lt it2;clear hnx m0 m1 m2 s0 hcv hcat HA HN1 HIT1 HROW1 hb2;have HN2:=Lib.hid N2;have HIT2:=Lib.hid it2;have HROW2:=Lib.hid row2;clear N2 it2 row2;go_wp2_with (first
      | (at_builtin; refine wpList_append_own _ rfl _ _ 22 rfl q 3 i0 (.int .i64 0) 1 8 Tryz.underlying22 hii hz0 hz1 hz2 rfl (by decide) _ _ _ rfl (own_one HROW2.out (one_alloc _ _ q) (.inr fun cur qq h=>by rw[HIT2.out]at h; cases h)) ⟨W2.heap.size,0,none⟩ 1 1 [.int .i64 (-1)] rfl rfl (cell_one_new _ _ _) (one_i _) (by decide) (by decide) (by simp; omega) ?_; intro v5 W5 hown5 hgrow5 hnil5; have NE:=HN2.out.rowed HIT2.out (.int .i64 (-1)) HROW2.out hgrow5 hq; have HN5:=Lib.hid NE.1; have HIT5:=Lib.hid NE.2; have HROW5:=Lib.hid hown5; clear hown5 hgrow5 hnil5 NE)
      | fail)
     go_roundw
     case rel =>
      iterate 61 apply Exists.intro
      exact⟨⟨0+1,by decide,HIT5.out,HROW5.out,_,_,HN5.out⟩,rfl⟩
     case measure=>rw[itLeft_at HIT5.out,itLeft_at HIT0.out]; decide
    ·
     have hu:=hc;clear hu;have hqW:q < wr.heap.size:=blk_lt hit;have hnx:(Instr.next (.pointer (some ⟨q,0,none⟩)) true 0).run Tryz.prog wr=.ok (.tuple #[.bool true,.int .i64 1,.int .i32 98]) (setBlock wr q (.stringIter AB (1+1))):=next_at 0 hit (by decide) (by decide);obtain⟨W1,h1⟩:∃W1,W1=setBlock wr q (.stringIter AB (1+1)):=⟨_,rfl⟩
     rw[<-h1]at hnx;have it1:W1.heap[q]?=some (.stringIter AB (1+1)):=by rw[h1]; exact sb_new hit
     have N1:NM w W1 q g2 cs2 3 nv (oR 1):=hNM.one (by rw[h1]; exact one_set _ _ _) (.inr (.inl ⟨_,_,hit⟩)) (by rw[h1]; exact sb_below _ hNM.bel hq);have row1:=own_one hrow (by rw[h1]; exact one_set _ _ _:OneCh wr W1 q) (.inr (fun cur qq h=>by rw[hit]at h; cases h));have m0:W1.cell? ⟨w.heap.size+1,0,none⟩=some (.int .i64 2):=cell_of_row W1 _ 0 _ _ _ N1.mach;have m1:W1.cell? ⟨w.heap.size+1,1,none⟩=some (.slice (some ⟨g2,0,none⟩) 3 cs2):=cell_of_row W1 _ 1 _ _ _ N1.mach;have m2:W1.cell? ⟨w.heap.size+1,2,none⟩=some nv:=cell_of_row W1 _ 2 _ _ _ N1.mach;have s0:W1.cell? ⟨g2,1,none⟩=some (.string ⟨#[97]⟩):=own_cell N1.own rfl;have hcv:=cv98;have hcat:(⟨#[97]⟩:ByteArray) ++ (⟨#[98]⟩:ByteArray)=⟨#[97,98]⟩:=by kernel_rfl
     have HA:=Lib.hid (avoids_ok sb cap ⟨#[97,98]⟩ false true false (by decide) W1 (HM.out.below N1.bel) (keepc N1.bel HC.out.1) (keepc N1.bel HC.out.2.1) (keepc N1.bel HC.out.2.2) (by kernel_rfl) (by kernel_rfl) (by kernel_rfl));have HIT0:=Lib.hid hit;have HN1:=Lib.hid N1;have HIT1:=Lib.hid it1;have HROW1:=Lib.hid row1;clear h1 it1 N1 row1 hit hNM hrow;go_wp2_with fail;refine HA.out.mono ?_;rintro e W2 ⟨rfl,hb2⟩;have it2:=(hb2.block _ (blk_lt HIT1.out)).trans HIT1.out;have N2:=HN1.out.one (one_below hb2 W1.heap.size) (alien_new _ _) (HN1.out.bel.trans (hb2.mono HN1.out.bel.size));have row2:=own_one HROW1.out (one_below hb2 W1.heap.size) (.inr fun cur qq h=>by simp at h);have hqW2:=blk_lt it2;clear hnx m0 m1 m2 s0 hcv hcat HA HN1 HIT1 HROW1 hb2;have HN2:=Lib.hid N2;have HIT2:=Lib.hid it2;have HROW2:=Lib.hid row2;clear N2 it2 row2;go_wp2_with (first
      | (at_builtin; refine wpList_append_own _ rfl _ _ 22 rfl q 3 i0 (.int .i64 0) 1 8 Tryz.underlying22 hii hz0 hz1 hz2 rfl (by decide) _ _ _ rfl (own_one HROW2.out (one_alloc _ _ q) (.inr fun cur qq h=>by rw[HIT2.out]at h; cases h)) ⟨W2.heap.size,0,none⟩ 1 1 [.int .i64 (-1)] rfl rfl (cell_one_new _ _ _) (one_i _) (by decide) (by decide) (by simp; omega) ?_; intro v5 W5 hown5 hgrow5 hnil5; have NE:=HN2.out.rowed HIT2.out (.int .i64 (-1)) HROW2.out hgrow5 hq; have HN5:=Lib.hid NE.1; have HIT5:=Lib.hid NE.2; have HROW5:=Lib.hid hown5; clear hown5 hgrow5 hnil5 NE)
      | fail)
     go_roundw
     case rel =>
      iterate 61 apply Exists.intro
      exact⟨⟨1+1,by decide,HIT5.out,HROW5.out,_,_,HN5.out⟩,rfl⟩
     case measure=>rw[itLeft_at HIT5.out,itLeft_at HIT0.out]; decide
    ·
     have hu:=hc;clear hu;have hnx:(Instr.next (.pointer (some ⟨q,0,none⟩)) true 0).run Tryz.prog wr=.ok (.tuple #[.bool false]) wr:=next_over 0 hit (by decide);obtain⟨gk,ck,rfl⟩:=ownsRow_succ hrow;obtain⟨rvs,hrv,hent⟩:=hNM.nx;have m0:wr.cell? ⟨w.heap.size+1,0,none⟩=some (.int .i64 2):=cell_of_row wr _ 0 _ _ _ hNM.mach;have m1:wr.cell? ⟨w.heap.size+1,1,none⟩=some (.slice (some ⟨g2,0,none⟩) 3 cs2):=cell_of_row wr _ 1 _ _ _ hNM.mach;have m2:wr.cell? ⟨w.heap.size+1,2,none⟩=some nv:=cell_of_row wr _ 2 _ _ _ hNM.mach;have hwz:=hNM.bel.size;have HN:=Lib.hid hNM;have HRV:=Lib.hid hrv;have HENT:=Lib.hid hent;have HROW:=Lib.hid hrow;clear hit hNM hrv hent hrow;go_wp2_with (first
      | (at_builtin; refine wpList_append_own _ rfl _ _ 198 rfl w.heap.size 22 l0 (.slice none 0 0) 1 24 Tryz.underlying198 hll hx0 hx1 hx2 rfl (by decide) _ _ _ rfl (own_one HRV.out (one_alloc _ _ wr.heap.size) (.inr fun cur qq h=>by simp at h)) ⟨wr.heap.size,0,none⟩ 1 1 [.slice (some ⟨gk,0,none⟩) 2 ck] rfl rfl (cell_one_new _ _ _) (one_sl _ _ _) (by decide) (by decide) (by simp; omega) ?_; intro v4 W4 hown4 hgrow4 hnil4; obtain⟨g4,cs4,rfl⟩:=ownsRow_succ hown4; obtain⟨M4,N4⟩:=HN.out.nextRow HRV.out HENT.out HROW.out hown4 hgrow4; have o1:W4.cell? ⟨w.heap.size+1,2,none⟩=some nv:=cell_of_row W4 _ 2 _ _ _ M4; have of:=row_f M4; have HN4:=Lib.hid N4; clear hown4 hgrow4 hnil4 M4 N4 m0 m1 m2 hnx)
      | fail)
     exact⟨⟨1+1,rfl,by decide,_,_,_,HN4.out⟩,by decide⟩
  ·
   have hu:=hi;clear hu;have m0:wr.cell? ⟨w.heap.size+1,0,none⟩=some (.int .i64 2):=cell_of_row wr _ 0 _ _ _ hNM.mach;have m1:wr.cell? ⟨w.heap.size+1,1,none⟩=some (.slice (some ⟨g,0,none⟩) 3 cs):=cell_of_row wr _ 1 _ _ _ hNM.mach;have m2:wr.cell? ⟨w.heap.size+1,2,none⟩=some nv:=cell_of_row wr _ 2 _ _ _ hNM.mach;have HNM:=Lib.hid hNM;clear hNM;have hsl:∀W:World,(Instr.slice 9 (.string ⟨#[97,98,99]⟩) none (some (.int .i64 2)) none).run Tryz.prog W=.ok (.string AB) W:=fun _=>by kernel_rfl
   go_wp2_with fail;obtain⟨q,hq0⟩:∃q,q=wr.heap.size:=⟨_,rfl⟩
   obtain⟨Wi,hwi⟩:∃Wi,Wi=wr.iter AB 0:=⟨_,rfl⟩
   have Ni:NM w Wi q g cs 3 nv (oR 2):=by rw[hwi,hq0]; exact HNM.out.one (one_alloc _ _ wr.heap.size) (alien_new _ _) (HNM.out.bel.alloc HNM.out.bel.size _)
   have iti:Wi.heap[q]?=some (.stringIter AB 0):=by rw[hwi,hq0]; exact blk_new _ _
   have hq:w.heap.size<=q:=by rw[hq0]; exact HNM.out.bel.size
   rw[<-hwi,<-hq0];have HNi:=Lib.hid Ni;have HITi:=Lib.hid iti;clear hwi hq0 HNM m0 m1 m2 Ni iti hsl;go_loopw [8] (fun v wr=>∃c:Nat,c<=2/\wr.heap[q]?=some (.stringIter AB c)/\wr.ownsRow q 3 1 v (iR 2 c).length (iV (iR 2 c))/\∃g cs,NM w wr q g cs (iN 2 c) nv (oR 2)) (fun _ wr=>itLeft wr q)
   case atStart=>exact⟨0,by decide,HITi.out,World.ownsRow_nil _ _ _ _,_,_,HNi.out⟩
   case round =>
    clear HNi HITi;obtain⟨c,hc,hit,hrow,g2,cs2,hNM⟩:=hrel;rcases (by omega:c=0∨c=1∨c=2) with rfl | rfl | rfl
    ·
     have hu:=hc;clear hu;have hqW:q < wr.heap.size:=blk_lt hit;have hnx:(Instr.next (.pointer (some ⟨q,0,none⟩)) true 0).run Tryz.prog wr=.ok (.tuple #[.bool true,.int .i64 0,.int .i32 97]) (setBlock wr q (.stringIter AB (0+1))):=next_at 0 hit (by decide) (by decide);obtain⟨W1,h1⟩:∃W1,W1=setBlock wr q (.stringIter AB (0+1)):=⟨_,rfl⟩
     rw[<-h1]at hnx;have it1:W1.heap[q]?=some (.stringIter AB (0+1)):=by rw[h1]; exact sb_new hit
     have N1:NM w W1 q g2 cs2 3 nv (oR 2):=hNM.one (by rw[h1]; exact one_set _ _ _) (.inr (.inl ⟨_,_,hit⟩)) (by rw[h1]; exact sb_below _ hNM.bel hq);have row1:=own_one hrow (by rw[h1]; exact one_set _ _ _:OneCh wr W1 q) (.inr (fun cur qq h=>by rw[hit]at h; cases h));have m0:W1.cell? ⟨w.heap.size+1,0,none⟩=some (.int .i64 2):=cell_of_row W1 _ 0 _ _ _ N1.mach;have m1:W1.cell? ⟨w.heap.size+1,1,none⟩=some (.slice (some ⟨g2,0,none⟩) 3 cs2):=cell_of_row W1 _ 1 _ _ _ N1.mach;have m2:W1.cell? ⟨w.heap.size+1,2,none⟩=some nv:=cell_of_row W1 _ 2 _ _ _ N1.mach;have s0:W1.cell? ⟨g2,2,none⟩=some (.string ⟨#[98]⟩):=own_cell N1.own rfl;have hcv:=cv97;have hcat:(⟨#[98]⟩:ByteArray) ++ (⟨#[97]⟩:ByteArray)=⟨#[98,97]⟩:=by kernel_rfl
     have HA:=Lib.hid (avoids_ok sb cap ⟨#[98,97]⟩ false false false (by decide) W1 (HM.out.below N1.bel) (keepc N1.bel HC.out.1) (keepc N1.bel HC.out.2.1) (keepc N1.bel HC.out.2.2) (by kernel_rfl) (by kernel_rfl) (by kernel_rfl));have HIT0:=Lib.hid hit;have HN1:=Lib.hid N1;have HIT1:=Lib.hid it1;have HROW1:=Lib.hid row1;clear h1 it1 N1 row1 hit hNM hrow;go_wp2_with fail;refine HA.out.mono ?_;rintro e W2 ⟨rfl,hb2⟩;have it2:=(hb2.block _ (blk_lt HIT1.out)).trans HIT1.out;have N2:=HN1.out.one (one_below hb2 W1.heap.size) (alien_new _ _) (HN1.out.bel.trans (hb2.mono HN1.out.bel.size));have row2:=own_one HROW1.out (one_below hb2 W1.heap.size) (.inr fun cur qq h=>by simp at h);have hqW2:=blk_lt it2;clear hnx m0 m1 m2 s0 hcv hcat HA HN1 HIT1 HROW1 hb2;have hlk:(Instr.lookup 201 (.map (some (w.heap.size+1+1))) (.string ⟨#[98,97]⟩) true).run Tryz.prog W2=.ok (.tuple #[.int .i64 0,.bool false]) W2:=look_none N2.mp Tryz.underlying201 (mk_c W2 _ _) (mk_f3 W2) (pk_z W2) true;have hpt:(Instr.mapUpdate 201 (.map (some (w.heap.size+1+1))) (.string ⟨#[98,97]⟩) (.int .i64 3)).run Tryz.prog W2=.ok () (setBlock W2 (w.heap.size+1+1) (.map (ME (3+1)) (3+1))):=put_new N2.mp Tryz.underlying201 (mk_c W2 _ _) (mk_f3 W2);have hmx3:max (0:Int) (-3)=0:=by decide
     have hmx2:max (0:Int) (-2)=0:=by decide
     have hex:(⟨#[98,97]⟩:ByteArray).extract 0 2=⟨#[98,97]⟩:=by kernel_rfl
     have m0:W2.cell? ⟨w.heap.size+1,0,none⟩=some (.int .i64 2):=cell_of_row W2 _ 0 _ _ _ N2.mach;have m1:W2.cell? ⟨w.heap.size+1,1,none⟩=some (.slice (some ⟨g2,0,none⟩) 3 cs2):=cell_of_row W2 _ 1 _ _ _ N2.mach;have m2:W2.cell? ⟨w.heap.size+1,2,none⟩=some nv:=cell_of_row W2 _ 2 _ _ _ N2.mach;obtain⟨W3,h3⟩:∃W3,W3=setBlock W2 (w.heap.size+1+1) (.map (ME (3+1)) (3+1)):=⟨_,rfl⟩
     rw[<-h3]at hpt;have hz3:W3.heap.size=W2.heap.size:=by rw[h3]; simp[setBlock]
     have own3:W3.ownsRow w.heap.size 9 1 (.slice (some ⟨g2,0,none⟩) 3 cs2) 3 (SV 3):=own_one N2.own (by rw[h3]; exact one_set _ _ _:OneCh W2 W3 (w.heap.size+1+1)) (.inr fun cur qq h=>by rw[N2.mp]at h; cases h);have n1:W3.cell? ⟨w.heap.size+1,1,none⟩=some (.slice (some ⟨g2,0,none⟩) 3 cs2):=by rw[h3]; exact(World.cell?_of_block (a:=⟨w.heap.size+1,1,none⟩) (sb_other (by show w.heap.size+1≠w.heap.size+1+1; omega))).trans m1
     have hwz:w.heap.size<=W2.heap.size:=N2.bel.size;have HOWN3:=Lib.hid own3;have H3:=Lib.hid h3;have HN2:=Lib.hid N2;have HIT2:=Lib.hid it2;have HROW2:=Lib.hid row2;have HZ3:=Lib.hid hz3;clear N2 it2 row2 own3 h3 hz3;go_wp2_with (first
      | (at_builtin; refine wpList_append_own _ rfl _ _ 160 rfl w.heap.size 9 j0 (.string ⟨#[]⟩) 1 16 Tryz.underlying160 hjj hy0 hy1 hy2 rfl (by decide) _ _ _ rfl (own_one HOWN3.out (one_alloc _ _ W3.heap.size) (.inr fun cur qq h=>by simp at h)) ⟨W3.heap.size,0,none⟩ 1 1 [.string ⟨#[98,97]⟩] rfl rfl (cell_one_new _ _ _) (one_s _) (by decide) (by decide) (by have:=HZ3.out; simp; omega) ?_; intro v4 W4 hown4 hgrow4 hnil4; obtain⟨g4,cs4,rfl⟩:=ownsRow_succ hown4; obtain⟨M4,N4,K4,Z4⟩:=HN2.out.push rfl hown4 (by rw[<-H3.out]; exact hgrow4); have o1:W4.cell? ⟨w.heap.size+1,1,none⟩=some (.slice (some ⟨g2,0,none⟩) 3 cs2):=cell_of_row W4 _ 1 _ _ _ M4; have of:=row_f M4; have HN4:=Lib.hid N4; have HIT4:=Lib.hid (K4 _ _ HIT2.out (.inl ⟨_,_,rfl⟩)); have HROW4:=Lib.hid (K4.own HROW2.out); clear hown4 hgrow4 hnil4 M4 N4 K4 hlk hpt m0 m1 m2 n1 hmx3 hmx2 hex)
      | (at_builtin; refine wpList_append_own _ rfl _ _ 22 rfl q 3 i0 (.int .i64 0) 1 8 Tryz.underlying22 hii hz0 hz1 hz2 rfl (by decide) _ _ _ rfl (own_one HROW4.out (one_alloc _ _ q) (.inr fun cur qq h=>by rw[HIT4.out]at h; cases h)) ⟨W4.heap.size,0,none⟩ 1 1 [.int .i64 3] rfl rfl (by exact cell_one_new' (by simp[World.setCell])) (one_i _) (by decide) (by decide) (by simp[World.setCell]; omega) ?_; intro v5 W5 hown5 hgrow5 hnil5; have NE:=HN4.out.rowed HIT4.out (.int .i64 3) HROW4.out hgrow5 hq; have HN5:=Lib.hid NE.1; have HIT5:=Lib.hid NE.2; have HROW5:=Lib.hid hown5; clear hown5 hgrow5 hnil5 NE)
      | fail)
     go_roundw
     case rel =>
      iterate 61 apply Exists.intro
      exact⟨⟨0+1,by decide,HIT5.out,HROW5.out,_,_,HN5.out⟩,rfl⟩
     case measure=>rw[itLeft_at HIT5.out,itLeft_at HIT0.out]; decide
    ·
     have hu:=hc;clear hu;have hqW:q < wr.heap.size:=blk_lt hit;have hnx:(Instr.next (.pointer (some ⟨q,0,none⟩)) true 0).run Tryz.prog wr=.ok (.tuple #[.bool true,.int .i64 1,.int .i32 98]) (setBlock wr q (.stringIter AB (1+1))):=next_at 0 hit (by decide) (by decide);obtain⟨W1,h1⟩:∃W1,W1=setBlock wr q (.stringIter AB (1+1)):=⟨_,rfl⟩
     rw[<-h1]at hnx;have it1:W1.heap[q]?=some (.stringIter AB (1+1)):=by rw[h1]; exact sb_new hit
     have N1:NM w W1 q g2 cs2 4 nv (oR 2):=hNM.one (by rw[h1]; exact one_set _ _ _) (.inr (.inl ⟨_,_,hit⟩)) (by rw[h1]; exact sb_below _ hNM.bel hq);have row1:=own_one hrow (by rw[h1]; exact one_set _ _ _:OneCh wr W1 q) (.inr (fun cur qq h=>by rw[hit]at h; cases h));have m0:W1.cell? ⟨w.heap.size+1,0,none⟩=some (.int .i64 2):=cell_of_row W1 _ 0 _ _ _ N1.mach;have m1:W1.cell? ⟨w.heap.size+1,1,none⟩=some (.slice (some ⟨g2,0,none⟩) 4 cs2):=cell_of_row W1 _ 1 _ _ _ N1.mach;have m2:W1.cell? ⟨w.heap.size+1,2,none⟩=some nv:=cell_of_row W1 _ 2 _ _ _ N1.mach;have s0:W1.cell? ⟨g2,2,none⟩=some (.string ⟨#[98]⟩):=own_cell N1.own rfl;have hcv:=cv98;have hcat:(⟨#[98]⟩:ByteArray) ++ (⟨#[98]⟩:ByteArray)=⟨#[98,98]⟩:=by kernel_rfl
     have HA:=Lib.hid (avoids_ok sb cap ⟨#[98,98]⟩ false false true (by decide) W1 (HM.out.below N1.bel) (keepc N1.bel HC.out.1) (keepc N1.bel HC.out.2.1) (keepc N1.bel HC.out.2.2) (by kernel_rfl) (by kernel_rfl) (by kernel_rfl));have HIT0:=Lib.hid hit;have HN1:=Lib.hid N1;have HIT1:=Lib.hid it1;have HROW1:=Lib.hid row1;clear h1 it1 N1 row1 hit hNM hrow;go_wp2_with fail;refine HA.out.mono ?_;rintro e W2 ⟨rfl,hb2⟩;have it2:=(hb2.block _ (blk_lt HIT1.out)).trans HIT1.out;have N2:=HN1.out.one (one_below hb2 W1.heap.size) (alien_new _ _) (HN1.out.bel.trans (hb2.mono HN1.out.bel.size));have row2:=own_one HROW1.out (one_below hb2 W1.heap.size) (.inr fun cur qq h=>by simp at h);have hqW2:=blk_lt it2;clear hnx m0 m1 m2 s0 hcv hcat HA HN1 HIT1 HROW1 hb2;have HN2:=Lib.hid N2;have HIT2:=Lib.hid it2;have HROW2:=Lib.hid row2;clear N2 it2 row2;go_wp2_with (first
      | (at_builtin; refine wpList_append_own _ rfl _ _ 22 rfl q 3 i0 (.int .i64 0) 1 8 Tryz.underlying22 hii hz0 hz1 hz2 rfl (by decide) _ _ _ rfl (own_one HROW2.out (one_alloc _ _ q) (.inr fun cur qq h=>by rw[HIT2.out]at h; cases h)) ⟨W2.heap.size,0,none⟩ 1 1 [.int .i64 (-1)] rfl rfl (cell_one_new _ _ _) (one_i _) (by decide) (by decide) (by simp; omega) ?_; intro v5 W5 hown5 hgrow5 hnil5; have NE:=HN2.out.rowed HIT2.out (.int .i64 (-1)) HROW2.out hgrow5 hq; have HN5:=Lib.hid NE.1; have HIT5:=Lib.hid NE.2; have HROW5:=Lib.hid hown5; clear hown5 hgrow5 hnil5 NE)
      | fail)
     go_roundw
     case rel =>
      iterate 61 apply Exists.intro
      exact⟨⟨1+1,by decide,HIT5.out,HROW5.out,_,_,HN5.out⟩,rfl⟩
     case measure=>rw[itLeft_at HIT5.out,itLeft_at HIT0.out]; decide
    ·
     have hu:=hc;clear hu;have hnx:(Instr.next (.pointer (some ⟨q,0,none⟩)) true 0).run Tryz.prog wr=.ok (.tuple #[.bool false]) wr:=next_over 0 hit (by decide);obtain⟨gk,ck,rfl⟩:=ownsRow_succ hrow;obtain⟨rvs,hrv,hent⟩:=hNM.nx;have m0:wr.cell? ⟨w.heap.size+1,0,none⟩=some (.int .i64 2):=cell_of_row wr _ 0 _ _ _ hNM.mach;have m1:wr.cell? ⟨w.heap.size+1,1,none⟩=some (.slice (some ⟨g2,0,none⟩) 4 cs2):=cell_of_row wr _ 1 _ _ _ hNM.mach;have m2:wr.cell? ⟨w.heap.size+1,2,none⟩=some nv:=cell_of_row wr _ 2 _ _ _ hNM.mach;have hwz:=hNM.bel.size;have HN:=Lib.hid hNM;have HRV:=Lib.hid hrv;have HENT:=Lib.hid hent;have HROW:=Lib.hid hrow;clear hit hNM hrv hent hrow;go_wp2_with (first
      | (at_builtin; refine wpList_append_own _ rfl _ _ 198 rfl w.heap.size 22 l0 (.slice none 0 0) 1 24 Tryz.underlying198 hll hx0 hx1 hx2 rfl (by decide) _ _ _ rfl (own_one HRV.out (one_alloc _ _ wr.heap.size) (.inr fun cur qq h=>by simp at h)) ⟨wr.heap.size,0,none⟩ 1 1 [.slice (some ⟨gk,0,none⟩) 2 ck] rfl rfl (cell_one_new _ _ _) (one_sl _ _ _) (by decide) (by decide) (by simp; omega) ?_; intro v4 W4 hown4 hgrow4 hnil4; obtain⟨g4,cs4,rfl⟩:=ownsRow_succ hown4; obtain⟨M4,N4⟩:=HN.out.nextRow HRV.out HENT.out HROW.out hown4 hgrow4; have o1:W4.cell? ⟨w.heap.size+1,2,none⟩=some nv:=cell_of_row W4 _ 2 _ _ _ M4; have of:=row_f M4; have HN4:=Lib.hid N4; clear hown4 hgrow4 hnil4 M4 N4 m0 m1 m2 hnx)
      | fail)
     exact⟨⟨2+1,rfl,by decide,_,_,_,HN4.out⟩,by decide⟩
  ·
   have hu:=hi;clear hu;have m0:wr.cell? ⟨w.heap.size+1,0,none⟩=some (.int .i64 2):=cell_of_row wr _ 0 _ _ _ hNM.mach;have m1:wr.cell? ⟨w.heap.size+1,1,none⟩=some (.slice (some ⟨g,0,none⟩) 4 cs):=cell_of_row wr _ 1 _ _ _ hNM.mach;have m2:wr.cell? ⟨w.heap.size+1,2,none⟩=some nv:=cell_of_row wr _ 2 _ _ _ hNM.mach;have HNM:=Lib.hid hNM;clear hNM;have hsl:∀W:World,(Instr.slice 9 (.string ⟨#[97,98,99]⟩) none (some (.int .i64 2)) none).run Tryz.prog W=.ok (.string AB) W:=fun _=>by kernel_rfl
   go_wp2_with fail;obtain⟨q,hq0⟩:∃q,q=wr.heap.size:=⟨_,rfl⟩
   obtain⟨Wi,hwi⟩:∃Wi,Wi=wr.iter AB 0:=⟨_,rfl⟩
   have Ni:NM w Wi q g cs 4 nv (oR 3):=by rw[hwi,hq0]; exact HNM.out.one (one_alloc _ _ wr.heap.size) (alien_new _ _) (HNM.out.bel.alloc HNM.out.bel.size _)
   have iti:Wi.heap[q]?=some (.stringIter AB 0):=by rw[hwi,hq0]; exact blk_new _ _
   have hq:w.heap.size<=q:=by rw[hq0]; exact HNM.out.bel.size
   rw[<-hwi,<-hq0];have HNi:=Lib.hid Ni;have HITi:=Lib.hid iti;clear hwi hq0 HNM m0 m1 m2 Ni iti hsl;go_loopw [8] (fun v wr=>∃c:Nat,c<=2/\wr.heap[q]?=some (.stringIter AB c)/\wr.ownsRow q 3 1 v (iR 3 c).length (iV (iR 3 c))/\∃g cs,NM w wr q g cs (iN 3 c) nv (oR 3)) (fun _ wr=>itLeft wr q)
   case atStart=>exact⟨0,by decide,HITi.out,World.ownsRow_nil _ _ _ _,_,_,HNi.out⟩
   case round =>
    clear HNi HITi;obtain⟨c,hc,hit,hrow,g2,cs2,hNM⟩:=hrel;rcases (by omega:c=0∨c=1∨c=2) with rfl | rfl | rfl
    ·
     have hu:=hc;clear hu;have hqW:q < wr.heap.size:=blk_lt hit;have hnx:(Instr.next (.pointer (some ⟨q,0,none⟩)) true 0).run Tryz.prog wr=.ok (.tuple #[.bool true,.int .i64 0,.int .i32 97]) (setBlock wr q (.stringIter AB (0+1))):=next_at 0 hit (by decide) (by decide);obtain⟨W1,h1⟩:∃W1,W1=setBlock wr q (.stringIter AB (0+1)):=⟨_,rfl⟩
     rw[<-h1]at hnx;have it1:W1.heap[q]?=some (.stringIter AB (0+1)):=by rw[h1]; exact sb_new hit
     have N1:NM w W1 q g2 cs2 4 nv (oR 3):=hNM.one (by rw[h1]; exact one_set _ _ _) (.inr (.inl ⟨_,_,hit⟩)) (by rw[h1]; exact sb_below _ hNM.bel hq);have row1:=own_one hrow (by rw[h1]; exact one_set _ _ _:OneCh wr W1 q) (.inr (fun cur qq h=>by rw[hit]at h; cases h));have m0:W1.cell? ⟨w.heap.size+1,0,none⟩=some (.int .i64 2):=cell_of_row W1 _ 0 _ _ _ N1.mach;have m1:W1.cell? ⟨w.heap.size+1,1,none⟩=some (.slice (some ⟨g2,0,none⟩) 4 cs2):=cell_of_row W1 _ 1 _ _ _ N1.mach;have m2:W1.cell? ⟨w.heap.size+1,2,none⟩=some nv:=cell_of_row W1 _ 2 _ _ _ N1.mach;have s0:W1.cell? ⟨g2,3,none⟩=some (.string ⟨#[98,97]⟩):=own_cell N1.own rfl;have hcv:=cv97;have hcat:(⟨#[98,97]⟩:ByteArray) ++ (⟨#[97]⟩:ByteArray)=⟨#[98,97,97]⟩:=by kernel_rfl
     have HA:=Lib.hid (avoids_ok sb cap ⟨#[98,97,97]⟩ true false false (by decide) W1 (HM.out.below N1.bel) (keepc N1.bel HC.out.1) (keepc N1.bel HC.out.2.1) (keepc N1.bel HC.out.2.2) (by kernel_rfl) (by kernel_rfl) (by kernel_rfl));have HIT0:=Lib.hid hit;have HN1:=Lib.hid N1;have HIT1:=Lib.hid it1;have HROW1:=Lib.hid row1;clear h1 it1 N1 row1 hit hNM hrow;go_wp2_with fail;refine HA.out.mono ?_;rintro e W2 ⟨rfl,hb2⟩;have it2:=(hb2.block _ (blk_lt HIT1.out)).trans HIT1.out;have N2:=HN1.out.one (one_below hb2 W1.heap.size) (alien_new _ _) (HN1.out.bel.trans (hb2.mono HN1.out.bel.size));have row2:=own_one HROW1.out (one_below hb2 W1.heap.size) (.inr fun cur qq h=>by simp at h);have hqW2:=blk_lt it2;clear hnx m0 m1 m2 s0 hcv hcat HA HN1 HIT1 HROW1 hb2;have HN2:=Lib.hid N2;have HIT2:=Lib.hid it2;have HROW2:=Lib.hid row2;clear N2 it2 row2;go_wp2_with (first
      | (at_builtin; refine wpList_append_own _ rfl _ _ 22 rfl q 3 i0 (.int .i64 0) 1 8 Tryz.underlying22 hii hz0 hz1 hz2 rfl (by decide) _ _ _ rfl (own_one HROW2.out (one_alloc _ _ q) (.inr fun cur qq h=>by rw[HIT2.out]at h; cases h)) ⟨W2.heap.size,0,none⟩ 1 1 [.int .i64 (-1)] rfl rfl (cell_one_new _ _ _) (one_i _) (by decide) (by decide) (by simp; omega) ?_; intro v5 W5 hown5 hgrow5 hnil5; have NE:=HN2.out.rowed HIT2.out (.int .i64 (-1)) HROW2.out hgrow5 hq; have HN5:=Lib.hid NE.1; have HIT5:=Lib.hid NE.2; have HROW5:=Lib.hid hown5; clear hown5 hgrow5 hnil5 NE)
      | fail)
     go_roundw
     case rel =>
      iterate 61 apply Exists.intro
      exact⟨⟨0+1,by decide,HIT5.out,HROW5.out,_,_,HN5.out⟩,rfl⟩
     case measure=>rw[itLeft_at HIT5.out,itLeft_at HIT0.out]; decide
    ·
     have hu:=hc;clear hu;have hqW:q < wr.heap.size:=blk_lt hit;have hnx:(Instr.next (.pointer (some ⟨q,0,none⟩)) true 0).run Tryz.prog wr=.ok (.tuple #[.bool true,.int .i64 1,.int .i32 98]) (setBlock wr q (.stringIter AB (1+1))):=next_at 0 hit (by decide) (by decide);obtain⟨W1,h1⟩:∃W1,W1=setBlock wr q (.stringIter AB (1+1)):=⟨_,rfl⟩
     rw[<-h1]at hnx;have it1:W1.heap[q]?=some (.stringIter AB (1+1)):=by rw[h1]; exact sb_new hit
     have N1:NM w W1 q g2 cs2 4 nv (oR 3):=hNM.one (by rw[h1]; exact one_set _ _ _) (.inr (.inl ⟨_,_,hit⟩)) (by rw[h1]; exact sb_below _ hNM.bel hq);have row1:=own_one hrow (by rw[h1]; exact one_set _ _ _:OneCh wr W1 q) (.inr (fun cur qq h=>by rw[hit]at h; cases h));have m0:W1.cell? ⟨w.heap.size+1,0,none⟩=some (.int .i64 2):=cell_of_row W1 _ 0 _ _ _ N1.mach;have m1:W1.cell? ⟨w.heap.size+1,1,none⟩=some (.slice (some ⟨g2,0,none⟩) 4 cs2):=cell_of_row W1 _ 1 _ _ _ N1.mach;have m2:W1.cell? ⟨w.heap.size+1,2,none⟩=some nv:=cell_of_row W1 _ 2 _ _ _ N1.mach;have s0:W1.cell? ⟨g2,3,none⟩=some (.string ⟨#[98,97]⟩):=own_cell N1.own rfl;have hcv:=cv98;have hcat:(⟨#[98,97]⟩:ByteArray) ++ (⟨#[98]⟩:ByteArray)=⟨#[98,97,98]⟩:=by kernel_rfl
     have HA:=Lib.hid (avoids_ok sb cap ⟨#[98,97,98]⟩ false true false (by decide) W1 (HM.out.below N1.bel) (keepc N1.bel HC.out.1) (keepc N1.bel HC.out.2.1) (keepc N1.bel HC.out.2.2) (by kernel_rfl) (by kernel_rfl) (by kernel_rfl));have HIT0:=Lib.hid hit;have HN1:=Lib.hid N1;have HIT1:=Lib.hid it1;have HROW1:=Lib.hid row1;clear h1 it1 N1 row1 hit hNM hrow;go_wp2_with fail;refine HA.out.mono ?_;rintro e W2 ⟨rfl,hb2⟩;have it2:=(hb2.block _ (blk_lt HIT1.out)).trans HIT1.out;have N2:=HN1.out.one (one_below hb2 W1.heap.size) (alien_new _ _) (HN1.out.bel.trans (hb2.mono HN1.out.bel.size));have row2:=own_one HROW1.out (one_below hb2 W1.heap.size) (.inr fun cur qq h=>by simp at h);have hqW2:=blk_lt it2;clear hnx m0 m1 m2 s0 hcv hcat HA HN1 HIT1 HROW1 hb2;have HN2:=Lib.hid N2;have HIT2:=Lib.hid it2;have HROW2:=Lib.hid row2;clear N2 it2 row2;go_wp2_with (first
      | (at_builtin; refine wpList_append_own _ rfl _ _ 22 rfl q 3 i0 (.int .i64 0) 1 8 Tryz.underlying22 hii hz0 hz1 hz2 rfl (by decide) _ _ _ rfl (own_one HROW2.out (one_alloc _ _ q) (.inr fun cur qq h=>by rw[HIT2.out]at h; cases h)) ⟨W2.heap.size,0,none⟩ 1 1 [.int .i64 (-1)] rfl rfl (cell_one_new _ _ _) (one_i _) (by decide) (by decide) (by simp; omega) ?_; intro v5 W5 hown5 hgrow5 hnil5; have NE:=HN2.out.rowed HIT2.out (.int .i64 (-1)) HROW2.out hgrow5 hq; have HN5:=Lib.hid NE.1; have HIT5:=Lib.hid NE.2; have HROW5:=Lib.hid hown5; clear hown5 hgrow5 hnil5 NE)
      | fail)
     go_roundw
     case rel =>
      iterate 61 apply Exists.intro
      exact⟨⟨1+1,by decide,HIT5.out,HROW5.out,_,_,HN5.out⟩,rfl⟩
     case measure=>rw[itLeft_at HIT5.out,itLeft_at HIT0.out]; decide
    ·
     have hu:=hc;clear hu;have hnx:(Instr.next (.pointer (some ⟨q,0,none⟩)) true 0).run Tryz.prog wr=.ok (.tuple #[.bool false]) wr:=next_over 0 hit (by decide);obtain⟨gk,ck,rfl⟩:=ownsRow_succ hrow;obtain⟨rvs,hrv,hent⟩:=hNM.nx;have m0:wr.cell? ⟨w.heap.size+1,0,none⟩=some (.int .i64 2):=cell_of_row wr _ 0 _ _ _ hNM.mach;have m1:wr.cell? ⟨w.heap.size+1,1,none⟩=some (.slice (some ⟨g2,0,none⟩) 4 cs2):=cell_of_row wr _ 1 _ _ _ hNM.mach;have m2:wr.cell? ⟨w.heap.size+1,2,none⟩=some nv:=cell_of_row wr _ 2 _ _ _ hNM.mach;have hwz:=hNM.bel.size;have HN:=Lib.hid hNM;have HRV:=Lib.hid hrv;have HENT:=Lib.hid hent;have HROW:=Lib.hid hrow;clear hit hNM hrv hent hrow;go_wp2_with (first
      | (at_builtin; refine wpList_append_own _ rfl _ _ 198 rfl w.heap.size 22 l0 (.slice none 0 0) 1 24 Tryz.underlying198 hll hx0 hx1 hx2 rfl (by decide) _ _ _ rfl (own_one HRV.out (one_alloc _ _ wr.heap.size) (.inr fun cur qq h=>by simp at h)) ⟨wr.heap.size,0,none⟩ 1 1 [.slice (some ⟨gk,0,none⟩) 2 ck] rfl rfl (cell_one_new _ _ _) (one_sl _ _ _) (by decide) (by decide) (by simp; omega) ?_; intro v4 W4 hown4 hgrow4 hnil4; obtain⟨g4,cs4,rfl⟩:=ownsRow_succ hown4; obtain⟨M4,N4⟩:=HN.out.nextRow HRV.out HENT.out HROW.out hown4 hgrow4; have o1:W4.cell? ⟨w.heap.size+1,2,none⟩=some nv:=cell_of_row W4 _ 2 _ _ _ M4; have of:=row_f M4; have HN4:=Lib.hid N4; clear hown4 hgrow4 hnil4 M4 N4 m0 m1 m2 hnx)
      | fail)
     exact⟨⟨3+1,rfl,by decide,_,_,_,HN4.out⟩,by decide⟩
  ·
   have m0:wr.cell? ⟨w.heap.size+1,0,none⟩=some (.int .i64 2):=cell_of_row wr _ 0 _ _ _ hNM.mach;have m1:wr.cell? ⟨w.heap.size+1,1,none⟩=some (.slice (some ⟨g,0,none⟩) 4 cs):=cell_of_row wr _ 1 _ _ _ hNM.mach;have m2:wr.cell? ⟨w.heap.size+1,2,none⟩=some nv:=cell_of_row wr _ 2 _ _ _ hNM.mach;have HNM:=Lib.hid hNM;clear hNM;go_wp2
   go_ret
   exact⟨_,_,_,rfl,HNM.out⟩
end Go.Proofs.YtaffkceklkdokaaGreatDoor
