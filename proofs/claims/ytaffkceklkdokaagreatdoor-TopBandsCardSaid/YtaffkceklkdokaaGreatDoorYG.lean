/- The iterator over the ladder: it gives its values, one after another. -/
import Derived.RangeFuncNested
import Derived.RangeFuncBound
import Derived.RangeFuncCalls
import Derived.RangeFuncLeaves
import Derived.Shelf.Abstract
import Derived.Shelf.RegionOpen
import Derived.WalkKit
import Derived.OwnWalkIn
import Derived.TacticsInMore
import Derived.LoopNIn
import Derived.LoopIn
import Derived.Test.YtaffkceklkdokaaGreatDoorYF
set_option maxRecDepth 100000
set_option maxHeartbeats 4000000
namespace Go.Proofs.YtaffkceklkdokaaGreatDoor.GG
open Go.RowKit Go.Shelf
attribute [local go_sem] Oper.semAt_some
theorem grown_of_below {W W':World} (h:Below W.heap.size W W'):W.grownBy W' none:=⟨h.os,h.tape,h.output,h.size,fun k hk _=>h.block k hk⟩
theorem keeps_of_below {W W':World} (h:Below W.heap.size W W'):KeepsOthers W W':=KeepsOthers.of_grownBy (grown_of_below h) (fun _ _ e=>by cases e)
theorem blk_own {β : Type} (B:Nat) (f : β->Obj) (hc:∀s,(f s).isCells=true):Own (fun s W=>W.heap[B]?=some (f s)):=fun s X Y row hs hg hrow =>
 (hg.block B (blk_lt hs) (fun e'=>by obtain⟨o,ho,hc'⟩:=hrow B e'.symm; rw[hs]at ho; cases ho; rw[hc s]at hc'; cases hc')).trans hs
/-- the value at a position, of a bounded one -/
def lad (k:Nat):Int × Int:=GM.gr 34 ((min k 2000:Nat):Int)
theorem lad_le (k:Nat) (h:k<=2000):lad k=GM.gr 34 (k:Int):=by unfold lad; rw[Nat.min_eq_left h]
theorem lad_bd (k:Nat):0<=(lad k).1/\(lad k).1<=2000/\0<=(lad k).2/\(lad k).2<=2000:=by
 have h:=(GM.gr_isRung ((min k 2000:Nat):Int) (by omega) (by omega)).bounds (by omega);unfold lad;omega
theorem rungs_any (m:Int) (w:World) :
  Calls Tryz.prog 110 #[.int .i64 m] w fun e w'=>e=.returned (.func (.func 134) #[] #[.pointer (some ⟨w.heap.size,0,none⟩)])/\w'=w.alloc (.cells #[.int .i64 m] 3):=by
 have hmf:∀(fn:Fn) (first cap:Array Value) (w:World),(Instr.makeFunc fn first cap).run Tryz.prog w=.ok (.func fn first cap) w:=fun _ _ _ _=>rfl;go_enter Tryz.func110,Tryz.ntmps110;go_wp2_with fail
 go_ret
 exact⟨rfl,rfl⟩
theorem rungs1_in (n:Nat) (hn:1<=n) (l Bn n₀ m:Nat) (hm:m<=1001) (J Jx:List Nat->World->Prop) (W:World) (hJ:AbidesFrom W.heap.size J)
  (hY:∀pre x W,J pre W->pre.length < m->YieldAt Fence.wide (n-1) Tryz.prog l #[.agg #[.int .i64 (lad x).1,.int .i64 (lad x).2]] W fun e W' =>
   (e=.returned (.bool true)/\J (pre ++ [x]) W'/\Below n₀ W W')∨(e=.returned (.bool false)/\Jx (pre ++ [x]) W'))
  (hBn:W.cell? ⟨Bn,0,none⟩=some (.int .i64 m)) (h0:J [] W) :
  CallsIn Fence.wide n Tryz.prog 134 #[.func (.yield l) #[] #[],.pointer (some ⟨Bn,0,none⟩)] W fun e W'=>(∃v,e=.returned v) /\
   ((∃ys,ys=List.range m/\J ys W')∨(∃pre,True/\Jx pre W')):=by
 refine callsIn_of_wp Tryz.func134 rfl trivial ?_ rfl;simp only[Tryz.ntmps134,List.size_toArray,List.length_cons,List.length_nil,Nat.reduceAdd,Nat.reduceSub,Array.replicate_succ,Array.replicate_zero,List.push_toArray,List.append_toArray,List.nil_append,List.cons_append]
 gi_wp2
 gi_loopw [5] (fun p wr=>∃i:Nat,p=.int .i64 i/\i<=m/\J (List.range i) wr/\W.heap.size<=wr.heap.size) (fun p _=>m-(intOf p).toNat)
 case atStart=>exact⟨0,rfl,by omega,h0,Nat.le_refl _⟩
 case round =>
  obtain⟨i,rfl,hi,hJs,hsz⟩:=hrel
  by_cases hlt:i < m
  ·
   have hlt':(i:Int) < m:=by omega
   obtain⟨⟨x,y⟩,hp⟩:∃p,GM.gr 34 (i:Int)=p:=⟨_,rfl⟩
   have HR:=Lib.hid (fun wx=>rung_any (i:Int) wx (by omega) (by omega));have HY:=Lib.hid hY;have hl:=lad_le i (by omega);rw[hp]at HR hl;dsimp only at HR;clear hY
   gi_wp2_with fail
   refine⟨trivial,CallsIn.mono (callsIn_wide.2 (HR.out _)) ?_⟩;rintro e W2 ⟨rfl,hb⟩;have hJ2:J (List.range i) W2:=hJ _ _ _ none hJs (grown_of_below hb) (fun _ e=>by cases e);obtain⟨fn,tmps,assign,body,hy,hR⟩:=HY.out (List.range i) i W2 hJ2 (by simp; omega);rw[hl]at hy;dsimp only at hy;have hsz2:=hb.size;have HRR:=Lib.hid hR;clear hR hb hJ2
   gi_wp2_with fail
   refine HRR.out.mono ?_;rintro e W3 (⟨rfl,hJ3,hk3⟩ | ⟨rfl,hJx3⟩)
   ·
    have hs3:=hk3.size
    gi_wp2
    go_roundw
    case rel=>exact⟨i+1,by simp,by omega,by rw[List.range_succ]; exact hJ3,by omega⟩
    case measure=>simp[intOf]; omega
   ·
    gi_wp2
    refine bodyPost_ret (results_none rfl _ _ _) rfl ?_;exact⟨⟨_,rfl⟩,.inr ⟨_,trivial,hJx3⟩⟩
  ·
   obtain rfl:i=m:=by omega
   have hlt':¬(i:Int) < i:=by omega
   gi_wp2
   go_end0
   first | exact⟨⟨_,rfl⟩,.inl hJs⟩ | exact .inl hJs | exact⟨⟨_,rfl⟩,.inl ⟨_,rfl,hJs⟩⟩
end Go.Proofs.YtaffkceklkdokaaGreatDoor.GG
/- Gaps returns the letters of the first differences of the ladder, or ErrArg. -/
namespace Go.Proofs.YtaffkceklkdokaaGreatDoor.GG
open Go.RowKit Go.Shelf
attribute [local go_sem] Oper.semAt_some
/-- what one more value writes -/
def letter (l x:Int × Int):List UInt8:=if x=(0,0) then [] else if x=(l.1+1,l.2) then [76] else [83]
def gstep (s:(Int × Int) × List UInt8) (k:Nat):(Int × Int) × List UInt8:=(lad k,s.2 ++ letter s.1 (lad k))
def gst (pre:List Nat):(Int × Int) × List UInt8:=pre.foldl gstep ((-1,0),[])
theorem gst_snoc (pre:List Nat) (k:Nat):gst (pre ++ [k])=(lad k,(gst pre).2 ++ letter (gst pre).1 (lad k)):=by simp[gst,gstep]
theorem gst_bd (pre:List Nat) : -1<=(gst pre).1.1/\(gst pre).1.1<=2000/\-1<=(gst pre).1.2/\(gst pre).1.2<=2000:=by
 have key:∀(pre:List Nat) (s:(Int × Int) × List UInt8),(-1<=s.1.1/\s.1.1<=2000/\-1<=s.1.2/\s.1.2<=2000)->(-1<=(pre.foldl gstep s).1.1/\(pre.foldl gstep s).1.1<=2000/\-1<=(pre.foldl gstep s).1.2/\(pre.foldl gstep s).1.2<=2000):=by
  intro pre
  induction pre with
  | nil=>intro s h; exact h
  | cons k pre ih =>
   intro s h;refine ih _ ?_;have:=lad_bd k;unfold gstep;dsimp only;omega
 exact key pre _ (by decide)
theorem gst_len (pre:List Nat):(gst pre).2.length<=pre.length:=by
 have key:∀(pre:List Nat) (s:(Int × Int) × List UInt8),(pre.foldl gstep s).2.length<=s.2.length+pre.length:=by
  intro pre
  induction pre with
  | nil=>intro s; exact Nat.le_refl _
  | cons k pre ih =>
   intro s;have h:=ih (gstep s k);have h2:(gstep s k).2.length<=s.2.length+1:=by
    unfold gstep letter;dsimp only
    split
    · simp
    ·
     split <;> simp
   simp only[List.foldl_cons,List.length_cons];omega
 have:=key pre ((-1,0),[])
 simpa[gst]using this
theorem gst_range (n:Nat) (h:n<=1000):gst (List.range (n+1))=(GM.gr 34 (n:Int),GM.gaps n):=by
 induction n with
 | zero=>decide +kernel
 | succ n ih =>
  rw[List.range_succ,gst_snoc,ih (by omega),lad_le (n+1) (by omega),GM.gaps_succ];have h0:=GM.gr_ne n (by omega);unfold letter;dsimp only;rw[if_neg (fun e=>h0 ⟨congrArg Prod.fst e,congrArg Prod.snd e⟩)]
  congr 2
  unfold GM.gap
  by_cases h1:(GM.gr 34 ((n+1:Nat):Int)).1=(GM.gr 34 (n:Int)).1+1/\(GM.gr 34 ((n+1:Nat):Int)).2=(GM.gr 34 (n:Int)).2
  · rw[if_pos h1,if_pos (show GM.gr 34 ((n+1:Nat):Int)=((GM.gr 34 (n:Int)).1+1,(GM.gr 34 (n:Int)).2) from Prod.ext h1.1 h1.2)]
  · rw[if_neg h1,if_neg (fun e=>h1 (Prod.ext_iff.1 e))]
theorem str_snoc (l:List UInt8) (c:UInt8):(⟨l.toArray⟩:ByteArray) ++ ⟨#[c]⟩=⟨(l ++ [c]).toArray⟩:=by
 have h:((⟨l.toArray⟩:ByteArray) ++ ⟨#[c]⟩).data=(l ++ [c]).toArray:=by simp[ByteArray.data_append]
 exact congrArg ByteArray.mk h
theorem Gaps_yes (n : Nat) (w : World) (hn : n <= 1000) :
    Calls Tryz.prog 100 #[.int .i64 n] w fun e w' => e = .returned (.tuple #[.string ⟨(GM.gaps n).toArray⟩, .int .i64 0]) /\ Below w.heap.size w w' := by
  have hb : (decide (0 <= (n : Int)) && decide ((n : Int) <= 1000)) = true := by simp; omega
  have HB := Lib.hid hb
  have hn1 : (n : Int) + 1 <= 1001 := by omega
  clear hb
  refine (callsIn_wide (n := 9)).1 ?_
  refine callsIn_of_wp_marks Tryz.func100 rfl trivial ?_ rfl
  simp only [Tryz.ntmps100, List.size_toArray, List.length_cons, List.length_nil, Nat.reduceAdd, Nat.reduceSub, Array.replicate_succ, Array.replicate_zero, List.push_toArray, List.append_toArray, List.nil_append, List.cons_append]
  gi_wp2_with (first
    | (refine ⟨trivial, ?_⟩; gi_at_call 33; refine CallsIn.mono (callsIn_wide.2 (within_any _ _ _ _)) ?_; rintro e w' ⟨rfl, rfl⟩; rw [HB.out])
    | (refine ⟨trivial, ?_⟩; gi_at_call 110; refine CallsIn.mono (callsIn_wide.2 (rungs_any _ _)) ?_; rintro e w' ⟨rfl, rfl⟩)
    | fail)
  obtain ⟨W0, h0⟩ : ∃ W0, W0 = (((w.alloc (.cells #[.string ⟨#[]⟩] 9)).alloc (.cells #[.int .i64 (-1), .int .i64 0] 43)).alloc (.cells #[.int .i64 ((n : Int) + 1)] 3)) := ⟨_, rfl⟩
  rw [<- h0]
  have D0 : W0.heap[w.heap.size]? = some (.cells #[.string ⟨#[]⟩] 9 (0, 0)) := by rw [h0]; exact (by repeat (first | assumption | (with_reducible apply blk_set2) | (with_reducible apply blk_set1) | (with_reducible refine blk_far2 ?_ ?_; (first | omega | (simp; done) | (simp; omega))) | (with_reducible refine blk_far1 ?_ ?_; (first | omega | (simp; done) | (simp; omega))) | (with_reducible refine blk_new' _ _ ?_; (first | omega | (simp; done) | (simp; omega))) | (with_reducible refine blk_old ?_) | (with_reducible refine blk_drew ?_)))
  have L0 : W0.heap[w.heap.size + 1]? = some (.cells #[.int .i64 (-1), .int .i64 0] 43 (0, 0)) := by rw [h0]; exact (by repeat (first | assumption | (with_reducible apply blk_set2) | (with_reducible apply blk_set1) | (with_reducible refine blk_far2 ?_ ?_; (first | omega | (simp; done) | (simp; omega))) | (with_reducible refine blk_far1 ?_ ?_; (first | omega | (simp; done) | (simp; omega))) | (with_reducible refine blk_new' _ _ ?_; (first | omega | (simp; done) | (simp; omega))) | (with_reducible refine blk_old ?_) | (with_reducible refine blk_drew ?_)))
  have N0 : W0.heap[w.heap.size + 1 + 1]? = some (.cells #[.int .i64 ((n : Int) + 1)] 3 (0, 0)) := by rw [h0]; exact (by repeat (first | assumption | (with_reducible apply blk_set2) | (with_reducible apply blk_set1) | (with_reducible refine blk_far2 ?_ ?_; (first | omega | (simp; done) | (simp; omega))) | (with_reducible refine blk_far1 ?_ ?_; (first | omega | (simp; done) | (simp; omega))) | (with_reducible refine blk_new' _ _ ?_; (first | omega | (simp; done) | (simp; omega))) | (with_reducible refine blk_old ?_) | (with_reducible refine blk_drew ?_)))
  have B0 : Below w.heap.size w W0 := by rw [h0]; exact (by repeat (first | exact Below.refl _ _ | exact Nat.le_refl _ | refine Below.alloc ?_ ?_ _ | refine Below.setCell ?_ ?_ _ | refine Below.drew ?_ | refine bl_drewN ?_ _ | (assumption) | refine bl_call ?_ (by assumption) ?_ | omega | (simp <;> omega)))
  have hsz : W0.heap.size = w.heap.size + 3 := by rw [h0]; simp
  clear h0
  refine wpIn_rangeFunc_ownH (α := Nat) rfl (by omega) (gf := 134) (lb := #[.pointer (some ⟨w.heap.size + 1 + 1, 0, none⟩)]) rfl trivial (enters_of Tryz.func134 (by kernel_rfl) rfl)
    (encs := fun k => #[.agg #[.int .i64 (lad k).1, .int .i64 (lad k).2]]) (Kp := Below w.heap.size) (S := fun ys => ys = List.range (n + 1)) (Sp := fun _ => True) (N := n + 1) (w0 := W0)
    (fun l J Jx W hW hJ _ hY h0 => rungs1_in 8 (by omega) l _ w.heap.size (n + 1) (by omega) J Jx W hJ hY (row1_0 ((hW.block _ (blk_lt N0)).trans N0)) h0)
    belowK_t (belowK_b (by omega)) (Below.refl _ _) (fun _ => rfl)
    (fun pre W => (W.heap[w.heap.size]? = some (.cells #[.string ⟨(gst pre).2.toArray⟩] 9 (0, 0)) /\ W.heap[w.heap.size + 1]? = some (.cells #[.int .i64 (gst pre).1.1, .int .i64 (gst pre).1.2] 43 (0, 0))) /\ Below w.heap.size w W)
    (fun _ _ _ => False)
    (OwnFrom.and (OwnFrom.and (Own.from (blk_own _ _ (fun _ => rfl)) _) (Own.from (blk_own _ _ (fun _ => rfl)) _)) (ownFrom_below (Nat.le_refl _) (by omega)))
    (fun _ _ _ _ _ hs _ _ => hs)
    ⟨⟨D0, L0⟩, B0⟩
    (fun k a' W => ∃ Bx, w.heap.size + 1 < Bx /\ W.heap[Bx]? = some (.cells #[.int .i64 (lad k).1, .int .i64 (lad k).2] 43 (0, 0)) /\ a' = { tmps := #[.int .i64 n, undef, .string ⟨#[]⟩, .int .i64 0, .pointer (some ⟨w.heap.size, 0, none⟩), .pointer (some ⟨w.heap.size + 1, 0, none⟩), .pointer (some ⟨Bx, 0, none⟩), .int .i64 n, .bool true, .bool false, .agg #[.int .i64 (-1), .int .i64 0], .int .i64 n, .int .i64 ((n : Int) + 1), .func (.func 134) #[] #[.pointer (some ⟨w.heap.size + 1 + 1, 0, none⟩)], .agg #[.int .i64 (lad k).1, .int .i64 (lad k).2], undef, undef, undef, undef, undef, undef, undef, undef, undef, undef, undef, undef, undef, undef, undef, undef], defers := [] })
    (fun k a' _ X Y row hs hg hr => by obtain ⟨Bx, h1, h2, h3⟩ := hs; exact ⟨Bx, h1, blk_own (β := Unit) Bx (fun _ => _) (fun _ => rfl) () X Y row h2 hg (fun r e => (hr r e).2), h3⟩)
    ?assign ?body ?done ?stop
  case assign =>
    rintro l pre k W K ⟨⟨S1, L1⟩, B1⟩ hK
    obtain ⟨⟨x, y⟩, hp⟩ : ∃ p, lad k = p := ⟨_, rfl⟩
    have HK := Lib.hid hK
    rw [hp]
    have HP := Lib.hid hp
    clear hK hp
    gi_wp2
    exact HK.out _ _ ((KeepsOthers.alloc _ _).from _) ((Below.refl _ W).alloc B1.size _) ⟨⟨blk_old S1, blk_old L1⟩, B1.alloc B1.size _⟩ ⟨W.heap.size, blk_lt L1, by rw [HP.out]; exact blk_new _ _, by rw [HP.out]⟩
  case body =>
    rintro l pre k a' W hl ⟨r, hr⟩ ⟨⟨S1, L1⟩, B1⟩ ⟨Bx, hBx, X1, rfl⟩ hlt
    have hbd := lad_bd k
    have hgd := gst_bd pre
    have hgl := gst_len pre
    have hsn := gst_snoc pre k
    obtain ⟨⟨x, y⟩, hp⟩ : ∃ p, lad k = p := ⟨_, rfl⟩
    obtain ⟨⟨⟨a, b⟩, out⟩, hg⟩ : ∃ p, gst pre = p := ⟨_, rfl⟩
    rw [hp] at X1 hbd hsn ⊢
    rw [hg] at S1 L1 hgd hsn hgl
    dsimp only at X1 hbd S1 L1 hgd hsn hgl ⊢
    have HSN := Lib.hid hsn
    clear hsn
    clear hr hp hg
    have hlt2 := hlt
    have s0 := row1_0 S1
    have sf := row_f S1
    have l0 := row2_0 L1
    have l1 := row2_1 L1
    have lf := row_f L1
    have x0 := row2_0 X1
    have x1 := row2_1 X1
    have HS1 := Lib.hid S1
    have HL1 := Lib.hid L1
    have HX1 := Lib.hid X1
    clear S1 L1 X1 hlt2
    have hz : (x = 0 /\ y = 0) ∨ ¬ x = 0 ∨ (x = 0 /\ ¬ y = 0) := by omega
    have he : (x = a + 1 /\ y = b) ∨ ¬ x = a + 1 ∨ (x = a + 1 /\ ¬ y = b) := by omega
    have hol : ¬ 9223372036854775807 < out.length + 1 := by omega
    have hmix : Tryz.prog.follows .mixedOrders = true := by kernel_rfl
    have hWs := B1.size
    rcases hz with ⟨rfl, rfl⟩ | hz | ⟨rfl, hz⟩
    · have HLT := Lib.hid (show letter (a, b) (0, 0) = [] from if_pos rfl)
      gi_wp2
      refine ⟨((KeepsOthers.setCell _ _ _).trans (KeepsOthers.setCell _ _ _)).from _, (by repeat (first | exact Below.refl _ _ | exact Nat.le_refl _ | refine Below.alloc ?_ ?_ _ | refine Below.setCell ?_ ?_ _ | refine Below.drew ?_ | refine bl_drewN ?_ _ | (assumption) | refine bl_call ?_ (by assumption) ?_ | omega | (simp <;> omega))), ⟨?_, ?_⟩, (by repeat (first | exact Below.refl _ _ | exact Nat.le_refl _ | refine Below.alloc ?_ ?_ _ | refine Below.setCell ?_ ?_ _ | refine Below.drew ?_ | refine bl_drewN ?_ _ | (assumption) | refine bl_call ?_ (by assumption) ?_ | omega | (simp <;> omega)))⟩
      · rw [HSN.out]
        dsimp only
        rw [HLT.out, List.append_nil]
        have t1 := HS1.out
        exact (by repeat (first | assumption | (with_reducible apply blk_set2) | (with_reducible apply blk_set1) | (with_reducible refine blk_far2 ?_ ?_; (first | omega | (simp; done) | (simp; omega))) | (with_reducible refine blk_far1 ?_ ?_; (first | omega | (simp; done) | (simp; omega))) | (with_reducible refine blk_new' _ _ ?_; (first | omega | (simp; done) | (simp; omega))) | (with_reducible refine blk_old ?_) | (with_reducible refine blk_drew ?_)))
      · rw [HSN.out]
        have t1 := HL1.out
        exact (by repeat (first | assumption | (with_reducible apply blk_set2) | (with_reducible apply blk_set1) | (with_reducible refine blk_far2 ?_ ?_; (first | omega | (simp; done) | (simp; omega))) | (with_reducible refine blk_far1 ?_ ?_; (first | omega | (simp; done) | (simp; omega))) | (with_reducible refine blk_new' _ _ ?_; (first | omega | (simp; done) | (simp; omega))) | (with_reducible refine blk_old ?_) | (with_reducible refine blk_drew ?_)))
    · gi_wp2
      rename_i Q1 K1 hK1 K2 hK2
      have tail : ∀ (r : Bool) (w3 : World), KeepsOthers W w3 -> Below w.heap.size W w3 -> w3.heap[w.heap.size]? = some (.cells #[.string ⟨out.toArray⟩] 9 (0, 0)) -> w3.heap[w.heap.size + 1]? = some (.cells #[.int .i64 a, .int .i64 b] 43 (0, 0)) -> w3.heap[Bx]? = some (.cells #[.int .i64 (x), .int .i64 (y)] 43 (0, 0)) -> letter (a, b) (x, y) = (if r = true then [76] else [83]) ->
          K2 { tmps := #[.int .i64 n, undef, .string ⟨#[]⟩, .int .i64 0, .pointer (some ⟨w.heap.size, 0, none⟩), .pointer (some ⟨w.heap.size + 1, 0, none⟩), .pointer (some ⟨Bx, 0, none⟩), .int .i64 n, .bool true, .bool false, .agg #[.int .i64 (-1), .int .i64 0], .int .i64 n, .int .i64 ((n : Int) + 1), .func (.func 134) #[] #[.pointer (some ⟨w.heap.size + 1 + 1, 0, none⟩)], .agg #[.int .i64 (x), .int .i64 (y)], undef, undef, .bool false, .agg #[.int .i64 (x), .int .i64 (y)], .agg #[.int .i64 0, .int .i64 0], .bool false, .bool r, .agg #[.int .i64 (x), .int .i64 (y)], .agg #[.int .i64 a, .int .i64 b], .agg #[.int .i64 1, .int .i64 0], .agg #[.int .i64 (a + 1), .int .i64 b], .bool r, undef, undef, undef, undef], defers := [] } w3 := by
        intro r w3 hK3 BW S3 L3 X3 HLT
        clear s0 sf l0 l1 lf x0 x1
        have s0 := row1_0 S3
        have sf := row_f S3
        have l0 := row2_0 L3
        have l1 := row2_1 L3
        have lf := row_f L3
        have x0 := row2_0 X3
        have x1 := row2_1 X3
        have B3 : Below w.heap.size w w3 := B1.trans BW
        have HS3 := Lib.hid S3
        have HL3 := Lib.hid L3
        have HL := Lib.hid HLT
        clear S3 L3 X3 HLT
        refine hK2 _ _ ?_
        cases r
        all_goals
          gi_wp2
          refine ⟨(hK3.trans ((KeepsOthers.setCell _ _ _).trans ((KeepsOthers.setCell _ _ _).trans (KeepsOthers.setCell _ _ _)))).from _, (by repeat (first | exact Below.refl _ _ | exact Nat.le_refl _ | refine Below.alloc ?_ ?_ _ | refine Below.setCell ?_ ?_ _ | refine Below.drew ?_ | refine bl_drewN ?_ _ | (assumption) | refine bl_call ?_ (by assumption) ?_ | omega | (simp <;> omega))), ⟨?_, ?_⟩, (by repeat (first | exact Below.refl _ _ | exact Nat.le_refl _ | refine Below.alloc ?_ ?_ _ | refine Below.setCell ?_ ?_ _ | refine Below.drew ?_ | refine bl_drewN ?_ _ | (assumption) | refine bl_call ?_ (by assumption) ?_ | omega | (simp <;> omega)))⟩
          · rw [HSN.out]
            dsimp only
            rw [HL.out]
            simp only [Bool.false_eq_true, if_true, if_false]
            rw [<- str_snoc]
            have t1 := HS3.out
            exact (by repeat (first | assumption | (with_reducible apply blk_set2) | (with_reducible apply blk_set1) | (with_reducible refine blk_far2 ?_ ?_; (first | omega | (simp; done) | (simp; omega))) | (with_reducible refine blk_far1 ?_ ?_; (first | omega | (simp; done) | (simp; omega))) | (with_reducible refine blk_new' _ _ ?_; (first | omega | (simp; done) | (simp; omega))) | (with_reducible refine blk_old ?_) | (with_reducible refine blk_drew ?_)))
          · rw [HSN.out]
            dsimp only
            have t1 := HL3.out
            exact (by repeat (first | assumption | (with_reducible apply blk_set2) | (with_reducible apply blk_set1) | (with_reducible refine blk_far2 ?_ ?_; (first | omega | (simp; done) | (simp; omega))) | (with_reducible refine blk_far1 ?_ ?_; (first | omega | (simp; done) | (simp; omega))) | (with_reducible refine blk_new' _ _ ?_; (first | omega | (simp; done) | (simp; omega))) | (with_reducible refine blk_old ?_) | (with_reducible refine blk_drew ?_)))
      rcases he with ⟨rfl, rfl⟩ | he | ⟨rfl, he⟩
      · have HLT := Lib.hid (show letter (a, y) (a + 1, y) = [76] from (if_neg (fun e => hz (congrArg Prod.fst e))).trans (if_pos rfl))
        gi_region_with_o (refine ⟨trivial, ?_⟩; gi_at_call 111; refine CallsIn.mono (CallsIn.inRound l (callsIn_wide.2 (plus_any _ _ _ _ _ (by omega) (by omega) (by omega) (by omega)))) ?_; rintro e w3 ⟨rfl, hb⟩; have S3 : w3.heap[w.heap.size]? = _ := (hb.block _ (blk_lt HS1.out)).trans HS1.out; have L3 : w3.heap[w.heap.size + 1]? = _ := (hb.block _ (blk_lt HL1.out)).trans HL1.out; have X3 : w3.heap[Bx]? = _ := (hb.block _ (blk_lt HX1.out)).trans HX1.out; clear x0 x1; have x0 := row2_0 X3; have x1 := row2_1 X3; have hK3 : KeepsOthers W w3 := (KeepsOthers.drew W).trans (keeps_of_below hb); have BW : Below w.heap.size W w3 := bl_call ((Below.refl _ _).drew) hb hWs; have HS3 := Lib.hid S3; have HL3 := Lib.hid L3; have HX3 := Lib.hid X3; clear S3 L3 X3 hb)
        all_goals exact tail true _ hK3 BW HS3.out HL3.out HX3.out HLT.out
      · have HLT := Lib.hid (show letter (a, b) (x, y) = [83] from (if_neg (fun e => hz (congrArg Prod.fst e))).trans (if_neg (fun e => he (congrArg Prod.fst e))))
        gi_region_with_o (refine ⟨trivial, ?_⟩; gi_at_call 111; refine CallsIn.mono (CallsIn.inRound l (callsIn_wide.2 (plus_any _ _ _ _ _ (by omega) (by omega) (by omega) (by omega)))) ?_; rintro e w3 ⟨rfl, hb⟩; have S3 : w3.heap[w.heap.size]? = _ := (hb.block _ (blk_lt HS1.out)).trans HS1.out; have L3 : w3.heap[w.heap.size + 1]? = _ := (hb.block _ (blk_lt HL1.out)).trans HL1.out; have X3 : w3.heap[Bx]? = _ := (hb.block _ (blk_lt HX1.out)).trans HX1.out; clear x0 x1; have x0 := row2_0 X3; have x1 := row2_1 X3; have hK3 : KeepsOthers W w3 := (KeepsOthers.drew W).trans (keeps_of_below hb); have BW : Below w.heap.size W w3 := bl_call ((Below.refl _ _).drew) hb hWs; have HS3 := Lib.hid S3; have HL3 := Lib.hid L3; have HX3 := Lib.hid X3; clear S3 L3 X3 hb)
        all_goals exact tail false _ hK3 BW HS3.out HL3.out HX3.out HLT.out
      · have HLT := Lib.hid (show letter (a, b) (a + 1, y) = [83] from (if_neg (fun e => hz (congrArg Prod.fst e))).trans (if_neg (fun e => he (congrArg Prod.snd e))))
        gi_region_with_o (refine ⟨trivial, ?_⟩; gi_at_call 111; refine CallsIn.mono (CallsIn.inRound l (callsIn_wide.2 (plus_any _ _ _ _ _ (by omega) (by omega) (by omega) (by omega)))) ?_; rintro e w3 ⟨rfl, hb⟩; have S3 : w3.heap[w.heap.size]? = _ := (hb.block _ (blk_lt HS1.out)).trans HS1.out; have L3 : w3.heap[w.heap.size + 1]? = _ := (hb.block _ (blk_lt HL1.out)).trans HL1.out; have X3 : w3.heap[Bx]? = _ := (hb.block _ (blk_lt HX1.out)).trans HX1.out; clear x0 x1; have x0 := row2_0 X3; have x1 := row2_1 X3; have hK3 : KeepsOthers W w3 := (KeepsOthers.drew W).trans (keeps_of_below hb); have BW : Below w.heap.size W w3 := bl_call ((Below.refl _ _).drew) hb hWs; have HS3 := Lib.hid S3; have HL3 := Lib.hid L3; have HX3 := Lib.hid X3; clear S3 L3 X3 hb)
        all_goals exact tail false _ hK3 BW HS3.out HL3.out HX3.out HLT.out
    · gi_wp2
      rename_i Q1 K1 hK1 K2 hK2
      have tail : ∀ (r : Bool) (w3 : World), KeepsOthers W w3 -> Below w.heap.size W w3 -> w3.heap[w.heap.size]? = some (.cells #[.string ⟨out.toArray⟩] 9 (0, 0)) -> w3.heap[w.heap.size + 1]? = some (.cells #[.int .i64 a, .int .i64 b] 43 (0, 0)) -> w3.heap[Bx]? = some (.cells #[.int .i64 (0), .int .i64 (y)] 43 (0, 0)) -> letter (a, b) (0, y) = (if r = true then [76] else [83]) ->
          K2 { tmps := #[.int .i64 n, undef, .string ⟨#[]⟩, .int .i64 0, .pointer (some ⟨w.heap.size, 0, none⟩), .pointer (some ⟨w.heap.size + 1, 0, none⟩), .pointer (some ⟨Bx, 0, none⟩), .int .i64 n, .bool true, .bool false, .agg #[.int .i64 (-1), .int .i64 0], .int .i64 n, .int .i64 ((n : Int) + 1), .func (.func 134) #[] #[.pointer (some ⟨w.heap.size + 1 + 1, 0, none⟩)], .agg #[.int .i64 (0), .int .i64 (y)], undef, undef, .bool false, .agg #[.int .i64 (0), .int .i64 (y)], .agg #[.int .i64 0, .int .i64 0], .bool false, .bool r, .agg #[.int .i64 (0), .int .i64 (y)], .agg #[.int .i64 a, .int .i64 b], .agg #[.int .i64 1, .int .i64 0], .agg #[.int .i64 (a + 1), .int .i64 b], .bool r, undef, undef, undef, undef], defers := [] } w3 := by
        intro r w3 hK3 BW S3 L3 X3 HLT
        clear s0 sf l0 l1 lf x0 x1
        have s0 := row1_0 S3
        have sf := row_f S3
        have l0 := row2_0 L3
        have l1 := row2_1 L3
        have lf := row_f L3
        have x0 := row2_0 X3
        have x1 := row2_1 X3
        have B3 : Below w.heap.size w w3 := B1.trans BW
        have HS3 := Lib.hid S3
        have HL3 := Lib.hid L3
        have HL := Lib.hid HLT
        clear S3 L3 X3 HLT
        refine hK2 _ _ ?_
        cases r
        all_goals
          gi_wp2
          refine ⟨(hK3.trans ((KeepsOthers.setCell _ _ _).trans ((KeepsOthers.setCell _ _ _).trans (KeepsOthers.setCell _ _ _)))).from _, (by repeat (first | exact Below.refl _ _ | exact Nat.le_refl _ | refine Below.alloc ?_ ?_ _ | refine Below.setCell ?_ ?_ _ | refine Below.drew ?_ | refine bl_drewN ?_ _ | (assumption) | refine bl_call ?_ (by assumption) ?_ | omega | (simp <;> omega))), ⟨?_, ?_⟩, (by repeat (first | exact Below.refl _ _ | exact Nat.le_refl _ | refine Below.alloc ?_ ?_ _ | refine Below.setCell ?_ ?_ _ | refine Below.drew ?_ | refine bl_drewN ?_ _ | (assumption) | refine bl_call ?_ (by assumption) ?_ | omega | (simp <;> omega)))⟩
          · rw [HSN.out]
            dsimp only
            rw [HL.out]
            simp only [Bool.false_eq_true, if_true, if_false]
            rw [<- str_snoc]
            have t1 := HS3.out
            exact (by repeat (first | assumption | (with_reducible apply blk_set2) | (with_reducible apply blk_set1) | (with_reducible refine blk_far2 ?_ ?_; (first | omega | (simp; done) | (simp; omega))) | (with_reducible refine blk_far1 ?_ ?_; (first | omega | (simp; done) | (simp; omega))) | (with_reducible refine blk_new' _ _ ?_; (first | omega | (simp; done) | (simp; omega))) | (with_reducible refine blk_old ?_) | (with_reducible refine blk_drew ?_)))
          · rw [HSN.out]
            dsimp only
            have t1 := HL3.out
            exact (by repeat (first | assumption | (with_reducible apply blk_set2) | (with_reducible apply blk_set1) | (with_reducible refine blk_far2 ?_ ?_; (first | omega | (simp; done) | (simp; omega))) | (with_reducible refine blk_far1 ?_ ?_; (first | omega | (simp; done) | (simp; omega))) | (with_reducible refine blk_new' _ _ ?_; (first | omega | (simp; done) | (simp; omega))) | (with_reducible refine blk_old ?_) | (with_reducible refine blk_drew ?_)))
      rcases he with ⟨he0, rfl⟩ | he | ⟨he0, he⟩
      · obtain rfl : a = -1 := by omega
        clear he0
        have HLT := Lib.hid (show letter (-1, y) (0, y) = [76] from (if_neg (fun e => hz (congrArg Prod.snd e))).trans (if_pos rfl))
        gi_region_with_o (refine ⟨trivial, ?_⟩; gi_at_call 111; refine CallsIn.mono (CallsIn.inRound l (callsIn_wide.2 (plus_any _ _ _ _ _ (by omega) (by omega) (by omega) (by omega)))) ?_; rintro e w3 ⟨rfl, hb⟩; have S3 : w3.heap[w.heap.size]? = _ := (hb.block _ (blk_lt HS1.out)).trans HS1.out; have L3 : w3.heap[w.heap.size + 1]? = _ := (hb.block _ (blk_lt HL1.out)).trans HL1.out; have X3 : w3.heap[Bx]? = _ := (hb.block _ (blk_lt HX1.out)).trans HX1.out; clear x0 x1; have x0 := row2_0 X3; have x1 := row2_1 X3; have hK3 : KeepsOthers W w3 := (KeepsOthers.drew W).trans (keeps_of_below hb); have BW : Below w.heap.size W w3 := bl_call ((Below.refl _ _).drew) hb hWs; have HS3 := Lib.hid S3; have HL3 := Lib.hid L3; have HX3 := Lib.hid X3; clear S3 L3 X3 hb)
        all_goals exact tail true _ hK3 BW HS3.out HL3.out HX3.out HLT.out
      · have HLT := Lib.hid (show letter (a, b) (0, y) = [83] from (if_neg (fun e => hz (congrArg Prod.snd e))).trans (if_neg (fun e => he (congrArg Prod.fst e))))
        gi_region_with_o (refine ⟨trivial, ?_⟩; gi_at_call 111; refine CallsIn.mono (CallsIn.inRound l (callsIn_wide.2 (plus_any _ _ _ _ _ (by omega) (by omega) (by omega) (by omega)))) ?_; rintro e w3 ⟨rfl, hb⟩; have S3 : w3.heap[w.heap.size]? = _ := (hb.block _ (blk_lt HS1.out)).trans HS1.out; have L3 : w3.heap[w.heap.size + 1]? = _ := (hb.block _ (blk_lt HL1.out)).trans HL1.out; have X3 : w3.heap[Bx]? = _ := (hb.block _ (blk_lt HX1.out)).trans HX1.out; clear x0 x1; have x0 := row2_0 X3; have x1 := row2_1 X3; have hK3 : KeepsOthers W w3 := (KeepsOthers.drew W).trans (keeps_of_below hb); have BW : Below w.heap.size W w3 := bl_call ((Below.refl _ _).drew) hb hWs; have HS3 := Lib.hid S3; have HL3 := Lib.hid L3; have HX3 := Lib.hid X3; clear S3 L3 X3 hb)
        all_goals exact tail false _ hK3 BW HS3.out HL3.out HX3.out HLT.out
      · obtain rfl : a = -1 := by omega
        clear he0
        have HLT := Lib.hid (show letter (-1, b) (0, y) = [83] from (if_neg (fun e => hz (congrArg Prod.snd e))).trans (if_neg (fun e => he (congrArg Prod.snd e))))
        gi_region_with_o (refine ⟨trivial, ?_⟩; gi_at_call 111; refine CallsIn.mono (CallsIn.inRound l (callsIn_wide.2 (plus_any _ _ _ _ _ (by omega) (by omega) (by omega) (by omega)))) ?_; rintro e w3 ⟨rfl, hb⟩; have S3 : w3.heap[w.heap.size]? = _ := (hb.block _ (blk_lt HS1.out)).trans HS1.out; have L3 : w3.heap[w.heap.size + 1]? = _ := (hb.block _ (blk_lt HL1.out)).trans HL1.out; have X3 : w3.heap[Bx]? = _ := (hb.block _ (blk_lt HX1.out)).trans HX1.out; clear x0 x1; have x0 := row2_0 X3; have x1 := row2_1 X3; have hK3 : KeepsOthers W w3 := (KeepsOthers.drew W).trans (keeps_of_below hb); have BW : Below w.heap.size W w3 := bl_call ((Below.refl _ _).drew) hb hWs; have HS3 := Lib.hid S3; have HL3 := Lib.hid L3; have HX3 := Lib.hid X3; clear S3 L3 X3 hb)
        all_goals exact tail false _ hK3 BW HS3.out HL3.out HX3.out HLT.out
  case done =>
    rintro D zs W hD rfl ⟨⟨S1, L1⟩, B1⟩ hK
    rw [gst_range n hn] at S1
    have cS := row1_0 S1
    dsimp only at cS
    clear S1 L1
    gi_wp2
    refine ⟨by simp, .inl ⟨_, _, rfl, run_takeDeferred hK, ?_⟩⟩
    exact ⟨.tuple #[.string ⟨(GM.gaps n).toArray⟩, .int .i64 0], by simp [results, Tryz.results100, go_sem], rfl, B1.trans (belowK_b (w := w) (Nat.le_refl _) W D _ _ (by omega) hK rfl rfl)⟩
  case stop =>
    rintro D c pre W _ _ h _
    exact h.elim
end Go.Proofs.YtaffkceklkdokaaGreatDoor.GG
