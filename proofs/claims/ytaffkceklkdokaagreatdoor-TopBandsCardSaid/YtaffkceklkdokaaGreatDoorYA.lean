/- Plain mathematics of the numbers a + b w: their order, the ladder, the plain texts. -/
import Derived.Test.YtaffkceklkdokaaGreatDoorProg
import Derived.WalkKit
import Derived.Below
import Derived.Lib.Hide
import Derived.Deep.QuietTactic
import Derived.BigQuiet
set_option maxHeartbeats 400000
namespace Go.Proofs.YtaffkceklkdokaaGreatDoor.GM
theorem sq_lt_of (a b:Int) (hb:0<=b) (h:a * a < b * b):a < b:=by
 by_cases h1:a < b
 · exact h1
 · have:=Int.mul_le_mul (show b<=a by omega) (show b<=a by omega) hb (by omega); omega
theorem no_root_aux (n:Nat):∀s c:Nat,c<=n->s * s=5 * (c * c)->c=0:=by
 induction n with
 | zero=>intro s c h _; omega
 | succ n ih =>
  intro s c h e;have h5:s % 5=0:=by
   have hd:(s * s) % 5=0:=by omega
   rw[Nat.mul_mod]at hd;have hb:s % 5 < 5:=Nat.mod_lt _ (by omega);generalize s % 5=r at *
   match r,hb,hd with
   | 0,_,_=>rfl
   | 1,_,hd=>simp at hd
   | 2,_,hd=>simp at hd
   | 3,_,hd=>simp at hd
   | 4,_,hd=>simp at hd
  obtain⟨t,rfl⟩:∃t,s=5 * t:=⟨s / 5,by omega⟩
  have e2:c * c=5 * (t * t):=by
   have:5 * t * (5 * t)=5 * (5 * (t * t)):=by grind
   omega
  by_cases hc:c=0
  · exact hc
  ·
   have hlt:t < c:=by
    rcases Nat.lt_or_ge t c with h1 | h1
    · exact h1
    · have h2:=Nat.mul_le_mul h1 h1;have h3:0 < c * c:=Nat.mul_pos (by omega) (by omega);omega
   have h0:t=0:=ih c t (by omega) e2;subst h0;rcases Nat.mul_eq_zero.1 (show c * c=0 by simpa using e2) with h | h <;> exact h
theorem no_root (s c:Int) (e:s * s=5 * (c * c)):c=0:=by
 have h:=no_root_aux c.natAbs s.natAbs c.natAbs (Nat.le_refl _) (by
  have e1:((s.natAbs * s.natAbs:Nat):Int)=s * s:=Int.natAbs_mul_self;have e2:((c.natAbs * c.natAbs:Nat):Int)=c * c:=Int.natAbs_mul_self;omega)
 omega
/-- the sign of a + b w -/
def sgn (a b:Int):Int :=
 if 2 * a+b=0/\b=0 then 0
 else if 0<=2 * a+b/\0<=b then 1
 else if 2 * a+b<=0/\b<=0 then -1
 else if (decide (0 < 2 * a+b) == decide (5 * b * b < (2 * a+b) * (2 * a+b))) then 1 else -1
theorem key_pos (P l d s c:Int) (hP:0 < P) (hd:l * l=5 * (P * P)+d) (hs:0<=s)
  (hb:d * (c * c) < P * P) (h:5 * (c * c) < s * s):l * c < P * s:=by
 have hs0:0<=P * s:=Int.mul_nonneg (by omega) hs;apply sq_lt_of _ _ hs0;have h1:0<=(P * P) * (s * s-5 * (c * c)-1):=Int.mul_nonneg (Int.mul_nonneg (by omega) (by omega)) (by omega);have h2:l * c * (l * c)=(l * l) * (c * c):=by grind
 have h3:P * s * (P * s)=P * P * (s * s-5 * (c * c)-1)+5 * (P * P) * (c * c)+P * P:=by grind
 rw[h2,h3,hd];have h4:(5 * (P * P)+d) * (c * c)=5 * (P * P) * (c * c)+d * (c * c):=by grind
 omega
theorem key_neg (P l d s c:Int) (hP:0 < P) (hl:0 < l) (hd:l * l=5 * (P * P)+d) (hc:0 < c)
  (hb : -(d * (c * c)) < P * P) (h:s * s < 5 * (c * c)):P * s < l * c:=by
 apply sq_lt_of _ _ (Int.mul_nonneg (by omega) (by omega));have h1:0<=(P * P) * (5 * (c * c)-s * s-1):=Int.mul_nonneg (Int.mul_nonneg (by omega) (by omega)) (by omega);have h2:l * c * (l * c)=(l * l) * (c * c):=by grind
 have h3:P * s * (P * s)=5 * (P * P) * (c * c)-P * P-P * P * (5 * (c * c)-s * s-1):=by grind
 rw[h2,h3,hd];have h4:(5 * (P * P)+d) * (c * c)=5 * (P * P) * (c * c)+d * (c * c):=by grind
 omega
theorem sgn_lin_gen (P Q d:Int) (hP:0 < P) (hl:0 < 2 * Q-P) (hd:(2 * Q-P) * (2 * Q-P)=5 * (P * P)+d)
  (B:Int) (hB1:d * (B * B) < P * P) (hB2 : -(d * (B * B)) < P * P) (a b:Int) (h1 : -B<=b) (h2:b<=B) :
  (sgn a b=1/\0 < P * a+Q * b)∨(sgn a b=0/\a=0/\b=0)∨(sgn a b = -1/\P * a+Q * b < 0):=by
 have e:2 * (P * a+Q * b)=P * (2 * a+b)+(2 * Q-P) * b:=by grind
 unfold sgn;generalize hS:2 * a+b=s at *;generalize hL:2 * Q-P=l at *
 by_cases c0:s=0/\b=0
 · rw[if_pos c0]; right; left; exact⟨rfl,by omega,c0.2⟩
 rw[if_neg c0]
 by_cases c1:0<=s/\0<=b
 ·
  rw[if_pos c1]; left;refine⟨rfl,?_⟩;have p1:0<=P * s:=Int.mul_nonneg (by omega) c1.1;have p2:0<=l * b:=Int.mul_nonneg (by omega) c1.2
  by_cases hs:s=0
  ·
   have hb:0 < b:=by omega
   have:=Int.mul_pos hl hb;omega
  · have:=Int.mul_pos hP (show 0 < s by omega);omega
 rw[if_neg c1]
 by_cases c2:s<=0/\b<=0
 ·
  rw[if_pos c2]; right; right;refine⟨rfl,?_⟩;have p1:0<=P * (-s):=Int.mul_nonneg (by omega) (by omega);have p2:0<=l * (-b):=Int.mul_nonneg (by omega) (by omega);rw[Int.mul_neg]at p1 p2
  by_cases hs:s=0
  · have:=Int.mul_pos hl (show 0 < -b by omega);rw[Int.mul_neg]at this;omega
  · have:=Int.mul_pos hP (show 0 < -s by omega);rw[Int.mul_neg]at this;omega
 rw[if_neg c2];have bb:∀c:Int,0 < c->c<=B->(0<=d->d * (c * c) < P * P)/\(d<=0->-(d * (c * c)) < P * P):=by
  intro c hc hcB;have hcc:c * c<=B * B:=Int.mul_le_mul hcB hcB (by omega) (by omega);constructor
  · intro hd0;have:=Int.mul_le_mul_of_nonneg_left hcc hd0;omega
  · intro hd0;have:=Int.mul_le_mul_of_nonneg_left hcc (show 0<=-d by omega);rw[Int.neg_mul,Int.neg_mul]at this;omega
 have PP:0 < P * P:=Int.mul_pos hP hP;have bb':∀c:Int,0 < c->c<=B->d * (c * c) < P * P/\-(d * (c * c)) < P * P:=by
  intro c hc hcB;obtain⟨b1,b2⟩:=bb c hc hcB;have cc:0<=c * c:=Int.mul_nonneg (by omega) (by omega);rcases Int.le_total 0 d with h | h
  · have:=Int.mul_nonneg h cc;have:=b1 h;omega
  · have:=Int.mul_nonneg (show 0<=-d by omega) cc;rw[Int.neg_mul]at this;have:=b2 h;omega
 have h5:5 * b * b=5 * (b * b):=by grind
 rw[h5]
 by_cases hs:0 < s
 ·
  have hb:b < 0:=by omega
  obtain⟨k1,k2⟩:=bb' (-b) (by omega) (by omega);have hbb : -b * -b=b * b:=by grind
  rw[hbb]at k1 k2
  by_cases h:5 * (b * b) < s * s
  · left;refine⟨by simp[hs,h],?_⟩;have:=key_pos P l d s (-b) hP hd (by omega) (by rw[hbb]; exact k1) (by rw[hbb]; exact h);rw[Int.mul_neg]at this;omega
  ·
   right; right;refine⟨by simp[hs,h],?_⟩;have hne:s * s≠5 * (b * b):=fun e=>by have:=no_root _ _ e; omega
   have:=key_neg P l d s (-b) hP hl hd (by omega) (by rw[hbb]; exact k2) (by rw[hbb]; omega);rw[Int.mul_neg]at this;omega
 ·
  have hb:0 < b:=by omega
  have hs':s < 0:=by omega
  obtain⟨k1,k2⟩:=bb' b (by omega) (by omega);have hss : -s * -s=s * s:=by grind
  by_cases h:5 * (b * b) < s * s
  · right; right;refine⟨by simp[hs,h],?_⟩;have:=key_pos P l d (-s) b hP hd (by omega) k1 (by rw[hss]; exact h);rw[Int.mul_neg]at this;omega
  ·
   left;refine⟨by simp[hs,h],?_⟩;have hne:s * s≠5 * (b * b):=fun e=>by have:=no_root _ _ e; omega
   have:=key_neg P l d (-s) b hP hl hd (by omega) k2 (by rw[hss]; omega);rw[Int.mul_neg]at this;omega
/-- the linear form that decides the sign: F80 a + F81 b -/
def lin (a b:Int):Int:=23416728348467685 * a+37889062373143906 * b
/-- the bound on the second coordinate after n steps -/
def mb:Nat->Int->Int
 | 0,M=>M
 | n+1,M=>mb n (M * 6181 / 10000+1)
/-- one digit: (the digit, what is left), times w -/
def dg (p q:Int):Bool:=decide (23416728348467685<=lin q (p+q))
def nx (p q:Int):Int × Int:=if dg p q then (q-1,p+q) else (q,p+q)
/-- the weights 1, 2, 3, 5 and so on -/
def fb:Nat->Int
 | 0=>1
 | 1=>2
 | n+2=>fb n+fb (n+1)
theorem fb_pos:∀n,0 < fb n/\fb n < fb (n+1)
 | 0=>by decide
 | 1=>by decide
 | n+2=>by
  have h1:=fb_pos n;have h2:=fb_pos (n+1);have e1:fb (n+2)=fb n+fb (n+1):=rfl;have e2:fb (n+2+1)=fb (n+1)+fb (n+2):=rfl;omega
/-- w^n, n from 0 on -/
def pu:Nat->Int × Int
 | 0=>(1,0)
 | n+1=>((pu n).2,(pu n).1+(pu n).2)
theorem pu_fb:∀n,(pu n).1+2 * (pu n).2=fb n
 | 0=>by decide
 | 1=>by decide
 | n+2=>by
  have h1:=pu_fb n;have h2:=pu_fb (n+1);have e1:fb (n+2)=fb n+fb (n+1):=rfl;have e2:(pu (n+2)).1=(pu (n+1)).2:=rfl;have e3:(pu (n+2)).2=(pu (n+1)).1+(pu (n+1)).2:=rfl;have e4:(pu (n+1)).1=(pu n).2:=rfl;have e5:(pu (n+1)).2=(pu n).1+(pu n).2:=rfl;omega
/-- the conjugate's linear form -/
def cl (a b:Int):Int:=23416728348467685 * a-14472334024676221 * b
/-- the digits of k by the weights below i, greatest first: the sum of the powers -/
def gr:Nat->Int->Int × Int
 | 0,_=>(0,0)
 | i+1,k=>if fb i<=k then ((pu i).1+(gr i (k-fb i)).1,(pu i).2+(gr i (k-fb i)).2) else gr i k
def lo:Nat->Int
 | 0=>0
 | 1=>0
 | i+2=>min (lo (i+1)) (cl (pu (i+1)).1 (pu (i+1)).2+lo i)
def hi:Nat->Int
 | 0=>0
 | 1=>23416728348467685
 | i+2=>max (hi (i+1)) (cl (pu (i+1)).1 (pu (i+1)).2+hi i)
theorem gr_spec:∀(i:Nat) (k:Int),0<=k->k < fb i ->
  (gr i k).1+2 * (gr i k).2=k/\lo i<=cl (gr i k).1 (gr i k).2/\cl (gr i k).1 (gr i k).2<=hi i
 | 0,k,h0,h1=>by
  have:fb 0=1:=rfl;obtain rfl:k=0:=by omega
  decide
 | 1,k,h0,h1=>by
  have:fb 1=2:=rfl;rcases (by omega:k=0∨k=1) with rfl | rfl <;> decide
 | i+2,k,h0,h1=>by
  have e1:fb (i+2)=fb i+fb (i+1):=rfl;have p:=fb_pos i
  by_cases h:fb (i+1)<=k
  ·
   have hn:¬fb i<=k-fb (i+1):=by omega
   have g1:gr (i+1) (k-fb (i+1))=gr i (k-fb (i+1)):=by
    rw[gr,if_neg hn]
   have g2:gr (i+2) k=((pu (i+1)).1+(gr i (k-fb (i+1))).1,(pu (i+1)).2+(gr i (k-fb (i+1))).2):=by
    rw[gr,if_pos h,g1]
   have ih:=gr_spec i (k-fb (i+1)) (by omega) (by omega);have pf:=pu_fb (i+1);rw[g2];simp only[lo,hi];unfold cl at *;omega
  ·
   have g2:gr (i+2) k=gr (i+1) k:=by rw[gr,if_neg h]
   have ih:=gr_spec (i+1) k h0 (by omega);rw[g2];simp only[lo,hi];omega
/-- the value at the position k of the ladder -/
def IsRung (k a b:Int):Prop:=a+2 * b=k/\-23416728348467685 < cl a b/\cl a b < 37889062373143906
theorem lo34 : -23416728348467685 < lo 34:=by decide +kernel
theorem hi34:hi 34 < 37889062373143906:=by decide +kernel
theorem fb34:fb 34=14930352:=by decide +kernel
theorem gr_isRung (k:Int) (h0:0<=k) (h1:k < 14930352):IsRung k (gr 34 k).1 (gr 34 k).2:=by
 have:=gr_spec 34 k h0 (by rw[fb34]; exact h1);have:=lo34;have:=hi34;unfold IsRung;omega
theorem IsRung.unique {k a b a' b':Int} (h:IsRung k a b) (h':IsRung k a' b'):a=a'/\b=b':=by
 unfold IsRung cl at *;omega
theorem gr_le (j:Nat):∀(i:Nat) (k:Int),0<=k->k < fb i->gr (i+j) k=gr i k:=by
 induction j with
 | zero=>intro i k _ _; rfl
 | succ j ih =>
  intro i k h0 h1;have:∀m,fb i<=fb (i+m):=by
   intro m
   induction m with
   | zero=>exact Int.le_refl _
   | succ m ihm=>have:=fb_pos (i+m); rw[<-Nat.add_assoc]; omega
  have hj:=this j;rw[<-Nat.add_assoc,gr,if_neg (by omega)];exact ih i k h0 h1
theorem IsRung.lt {k a b k' a' b':Int} (h:IsRung k a b) (h':IsRung k' a' b') (hk:k < k'):lin a b < lin a' b':=by
 unfold IsRung cl at *;unfold lin;omega
theorem IsRung.succ {k a b a' b':Int} (h:IsRung k a b) (h':IsRung (k+1) a' b'):(a'=a+1/\b'=b)∨(a'=a-1/\b'=b+1):=by
 unfold IsRung cl at *;omega
theorem IsRung.bounds {k a b:Int} (h:IsRung k a b) (h0:0<=k):0<=a/\0<=b/\a<=k/\b<=k:=by
 unfold IsRung cl at *;omega
/-- neighbouring numbers of Fibonacci -/
def fp:Nat->Int × Int
 | 0=>(1,1)
 | n+1=>((fp n).2,(fp n).1+(fp n).2)
theorem fp_facts:∀n,0 < (fp n).1/\(n:Int)<=(fp n).1/\(n:Int)+1<=(fp n).2/\(fp n).1<=(fp n).2/\(fp n).2<=2 * (fp n).1 /\
  ((2 * (fp n).2-(fp n).1) * (2 * (fp n).2-(fp n).1)=5 * ((fp n).1 * (fp n).1)+4∨(2 * (fp n).2-(fp n).1) * (2 * (fp n).2-(fp n).1)=5 * ((fp n).1 * (fp n).1) + -4)
 | 0=>by decide
 | n+1=>by
  obtain⟨h1,h2,h3,h4,h5,h6⟩:=fp_facts n;have e1:(fp (n+1)).1=(fp n).2:=rfl;have e2:(fp (n+1)).2=(fp n).1+(fp n).2:=rfl;rw[e1,e2];generalize (fp n).1=P at *;generalize (fp n).2=Q at *;refine⟨by omega,by omega,by omega,by omega,by omega,?_⟩;rcases h6 with h6 | h6
  · right; grind
  · left; grind
theorem sgn_fp (n:Nat) (a b:Int) (h1 : -(n:Int) < 2 * b) (h2:2 * b < n) :
  (sgn a b=1/\0 < (fp n).1 * a+(fp n).2 * b)∨(sgn a b=0/\a=0/\b=0)∨(sgn a b = -1/\(fp n).1 * a+(fp n).2 * b < 0):=by
 obtain⟨p1,p2,p3,p4,p5,p6⟩:=fp_facts n;generalize (fp n).1=P at *;generalize (fp n).2=Q at *;have hB:4 * ((b.natAbs:Int) * (b.natAbs:Int)) < P * P:=by
  have h3:2 * (b.natAbs:Int) < P:=by omega
  have h4:=Int.mul_le_mul (show 2 * (b.natAbs:Int)+1<=P by omega) (show 2 * (b.natAbs:Int)+1<=P by omega) (by omega) (by omega);have:(2 * (b.natAbs:Int)+1) * (2 * (b.natAbs:Int)+1)=4 * ((b.natAbs:Int) * (b.natAbs:Int))+4 * (b.natAbs:Int)+1:=by grind
  omega
 have hB0:0<=(b.natAbs:Int) * (b.natAbs:Int):=Int.mul_nonneg (by omega) (by omega);rcases p6 with p6 | p6
 · exact sgn_lin_gen P Q 4 p1 (by omega) p6 b.natAbs hB (by omega) a b (by omega) (by omega)
 · exact sgn_lin_gen P Q (-4) p1 (by omega) p6 b.natAbs (by omega) (by omega) a b (by omega) (by omega)
theorem sgn_zero_iff (a b:Int):sgn a b=0↔a=0/\b=0:=by
 have:=sgn_fp (2 * b.natAbs+1) a b (by omega) (by omega);constructor
 · intro h; omega
 · rintro ⟨rfl,rfl⟩; decide
/-- w^-n, n from 0 on -/
def pd:Nat->Int × Int
 | 0=>(1,0)
 | n+1=>((pd n).2-(pd n).1,(pd n).1)
/-- w^(i - 40) -/
def pt (i:Nat):Int × Int:=if i < 40 then pd (40-i) else pu (i-40)
/-- one digit: is the power at i at most x? -/
def dgx (i:Nat) (x:Int × Int):Bool:=decide (0<=sgn (x.1-(pt i).1) (x.2-(pt i).2))
def nxx (i:Nat) (x:Int × Int):Int × Int:=if dgx i x then (x.1-(pt i).1,x.2-(pt i).2) else x
abbrev G:=Int × Int
/-- the sign of a number -/
def sg (x:G):Int:=sgn x.1 x.2
def add (x y:G):G:=(x.1+y.1,x.2+y.2)
def sub (x y:G):G:=(x.1-y.1,x.2-y.2)
theorem sg_big (x y:G):∃n:Nat,-(n:Int) < 2 * x.2/\2 * x.2 < n/\-(n:Int) < 2 * y.2/\2 * y.2 < n/\-(n:Int) < 2 * (x.2+y.2)/\2 * (x.2+y.2) < n/\-(n:Int) < 2 * (x.2-y.2)/\2 * (x.2-y.2) < n :=
 ⟨2 * x.2.natAbs+2 * y.2.natAbs+1,by omega,by omega,by omega,by omega,by omega,by omega,by omega,by omega⟩
theorem sg_add (x y:G):(0<=sg x->0<=sg y->0<=sg (add x y))/\(0 < sg x->0<=sg y->0 < sg (add x y))/\(0<=sg x->0 < sg y->0 < sg (add x y)):=by
 obtain⟨n,h1,h2,h3,h4,h5,h6,_,_⟩:=sg_big x y;have a:=sgn_fp n x.1 x.2 h1 h2;have b:=sgn_fp n y.1 y.2 h3 h4;have c:=sgn_fp n (x.1+y.1) (x.2+y.2) h5 h6;have e:(fp n).1 * (x.1+y.1)+(fp n).2 * (x.2+y.2)=((fp n).1 * x.1+(fp n).2 * x.2)+((fp n).1 * y.1+(fp n).2 * y.2):=by grind
 rw[e]at c;unfold sg add;simp only[];have z1:sgn x.1 x.2=0->(fp n).1 * x.1+(fp n).2 * x.2=0:=by
  intro h; rw[sgn_zero_iff]at h; rw[h.1,h.2]; simp
 have z2:sgn y.1 y.2=0->(fp n).1 * y.1+(fp n).2 * y.2=0:=by
  intro h; rw[sgn_zero_iff]at h; rw[h.1,h.2]; simp
 generalize (fp n).1 * x.1+(fp n).2 * x.2=X at *;generalize (fp n).1 * y.1+(fp n).2 * y.2=Y at *;have z3:sgn (x.1+y.1) (x.2+y.2)=0->X+Y=0:=by
  intro h;have e2:=(sgn_zero_iff _ _).1 h;rw[e2.1,e2.2]at e;simp at e;omega
 omega
theorem sg_neg (x:G):sg (-x.1,-x.2) = -sg x:=by
 obtain⟨n,h1,h2,_⟩:=sg_big x x;have a:=sgn_fp n x.1 x.2 h1 h2;have c:=sgn_fp n (-x.1) (-x.2) (by omega) (by omega);rw[Int.mul_neg,Int.mul_neg]at c;unfold sg;simp only[];have z1:sgn x.1 x.2=0->(fp n).1 * x.1+(fp n).2 * x.2=0:=by
  intro h; rw[sgn_zero_iff]at h; rw[h.1,h.2]; simp
 have z2:sgn (-x.1) (-x.2)=0->(fp n).1 * x.1+(fp n).2 * x.2=0:=by
  intro h; rw[sgn_zero_iff]at h; rw[show x.1=0 by omega,show x.2=0 by omega]; simp
 generalize (fp n).1 * x.1=X at *;generalize (fp n).2 * x.2=Y at *;omega
theorem sg_sub_comm (x y:G):sg (sub y x) = -sg (sub x y):=by
 rw[<-sg_neg]; unfold sub; simp only[]; congr 1; ext <;> simp <;> omega
/-- less or equal, less -/
def Le (x y:G):Prop:=0<=sg (sub y x)
def Lt (x y:G):Prop:=0 < sg (sub y x)
theorem sub_add (x y z:G):sub z x=add (sub y x) (sub z y):=by unfold sub add; ext <;> simp <;> omega
theorem Le.trans {x y z:G} (h:Le x y) (h':Le y z):Le x z:=by unfold Le; rw[sub_add x y z]; exact(sg_add _ _).1 h h'
theorem Lt.trans_le {x y z:G} (h:Lt x y) (h':Le y z):Lt x z:=by unfold Lt; rw[sub_add x y z]; exact(sg_add _ _).2.1 h h'
theorem Lt.le {x y:G} (h:Lt x y):Le x y:=by unfold Lt at h; unfold Le; omega
theorem Lt.trans {x y z:G} (h:Lt x y) (h':Lt y z):Lt x z:=h.trans_le h'.le
theorem not_lt (x y:G):¬Lt x y↔Le y x:=by unfold Le Lt; rw[sg_sub_comm x y]; omega
theorem Le.refl (x:G):Le x x:=by unfold Le sub sg; simp; decide
/-- the digits at the places n - 1, .., 0 before the point -/
def ints:Nat->G->List UInt8
 | 0,_=>[]
 | n+1,x=>(if dgx (n+40) x then 49 else 48) :: ints n (nxx (n+40) x)
/-- what they leave -/
def rest:Nat->G->G
 | 0,x=>x
 | n+1,x=>rest n (nxx (n+40) x)
/-- the digits behind the point, while something is left -/
def frac:Nat->G->List UInt8
 | 0,_=>[]
 | n+1,x=>if x=(0,0) then [] else (if dgx n x then 49 else 48) :: frac n (nxx n x)
def tail (r:G):List UInt8:=if r=(0,0) then [] else 46 :: frac 40 r
/-- the value of digits, the first at the place below i -/
def vl:Nat->List UInt8->G
 | _,[]=>(0,0)
 | i,c :: l=>add ((((c.toNat:Int)-48) * (pt (i-1)).1,((c.toNat:Int)-48) * (pt (i-1)).2)) (vl (i-1) l)
theorem add_assoc (x y z:G):add (add x y) z=add x (add y z):=by unfold add; ext <;> simp <;> omega
theorem add_zero (x:G):add x (0,0)=x:=by unfold add; ext <;> simp
theorem zero_add (x:G):add (0,0) x=x:=by unfold add; ext <;> simp
/-- the number that is not less than 0, and not too great -/
def Num (x:G):Prop:=-1000000<=x.1/\x.1<=1000000/\-1000000<=x.2/\x.2<=1000000
instance (x : G) : Decidable (Num x) := by unfold Num; exact inferInstance
/-- the digits before the point, and behind it -/
def head (x:G):List UInt8:=if (ints 40 x).dropWhile (· == 48) = [] then [48] else (ints 40 x).dropWhile (· == 48)
end Go.Proofs.YtaffkceklkdokaaGreatDoor.GM
/- The plain functions of package gauge return what they compute, and leave alone what was there. -/
namespace Go.Proofs.YtaffkceklkdokaaGreatDoor.GG
open Go.RowKit
theorem bl_drewN {B:Nat} {a w:World} (h:Below B a w) (n:Nat):Below B a (w.drewN n):=h.trans ⟨rfl,rfl,rfl,Nat.le_refl _,fun _ _=>rfl⟩
theorem bl_call {B n:Nat} {w a w1:World} (h:Below B w a) (hb:Below n a w1) (hn:B<=n):Below B w w1:=h.trans (hb.mono hn)
theorem within_any (n lo hi : Int) (w : World) :
    Calls Tryz.prog 33 #[.int .i64 n, .int .i64 lo, .int .i64 hi] w fun e w' => e = .returned (.bool (decide (lo <= n) && decide (n <= hi))) /\ w = w' := by
  by_cases h1 : lo <= n
  · by_cases h2 : n <= hi
    all_goals
      go_enter Tryz.func33, Tryz.ntmps33
      go_wp2
      go_ret
      exact ⟨by simp [h1, h2], rfl⟩
  · go_enter Tryz.func33, Tryz.ntmps33
    go_wp2
    go_ret
    exact ⟨by have : ¬ lo <= n := by omega
              simp [this], rfl⟩
theorem plus_any (a b c d:Int) (w:World) (h1 : -9000000000000000000<=a+c) (h2:a+c<=9000000000000000000) (h3 : -9000000000000000000<=b+d) (h4:b+d<=9000000000000000000) :
  Calls Tryz.prog 111 #[.agg #[.int .i64 a,.int .i64 b],.agg #[.int .i64 c,.int .i64 d]] w fun e w'=>e=.returned (.agg #[.int .i64 (a+c),.int .i64 (b+d)])/\Below w.heap.size w w':=by
 go_enter Tryz.func111,Tryz.ntmps111;go_wp2;exact bodyPost_ret (v:=.agg #[.int .i64 (a+c),.int .i64 (b+d)]) (by simp[results,Tryz.results111,go_sem]) rfl ⟨rfl,(by repeat (first | exact Below.refl _ _ | exact Nat.le_refl _ | refine Below.alloc ?_ ?_ _ | refine Below.setCell ?_ ?_ _ | refine Below.drew ?_ | refine bl_drewN ?_ _ | (assumption) | refine bl_call ?_ (by assumption) ?_ | omega | (simp <;> omega)))⟩
/-- a product without a carry, of factors that are not great -/
theorem mul_bd {a b A B:Int} (h1 : -A<=a) (h2:a<=A) (h3 : -B<=b) (h4:b<=B) : -(A * B)<=a * b/\a * b<=A * B:=by
 have hA:0<=A:=by omega
 have hB:0<=B:=by omega
 have k1:=Int.mul_nonneg (show 0<=A-a by omega) (show 0<=B+b by omega);have k2:=Int.mul_nonneg (show 0<=A+a by omega) (show 0<=B-b by omega);have k3:=Int.mul_nonneg (show 0<=A-a by omega) (show 0<=B-b by omega);have k4:=Int.mul_nonneg (show 0<=A+a by omega) (show 0<=B+b by omega);have e1:(A-a) * (B+b)=A * B+A * b-a * B-a * b:=by grind
 have e2:(A+a) * (B-b)=A * B-A * b+a * B-a * b:=by grind
 have e3:(A-a) * (B-b)=A * B-A * b-a * B+a * b:=by grind
 have e4:(A+a) * (B+b)=A * B+A * b+a * B+a * b:=by grind
 omega
theorem product_any (a b c d:Int) (w:World) (a1 : -1000000000<=a) (a2:a<=1000000000) (b1 : -1000000000<=b) (b2:b<=1000000000) (c1 : -1000000000<=c) (c2:c<=1000000000) (d1 : -1000000000<=d) (d2:d<=1000000000) :
  Calls Tryz.prog 58 #[.agg #[.int .i64 a,.int .i64 b],.agg #[.int .i64 c,.int .i64 d]] w fun e w'=>e=.returned (.agg #[.int .i64 (a * c+b * d),.int .i64 (a * d+b * c+b * d)])/\Below w.heap.size w w':=by
 obtain⟨p1,p2⟩:=mul_bd a1 a2 c1 c2;obtain⟨p3,p4⟩:=mul_bd b1 b2 d1 d2;obtain⟨p5,p6⟩:=mul_bd a1 a2 d1 d2;obtain⟨p7,p8⟩:=mul_bd b1 b2 c1 c2;simp only[Int.reduceMul,Int.reduceNeg]at p1 p2 p3 p4 p5 p6 p7 p8;go_enter Tryz.func58,Tryz.ntmps58;go_wp2;exact bodyPost_ret (v:=.agg #[.int .i64 (a * c+b * d),.int .i64 (a * d+b * c+b * d)]) (by simp[results,Tryz.results58,go_sem]) rfl ⟨rfl,(by repeat (first | exact Below.refl _ _ | exact Nat.le_refl _ | refine Below.alloc ?_ ?_ _ | refine Below.setCell ?_ ?_ _ | refine Below.drew ?_ | refine bl_drewN ?_ _ | (assumption) | refine bl_call ?_ (by assumption) ?_ | omega | (simp <;> omega)))⟩
end Go.Proofs.YtaffkceklkdokaaGreatDoor.GG
/- The sign of a number, and what compares numbers, return what they compute. -/
namespace Go.Proofs.YtaffkceklkdokaaGreatDoor.GG
open Go.RowKit
end Go.Proofs.YtaffkceklkdokaaGreatDoor.GG
/- The plain law of writing: digit by digit, what is written and what is still to come make the plain text. -/
namespace Go.Proofs.YtaffkceklkdokaaGreatDoor.GM
end Go.Proofs.YtaffkceklkdokaaGreatDoor.GM
/- Plain mathematics of floors and gaps. -/
namespace Go.Proofs.YtaffkceklkdokaaGreatDoor.GM
/-- the letters of the gaps -/
def gap (k:Nat):UInt8:=if (gr 34 (k+1:Nat)).1=(gr 34 (k:Nat)).1+1/\(gr 34 (k+1:Nat)).2=(gr 34 (k:Nat)).2 then 76 else 83
def gaps (n:Nat):List UInt8:=(List.range n).map gap
theorem gaps_succ (n:Nat):gaps (n+1)=gaps n ++ [gap n]:=by unfold gaps; rw[List.range_succ]; simp
theorem gr_ne (k:Nat) (h:k+1 < 14930352):¬((gr 34 (k+1:Nat)).1=0/\(gr 34 (k+1:Nat)).2=0):=by
 have:=(gr_isRung ((k+1:Nat):Int) (by omega) (by omega)).1;omega
end Go.Proofs.YtaffkceklkdokaaGreatDoor.GM
