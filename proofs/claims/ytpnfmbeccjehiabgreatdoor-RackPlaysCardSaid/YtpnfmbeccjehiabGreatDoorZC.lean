/- The number of shapes in the shape of a set. -/
import Derived.Test.YtpnfmbeccjehiabGreatDoorZ1
namespace Go.Proofs.YtpnfmbeccjehiabGreatDoor.RK
def sumN (f:Nat->Nat):Nat->Nat
 | 0=>0
 | n+1=>sumN f n+f n
theorem sumN_upd {f g:Nat->Nat} {s c:Nat} (h:∀t,t≠s->g t=f t) (hs:g s=f s+c):∀n,sumN g n=sumN f n+(if s < n then c else 0)
 | 0=>rfl
 | n+1=>by
  rw[sumN,sumN,sumN_upd h hs n]
  by_cases e:n=s
  · subst e;rw[hs,if_neg (by omega),if_pos (by omega)]; omega
  ·
   rw[h n e]
   by_cases h2:s < n
   · rw[if_pos h2,if_pos (by omega)]; omega
   · rw[if_neg h2,if_neg (by omega)]; omega
theorem sumN_congr {f g:Nat->Nat}:∀n,(∀t,t < n->f t=g t)->sumN f n=sumN g n
 | 0,_=>rfl
 | n+1,h=>by rw[sumN,sumN,sumN_congr n (fun t ht=>h t (by omega)),h n (by omega)]
theorem sumN_zero {f:Nat->Nat} (n:Nat) (h:∀t,t < n->f t=0):sumN f n=0:=by
 rw[sumN_congr (g:=fun _=>0) n h]
 induction n with
 | zero=>rfl
 | succ n ih=>rw[sumN,ih (fun t ht=>h t (by omega))]
/-- the number of shapes -/
def sz:Nat->S->Nat
 | 0,m=>match mn 0 m with
  | none=>0
  | some _=>1
 | k+1,m=>match mn (k+1) m with
  | none=>0
  | some a=>1+sz k (shelves k m a)+sumN (fun s=>sz k (spot k m a s)) (R k)
end Go.Proofs.YtpnfmbeccjehiabGreatDoor.RK
