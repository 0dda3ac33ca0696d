/- QuotTells, part 4 of 7 of its proof (no condition); names with a low line are shortened throughout. -/
import Derived.Test.YtjbjkmccfocikaaGreatDoorZQuotTells2
import Derived.WalkKit
import Derived.Lib.Hide
import Derived.Outline
import Derived.Deep.DeepFit
import Derived.Laws.Rows
import Derived.Lib.TrimByte
set_option linter.unusedVariables false
set_option linter.unusedSimpArgs false
set_option maxRecDepth 100000
set_option maxHeartbeats 8000000
namespace Go.Proofs
section
namespace YtjbjkmccfocikaaGreatDoor.P
open Go.RowKit YtjbjkmccfocikaaGreatDoor.B YtjbjkmccfocikaaGreatDoorW.PrintWords YtjbjkmccfocikaaGreatDoorW.PrintLast YtjbjkmccfocikaaGreatDoorW.PrintMore YtjbjkmccfocikaaGreatDoor.P.Nm
theorem Zhe {m n:Nat} (hm:nd m<=1000000) (hn:nd n<=1000000):Tells (fun k=>Zag.f k (limbs m) (limbs n)) (limbs (m*n)):=by
 have := Zpy (Zdf m) (Zdf n) (Nat.le_trans (Zeg m) hm) (Nat.le_trans (Zeg n) hn)
 rw [Zc5,Zc5] at this;exact this
theorem Zir {m n:Nat} (hm:nd m<=1000000) (hn:nd n<=1000000):Tells (fun k=>Zaf.f k (limbs m) (limbs n)) (limbs (m+n)):=by
 have := Zph (Zdf m) (Zdf n) (Nat.le_trans (Zeg m) hm) (Nat.le_trans (Zeg n) hn)
 rw [Zc5,Zc5] at this;exact this
theorem Zmn {m:Nat} (hm:nd m<=1000000) (n:Nat) (hn:n < 32):Tells (fun k=>Zad.f k (limbs m) (n:Int)) (limbs (m / 2 ^ n)):=by
 have := Zi9 (Zdf m) (Nat.le_trans (Zeg m) hm) n hn
 rw [Zc5] at this;exact this
theorem Zk3 {m n:Nat} (hm:nd m<=1000000) (hn:nd n<=1000000):Za0.f (limbs m) (limbs n)=some (cmpN m n):=by
 unfold Za0.f
 rw [Zgi hm,Zgi hn,Bool.and_self,if_pos rfl,Zc5,Zc5]
 congr 1
 unfold cmpI cmpN
 by_cases h1:m < n
 ·rw [if_pos h1,if_pos (by omega)]
 ·rw [if_neg h1,if_neg (by omega)]
  by_cases h2:n < m
  ·rw [if_pos h2,if_pos (by omega)]
  ·rw [if_neg h2,if_neg (by omega)]
theorem Zk8 {m n:Nat} (h0:n ≠ 0) (hm:nd m<=1000000) (hn:nd n<=1000000):Zc4.f (limbs m) (limbs n)=some (limbs (m / n),limbs (m % n)):=by
 unfold Zc4.f
 rw [Zgi hm,Zgi hn,decide_eq_true (Zdu h0),Zc5,Zc5];rfl
theorem Zmq {m:Nat} (hm:nd m<=1000000) (b:Nat) (h0:0 < b) (hb:b < 4294967296):Zc0.f (limbs m) (b:Int)=some (limbs (m / b),((m % b:Nat):Int)):=by
 unfold Zc0.f
 rw [Zgi hm,decide_eq_true (show (0:Int) < (b:Int) by omega),decide_eq_true (show (b:Int) < 4294967296 by omega),Zc5,Int.toNat_natCast];rfl
theorem Zsj (m n:Nat):nd (m+n)<=max (nd m) (nd n)+1:=by
 refine Zgg ?_
 have h1:=Zg5 m
 have h2:=Zg5 n
 have h3:=Nat.pow_le_pow_right (show 0 < 10 by omega) (Nat.le_max_left (nd m) (nd n))
 have h4:=Nat.pow_le_pow_right (show 0 < 10 by omega) (Nat.le_max_right (nd m) (nd n))
 rw [Nat.pow_succ];omega
theorem Zg0 (k:Nat):nd (10 ^ k)=k+1:=Zu4 (Nat.le_refl _) (Nat.pow_lt_pow_right (by omega) (by omega))
theorem Zkj:∀ (f n o b:Nat),n<=f->n<=2400->nd (o*b ^ n)<=100000->1<=o->1<=b->nd b<=100000->Tells (fun k=>Zbu.l0 k (n:Int) (limbs o) (limbs b)) (limbs (o*b ^ n))
 | f,0,o,b,hf,hn,hd,ho,hb,hb2=>by
  refine Tells.succ ?_
  simp only [Zbu.l0]
  exact Tells.ifn (by omega) ((Tells.pure _).val (by rw [Nat.pow_zero,Nat.mul_one]))
 | 0,n+1,o,b,hf,hn,hd,ho,hb,hb2=>by omega
 | f+1,n+1,o,b,hf,hn,hd,ho,hb,hb2=>by
  have hbp:∀ k,1<=b ^ k:=fun k=>Nat.pow_pos (by omega)
  have hdo:nd o<=100000:=Nat.le_trans (Zcv (Nat.le_mul_of_pos_right o (hbp (n+1)))) hd
  have hhalf:n+1=2*((n+1) / 2)+(n+1) % 2:=(Nat.div_add_mod (n+1) 2).symm
  have hpw:b ^ (n+1)=(b*b) ^ ((n+1) / 2)*b ^ ((n+1) % 2):=by
   conv=>lhs;rw [hhalf]
   rw [Nat.pow_add,Nat.pow_mul,Nat.pow_two]
  have e1:Int.tmod ((n+1:Nat):Int) 2=(((n+1) % 2:Nat):Int):=by rw [Int.tmod_eq_emod_of_nonneg (by omega)];omega
  have e2:Int.tdiv ((n+1:Nat):Int) 2=(((n+1) / 2:Nat):Int):=by rw [Int.tdiv_eq_ediv_of_nonneg (by omega)];omega
  have hobb:=Zhe (m:=o) (n:=b) (by omega) (by omega)
  have hbb:=Zhe (m:=b) (n:=b) (by omega) (by omega)
  have sq:∀ o',o'*(b*b) ^ ((n+1) / 2)=o*b ^ (n+1)->1<=o'->Tells (fun k=>if ((n+1:Nat):Int) > 1 then ((Zag.f k (limbs b) (limbs b)).bind fun t=>Zbu.l0 k (((n+1) / 2:Nat):Int) (limbs o') t) else Zbu.l0 k (((n+1) / 2:Nat):Int) (limbs o') (limbs b)) (limbs (o*b ^ (n+1))):=fun o' ho' ho1=>by
   by_cases hn1:1 < n+1
   ·have hnd2:nd (b*b)<=100000:=by
     refine Nat.le_trans (Zcv ?_) hd
     rw [<- ho']
     have h1:(b*b) ^ 1<=(b*b) ^ ((n+1) / 2):=Nat.pow_le_pow_right (Nat.mul_pos (by omega) (by omega)) (by omega)
     rw [Nat.pow_one] at h1
     exact Nat.le_trans h1 (Nat.le_mul_of_pos_left _ (by omega))
    have ih:=Zkj f ((n+1) / 2) o' (b*b) (by omega) (by omega) (by rw [ho'];exact hd) ho1 (Nat.mul_pos (by omega) (by omega)) hnd2
    rw [ho'] at ih
    exact Tells.ifp (by omega) (hbb.bind ih)
   ·have hz:(n+1) / 2=0:=by omega
    have ih:=Zkj f 0 o' b (by omega) (by omega) (by rw [Nat.pow_zero,Nat.mul_one];rw [hz,Nat.pow_zero,Nat.mul_one] at ho';rw [ho'];exact hd) ho1 hb hb2
    rw [hz,Nat.pow_zero,Nat.mul_one] at ho'
    rw [hz]
    exact Tells.ifn (by omega) (ih.val (by rw [Nat.pow_zero,Nat.mul_one,ho']))
  refine Tells.succ ?_
  simp only [Zbu.l0]
  rw [e1,e2,w64c (by omega)]
  refine Tells.ifp (by omega) ?_
  by_cases ho2:(n+1) % 2=1
  ·refine Tells.ifp (by omega) (hobb.bind (sq (o*b) ?_ (Nat.mul_pos (by omega) (by omega))))
   rw [hpw,ho2,Nat.pow_one,Nat.mul_assoc,Nat.mul_comm b]
  ·refine Tells.ifn (by omega) (sq o ?_ ho)
   rw [hpw,show (n+1) % 2=0 by omega,Nat.pow_zero,Nat.mul_one]
theorem Zmh (n:Nat) (h:n<=2400):Tells (fun k=>Zbu.f k (n:Int)) (limbs (10 ^ n)):=by
 have h1:=Zkj n n 1 10 (Nat.le_refl _) h (by rw [Nat.one_mul,Zg0];omega) (by omega) (by omega) (by rw [show nd 10=2 from Zg0 1];omega)
 rw [Nat.one_mul] at h1
 exact h1
theorem Zo2 (n:Nat) (h:n<=2400):Tells (fun k=>Zg4.f k (n:Int)) (limbs (10 ^ n),0):=by
 unfold Zg4.f
 exact Tells.ifn (by omega) (Tells.ifn (by omega) ((Zmh n h).bind (Tells.pure _)))
theorem Zp2 {a x s:Nat} (hs:s*s<=a) (hx:0 < x):s<=(x+a / x) / 2:=by
 have h1:2*s - x<=a / x:=by
  refine (Nat.le_div_iff_mul_le hx).2 ?_
  rcases Nat.lt_or_ge (2*s) x with h|h
  ·rw [show 2*s - x=0 by omega,Nat.zero_mul];exact Nat.zero_le _
  ·refine Nat.le_trans ?_ hs
   rcases Nat.le_total x s with h2|h2
   ·obtain ⟨d,rfl⟩:=Nat.exists_eq_add_of_le h2
    rw [show 2*(x+d) - x=x+2*d by omega,Nat.add_mul,Nat.add_mul,Nat.mul_add,Nat.mul_add,Nat.mul_assoc 2,Nat.mul_comm x d]
    omega
   ·obtain ⟨d,rfl⟩:=Nat.exists_eq_add_of_le h2
    have h3:d<=s:=by omega
    obtain ⟨e,rfl⟩:=Nat.exists_eq_add_of_le h3
    rw [show 2*(d+e) - (d+e+d)=e by omega]
    simp only [Nat.mul_add,Nat.add_mul,Nat.mul_comm e d]
    omega
 omega
theorem Zp3 {a x:Nat} (h:root a < x):(x+a / x) / 2 < x:=by
 obtain ⟨_,h2⟩:=Zgm a
 have h3:a < x*x:=Nat.lt_of_lt_of_le h2 (Nat.mul_le_mul h h)
 have:a / x < x:=(Nat.div_lt_iff_lt_mul (by omega)).2 h3
 omega
theorem Zqp (a:Nat) (ha0:0 < a) (ha:nd a<=500000):∀ (f x:Nat),x<=f->0 < x->root a<=x->nd x<=500000->Tells (fun k=>Zbe.l0 k (limbs a) (limbs x)) (limbs (root a))
 | 0,x,hf,h0,hr,hx=>by omega
 | f+1,x,hf,h0,hr,hx=>by
  have hd:=Zk8 (m:=a) (n:=x) (by omega) (by omega) (by omega)
  have hq:nd (a / x)<=500000:=Nat.le_trans (Zcv (Nat.div_le_self a x)) ha
  have hadd:=Zir (m:=x) (n:=a / x) (by omega) (by omega)
  have hsum:nd (x+a / x)<=500001:=by have := Zsj x (a / x);omega
  have hright:=Zmn (m:=x+a / x) (by omega) 1 (by omega)
  rw [Nat.pow_one] at hright
  have hh:nd ((x+a / x) / 2)<=500001:=Nat.le_trans (Zcv (Nat.div_le_self _ _)) hsum
  have hc:=Zk3 (m:=(x+a / x) / 2) (n:=x) (by omega) (by omega)
  obtain ⟨r1,r2⟩:=Zgm a
  have hge:=Zp2 r1 h0
  refine Tells.succ ?_
  simp only [Zbe.l0]
  rw [hd]
  refine (Tells.pure _).bind (hadd.bind (hright.bind ?_))
  rw [hc]
  refine (Tells.pure _).bind ?_
  by_cases hx1:root a < x
  ·have hlt:=Zp3 hx1
   have ec:¬ (cmpN ((x+a / x) / 2) x >= 0):=by unfold cmpN;rw [if_pos hlt];omega
   have hpos:0 < (x+a / x) / 2:=by
    rcases Nat.eq_zero_or_pos (root a) with h|h
    ·rw [h] at r2;omega
    ·omega
   exact Tells.ifn ec (Zqp a ha0 ha f _ (by omega) hpos hge (Nat.le_trans (Zcv (Nat.le_of_lt hlt)) hx))
  ·have he:x=root a:=by omega
   have ec:cmpN ((x+a / x) / 2) x >= 0:=by unfold cmpN;rw [if_neg (by omega)];split <;> omega
   refine Tells.ifp ec ((Tells.pure _).val ?_)
   rw [he]
theorem Zon (a:Nat) (ha:nd a<=10000):Tells (fun k=>Zbe.f k (limbs a)) (limbs (root a)):=by
 unfold Zbe.f
 by_cases h0:a=0
 ·subst h0
  exact Tells.ifp (by rw [Zft];rfl) (Tells.pure _)
 ·have hl:=Zeg a
  have hl0:0 < (limbs a).length:=List.length_pos_iff.2 (Zdu h0)
  obtain ⟨m,hm⟩:∃ m,((limbs a).length+1) / 2=m:=⟨_,rfl⟩
  have e1:Int.tdiv (((limbs a).length+1:Nat):Int) 2=(m:Int):=by rw [Int.tdiv_eq_ediv_of_nonneg (by omega)];omega
  have hx:List.replicate m 0 ++ [1]=limbs (4294967296 ^ m):=by
   refine Znm ((Dg.zeros (by omega) m).app (Dg.one (by omega) (by omega))) (Zez.2 (by omega)) ?_
   rw [Zdm,Zgp,List.length_replicate,pwL];omega
  have hlt:=Zkb a
  have hroot:root a<=4294967296 ^ m:=by
   refine Nat.not_lt.1 (fun hc=>?_)
   obtain ⟨r1,_⟩:=Zgm a
   have h1:=Nat.mul_le_mul (Nat.le_of_lt hc) (Nat.le_of_lt hc)
   rw [<- Nat.pow_add] at h1
   have h2:=Nat.pow_le_pow_right (show 0 < 4294967296 by omega) (show (limbs a).length<=m+m by omega)
   omega
  have hnx:nd (4294967296 ^ m)<=500000:=by
   have h1:4294967296 ^ m<=10 ^ (10*m):=by rw [Nat.pow_mul];exact Nat.pow_le_pow_left (by decide) m
   have h2:=Zcv h1
   rw [Zg0] at h2
   omega
  have h:=Zqp a (by omega) (by omega) _ _ (Nat.le_refl _) (Nat.pow_pos (by omega)) hroot hnx
  rw [<- hx] at h
  have hlr:(List.replicate m (0:Int)).length=m:=List.length_replicate
  refine Tells.ifn (by omega) ?_
  rw [w64s (by omega),e1,w64c (by omega),Int.toNat_natCast]
  exact Tells.ifp (by omega) (Tells.ifp (by omega) ((Tells.pure _).bind (Tells.ifp (by rw [hlr];omega) h)))
theorem Zij (l:List Int) (hl:l.length<=9223372036854775807):Za2.f l=some (chkL l):=by
 unfold Za2.f;exact Zk1 l hl
theorem Zk0 {n:Nat} (h:(limbs n).length<=256):chkL (limbs n)=0:=(Zl1 (Zdf n)).2 (Zrk h)
theorem chkN {n:Nat} (h:(limbs n).length<=256):Za2.f (limbs n)=some 0:=by rw [Zij _ (by omega),Zk0 h]
theorem cmpOr2 (a b:Int):Tells (fun k=>Zbs.f k [a,b]) (if a=0 then b else a):=by
 unfold Zbs.f
 refine Tells.succ ?_
 simp only [Zbs.l0]
 refine Tells.ifp (by simp) (Tells.ifp (by decide) (Tells.ifp (by simp) ?_))
 have e0:rd [a,b] 0=a:=rfl
 have e1:rd [a,b] 1=b:=rfl
 have e2:wrap64 (0+1)=1:=by decide +kernel
 have e3:wrap64 (1+1)=2:=by decide +kernel
 rw [e0,e2]
 by_cases h:a=0
 ·refine Tells.ifp h ?_
  rw [if_pos h]
  refine Tells.succ ?_
  simp only [Zbs.l0]
  rw [e1,e3]
  refine Tells.ifp (by simp) (Tells.ifp (by decide) (Tells.ifp (by simp) ?_))
  by_cases h2:b=0
  ·refine Tells.ifp h2 (Tells.succ ?_)
   simp only [Zbs.l0]
   refine Tells.ifn (by simp) ((Tells.pure _).val h2.symm)
  ·exact Tells.ifn h2 (Tells.pure _)
 ·refine Tells.ifn h ?_
  rw [if_neg h]
  exact Tells.pure _
theorem Zjd {m n:Nat} (hm:(limbs m).length<=256) (hn:(limbs n).length<=256):Tells (fun k=>Zdw.f k (limbs m) (limbs n)) 0:=by
 unfold Zdw.f
 rw [chkN hm,chkN hn]
 exact (Tells.pure _).bind ((Tells.pure _).bind ((cmpOr2 0 0).bind (Tells.pure _)))
theorem Zse (n:Nat):Zer.f (limbs n)=some (fit n):=by
 unfold Zer.f fit
 by_cases h:(limbs n).length<=256
 ·rw [if_neg (by omega),if_pos h]
 ·rw [if_pos (by omega),if_neg h]
theorem Zi0 {n:Nat} (h:(limbs n).length<=256):fit n=(limbs n,0):=by unfold fit;rw [if_pos h]
theorem Zlg {n k:Nat} (h:(limbs n).length<=k):nd n<=10*k:=by
 refine Zgg (Nat.lt_of_lt_of_le (Zkb n) ?_)
 refine Nat.le_trans (Nat.pow_le_pow_right (by omega) h) ?_
 rw [Nat.pow_mul]
 exact Nat.pow_le_pow_left (by decide) _
theorem Zd5 {n:Nat} (h:(limbs n).length<=256):nd n<=2560:=Zlg h
theorem Zfo (n:Nat) (h:n < 18446744073709551616):Tells (fun k=>Zcr.f k (n:Int)) (limbs n):=by
 unfold Zcr.f
 have e1:((n:Int) / 4294967296) % 4294967296=((n / 4294967296:Nat):Int):=by omega
 rw [emod32,e1]
 refine (Zd1 (n:=n) (Dg.cons (by omega) (by omega) (Dg.one (by omega) (by omega))) ?_ (by simp)).bind (Tells.pure _)
 rw [Zbk,val_one];omega
theorem Zkn {m n:Nat} (hm:(limbs m).length<=256) (hn:(limbs n).length<=256):Tells (fun k=>Zey.f k (limbs m) (limbs n)) (fit (m+n)):=by
 have h1:=Zd5 hm
 have h2:=Zd5 hn
 unfold Zey.f
 refine (Zjd hm hn).bind (Tells.ifp rfl ((Zir (m:=m) (n:=n) (by omega) (by omega)).bind ?_))
 rw [Zse]
 exact (Tells.pure _).bind (Tells.pure _)
theorem Zf9 {m n:Nat} (hm:(limbs m).length<=256) (hn:(limbs n).length<=256):Tells (fun k=>Zdb.f k (limbs m) (limbs n)) (fit (m*n)):=by
 have h1:=Zd5 hm
 have h2:=Zd5 hn
 unfold Zdb.f
 refine (Zjd hm hn).bind (Tells.ifp rfl ((Zhe (m:=m) (n:=n) (by omega) (by omega)).bind ?_))
 rw [Zse]
 exact (Tells.pure _).bind (Tells.pure _)
theorem Zf8 {m n:Nat} (hm:(limbs m).length<=256) (hn:(limbs n).length<=256):Tells (fun k=>Zcz.f k (limbs m) (limbs n)) (if n=0 then ([],[],53) else (limbs (m / n),limbs (m % n),0)):=by
 have h1:=Zd5 hm
 have h2:=Zd5 hn
 unfold Zcz.f
 refine (Zjd hm hn).bind (Tells.ifp rfl ?_)
 by_cases h:n=0
 ·subst h
  exact Tells.ifp (by rw [Zft];rfl) (Tells.pure _)
 ·have hl0:0 < (limbs n).length:=List.length_pos_iff.2 (Zdu h)
  rw [if_neg h,Zk8 h (by omega) (by omega)]
  exact Tells.ifn (by omega) ((Tells.pure _).bind (Tells.pure _))
theorem Zn9 {m:Nat} (hm:(limbs m).length<=256):Tells (fun k=>Zff.f k (limbs m)) (limbs (root m),0):=by
 have h1:=Zd5 hm
 unfold Zff.f
 rw [chkN hm]
 exact (Tells.pure _).bind (Tells.ifp rfl ((Zon m (by omega)).bind (Tells.pure _)))
theorem Zg9 {m n:Nat} (hm:(limbs m).length<=256) (hn:(limbs n).length<=256):Tells (fun k=>Zc3.f k (limbs m) (limbs n)) (cmpN m n,0):=by
 have h1:=Zd5 hm
 have h2:=Zd5 hn
 unfold Zc3.f
 rw [chkN hm,chkN hn]
 refine (Tells.pure _).bind ((Tells.pure _).bind ((cmpOr2 0 0).bind (Tells.ifp rfl ?_)))
 rw [Zk3 (by omega) (by omega)]
 exact (Tells.pure _).bind (Tells.pure _)
theorem Zt4 (l:List Int) (hl:l.length<=1000000):∀ (d i:Nat) (x:List Int),l.length - 2*i<=d->2*i<=l.length+1->x.length=l.length->(∀ p,p < l.length->x.getD p 0=if p < i\/l.length - i<=p then l.getD (l.length - 1 - p) 0 else l.getD p 0) ->
  Tells (fun k=>Zr.l0 k x (i:Int) ((l.length:Int) - 1 - i)) l.reverse:=by
 have fin:∀ (x:List Int),x.length=l.length->(∀ p,p < l.length->x.getD p 0=l.getD (l.length - 1 - p) 0)->x=l.reverse:=fun x hx h=>by
  refine List.ext_getElem (by simp [hx]) (fun p h1 h2=>?_)
  have := h p (by omega)
  rw [getD_in h1,getD_in (by omega)] at this
  rw [this,List.getElem_reverse]
 intro d
 induction d with
 | zero =>
  intro i x hd hi hx h
  have c:¬ ((i:Int) < (l.length:Int) - 1 - i):=by omega
  refine Tells.succ ?_
  simp only [Zr.l0]
  refine Tells.ifn c ((Tells.pure _).val (fin x hx (fun p hp=>?_)))
  rw [h p hp]
  by_cases hq:p < i\/l.length - i<=p
  ·rw [if_pos hq]
  ·rw [if_neg hq,show l.length - 1 - p=p by omega]
 | succ d ih =>
  intro i x hd hi hx h
  by_cases c:(i:Int) < (l.length:Int) - 1 - i
  ·obtain ⟨j,hj⟩:∃ j:Nat,(l.length:Int) - 1 - i=j:=⟨l.length - 1 - i,by omega⟩
   have hij:i < j:=by omega
   have hjl:j < l.length:=by omega
   have hxi:=h i (by omega)
   have hxj:=h j hjl
   rw [if_neg (by omega)] at hxi hxj
   have hnext:=ih (i+1) ((x.set i (x.getD j 0)).set j (x.getD i 0)) (by omega) (by omega) (by simp [hx]) (fun p hp=>by
    by_cases hpj:p=j
    ·subst hpj
     rw [List.getD,List.getElem?_set_self (by simp;omega),if_pos (by omega),hxi,show l.length - 1 - p=i by omega];rfl
    ·rw [getD_set_ne _ (Ne.symm hpj)]
     by_cases hpi:p=i
     ·subst hpi
      rw [List.getD,List.getElem?_set_self (by omega),if_pos (by omega),hxj,show l.length - 1 - p=j by omega];rfl
     ·rw [getD_set_ne _ (Ne.symm hpi),h p hp]
      by_cases hq:p < i\/l.length - i<=p
      ·rw [if_pos hq,if_pos (by omega)]
      ·rw [if_neg hq,if_neg (by omega)])
   have e2:(l.length:Int) - 1 - ((i+1:Nat):Int)=(j:Int) - 1:=by omega
   rw [e2] at hnext
   rw [hj]
   refine Tells.succ ?_
   simp only [Zr.l0]
   rw [rd_n,rd_n,Int.toNat_natCast,Int.toNat_natCast,w64s (by omega),w64d (by omega)]
   exact Tells.ifp (by omega) (Tells.ifp (by omega) (Tells.ifp (by omega) (Tells.ifp (by omega) (Tells.ifp (by omega) hnext))))
  ·refine Tells.succ ?_
   simp only [Zr.l0]
   refine Tells.ifn c ((Tells.pure _).val (fin x hx (fun p hp=>?_)))
   rw [h p hp]
   by_cases hq:p < i\/l.length - i<=p
   ·rw [if_pos hq]
   ·rw [if_neg hq,show l.length - 1 - p=p by omega]
theorem Zpd (l:List Int) (hl:l.length<=1000000):Tells (fun k=>Zr.f k l) l.reverse:=by
 have h:=Zt4 l hl _ 0 l (Nat.le_refl _) (by omega) rfl (fun p hp=>by rw [if_neg (by omega)])
 unfold Zr.f
 rw [w64d (by omega)]
 have e:(l.length:Int) - 1 - ((0:Nat):Int)=(l.length:Int) - 1:=by omega
 rw [e] at h
 exact h
theorem Zm3 (n:Nat) (hn:nd n<=1000000) (q:Nat) (hl0:∀ D:List Int,D++digs q=digs n->Tells (fun k=>Zax.l0 k (D.map fun d=>48+d) (limbs q)) (decT n,0)) :
  ∀ (e:Nat),e<=9 -> ∀ (r:Nat) (D:List Int),r < 10 ^ e->D++digs (r+q*10 ^ e)=digs n ->
  Tells (fun k=>Zax.l1 k (D.map fun d=>48+d) (limbs q) (r:Int) ((9 - e:Nat):Int)) (decT n,0)
 | 0,he,r,D,hr,hD=>by
  rw [Nat.pow_zero,Nat.mul_one] at hD
  obtain rfl:r=0:=by rw [Nat.pow_zero] at hr;omega
  rw [Nat.zero_add] at hD
  refine Tells.succ ?_
  simp only [Zax.l1]
  exact Tells.ifn (by omega) (hl0 D hD)
 | e+1,he,r,D,hr,hD=>by
  have hr9:r < 1000000000:=Nat.lt_of_lt_of_le hr (Nat.le_trans (Nat.pow_le_pow_right (by omega) he) (by decide))
  have hlen:D.length<=1000000:=by
   have := congrArg List.length hD
   rw [List.length_append] at this
   have h2:(digs n).length<=1000000:=hn
   omega
  have ih:=Zm3 n hn q hl0 e (by omega)
  have go:r+q*10 ^ (e+1) ≠ 0->Tells (fun k=>Zax.l1 k ((D.map fun d=>48+d) ++ [(48+(Int.tmod (r:Int) 10)) % 256]) (limbs q) ((Int.tdiv (r:Int) 10) % 4294967296) (wrap64 (((9 - (e+1):Nat):Int)+1))) (decT n,0):=fun hne=>by
   have hpw:10 ^ (e+1)=10*10 ^ e:=by rw [Nat.pow_succ,Nat.mul_comm]
   have e1:(r+q*10 ^ (e+1)) % 10=r % 10:=by rw [hpw,Nat.mul_left_comm,Nat.add_mul_mod_self_left]
   have e2:(r+q*10 ^ (e+1)) / 10=r / 10+q*10 ^ e:=by rw [hpw,Nat.mul_left_comm,Nat.add_mul_div_left _ _ (by omega)]
   have hstep:=Zed hne
   rw [e1,e2] at hstep
   have h2:=ih (r / 10) (D ++ [((r % 10:Nat):Int)]) ((Nat.div_lt_iff_lt_mul (by omega)).2 (by rw [Nat.mul_comm,<- hpw];exact hr)) (by rw [List.append_assoc,List.singleton_append,<- hstep];exact hD)
   rw [List.map_append] at h2
   have f1:(48+(Int.tmod (r:Int) 10)) % 256=48+((r % 10:Nat):Int):=by rw [tmodc];omega
   have f2:(Int.tdiv (r:Int) 10) % 4294967296=((r / 10:Nat):Int):=by rw [Int.tdiv_eq_ediv_of_nonneg (by omega)];omega
   have f3:9 - (e+1)+1=9 - e:=by omega
   rw [f1,f2,w64s (by omega),f3]
   exact h2
  have c1:((9 - (e+1):Nat):Int) < 9:=by omega
  have c2:(D.map fun d=>48+d).length < 140737488355328:=by rw [List.length_map];omega
  refine Tells.succ ?_
  simp only [Zax.l1]
  refine Tells.ifp c1 ?_
  by_cases hq:q=0
  ·subst hq
   refine Tells.ifn (by rw [Zft];simp) ?_
   by_cases hr0:r=0
   ·subst hr0
    rw [Nat.zero_mul,Nat.add_zero] at hD
    exact Tells.ifn (by omega) (hl0 D hD)
   ·exact Tells.ifp (by omega) (Tells.ifp c2 (go (by omega)))
  ·have hl1:0 < (limbs q).length:=List.length_pos_iff.2 (Zdu hq)
   exact Tells.ifp (by omega) (Tells.ifp c2 (go (by have := Nat.mul_pos (Nat.pos_of_ne_zero hq) (Zbv (e+1));omega)))
theorem Zq1 (n:Nat) (hn:nd n<=1000000):∀ (f x:Nat) (D:List Int),x<=f->D++digs x=digs n->Tells (fun k=>Zax.l0 k (D.map fun d=>48+d) (limbs x)) (decT n,0):=by
 have fin:∀ D:List Int,D=digs n->Tells (fun k=>Zax.l0 k (D.map fun d=>48+d) (limbs 0)) (decT n,0):=fun D hD=>by
  have hl:(digs n).length<=1000000:=hn
  refine Tells.succ ?_
  simp only [Zax.l0]
  refine Tells.ifn (by rw [Zft];simp) ?_
  by_cases h0:n=0
  ·subst h0
   subst hD
   exact Tells.ifp rfl (Tells.pure _)
  ·have hpos:0 < (digs n).length:=Zgh h0
   refine Tells.ifn (by rw [List.length_map,hD];omega) ((Zpd _ (by rw [List.length_map,hD];exact hl)).bind ((Tells.pure _).val ?_))
   rw [<- List.map_reverse,hD,Zoo n h0]
 intro f
 induction f with
 | zero =>
  intro x D hf hD
  obtain rfl:x=0:=by omega
  rw [Zef,List.append_nil] at hD
  exact fin D hD
 | succ f ih =>
  intro x D hf hD
  by_cases h0:x=0
  ·subst h0
   rw [Zef,List.append_nil] at hD
   exact fin D hD
  ·have hx:nd x<=1000000:=by
    have := congrArg List.length hD
    rw [List.length_append] at this
    have h2:(digs n).length<=1000000:=hn
    show (digs x).length<=_
    omega
   have hpos:0 < (limbs x).length:=List.length_pos_iff.2 (Zdu h0)
   have h1:=Zm3 n hn (x / 1000000000) (fun D' hD'=>ih (x / 1000000000) D' (by omega) hD') 9 (by omega) (x % 1000000000) D (Nat.mod_lt _ (by omega)) (by
    rw [show x % 1000000000+x / 1000000000*10 ^ 9=x by omega];exact hD)
   refine Tells.succ ?_
   simp only [Zax.l0]
   rw [show (1000000000:Int)=((1000000000:Nat):Int) from rfl,Zmq hx 1000000000 (by omega) (by omega)]
   exact Tells.ifp (by omega) ((Tells.pure _).bind h1)
theorem Zg2 {n:Nat} (h:(limbs n).length<=256):Tells (fun k=>Zax.f k (limbs n)) (decT n,0):=by
 have hn:=Zd5 h
 unfold Zax.f
 rw [chkN h]
 exact (Tells.pure _).bind (Tells.ifp rfl (Zq1 n (by omega) n n [] (Nat.le_refl _) rfl))
end YtjbjkmccfocikaaGreatDoor.P
end
section
namespace YtjbjkmccfocikaaGreatDoor.B
open Go.RowKit YtjbjkmccfocikaaGreatDoorW.PrintWords YtjbjkmccfocikaaGreatDoorW.PrintLast YtjbjkmccfocikaaGreatDoorW.PrintMore
attribute [local go_sem] Zch Zci Zc9 Zda Zb1 Zb2 Zcp Zcq
def Zac.f (k:Nat) (a0_0:Bool) (l0_1:List Int) (a0_2:Int):Option (Bool × List Int × Int):=(Zat.f k l0_1).bind fun qf=>(some (a0_0,qf,a0_2))
def Zac.T1:Bool × List (List Nat × List Nat):=(true,[([],[]),([0],[0]),([],[]),([2],[2]),([3],[3]),([],[]),([5],[5]),([1,4,6],[1,4,6]),([7,4,0,1,2,3,4,5,6,7],[7])])
def Zac.B1:List Nat:=[0,1,0,4,12,0,32,127,255]
theorem Zac.tab1:rtab .any (opsOf Tryz.f18 1)=Zac.T1:=by kernel_rfl
theorem Zac.bits1:waitsOk Zac.T1.2 Zac.B1=true:=by kernel_rfl
theorem Zac.calls (k:Nat) (a0_0:Bool) (A0_1:Option Addr) (c0_1:Nat) (l0_1:List Int) (a0_2:Int) (r1:Bool) (r2:List Int) (r3:Int) (w:World) (hr0_1:Kd.C (Kd.int .u32) w A0_1 l0_1.length l0_1) (hc0_1:l0_1.length<=c0_1) (h:Zac.f k a0_0 l0_1 a0_2=some (r1,r2,r3)) :
  Calls Tryz.prog 18 #[.agg #[.bool a0_0,.slice A0_1 l0_1.length c0_1,.int .i64 a0_2]] w fun e w' => ∃ v1_:Value,e=.returned (.agg #[.bool r1,v1_,.int .i64 r3])/\Kd.R (Kd.int .i64) 3 w' w.heap.size (fun _=>True) v1_ r2/\Below w.heap.size w w':=by
 have hu24:=Tryz.underlying24
 have hu30:=Tryz.underlying30
 have HR0_1:=am hr0_1
 have HC0_1:=am hc0_1
 clear hr0_1 hc0_1
 have HB:=am (Below.refl w.heap.size w)
 have H:((Zat.f k l0_1).bind fun qf=>(some (a0_0,qf,a0_2)))=some (r1,r2,r3):=h
 clear h
 obtain ⟨qf,A2,H⟩:=ob H
 simp only [Option.some.injEq,Prod.mk.injEq] at H
 obtain ⟨rfl,rfl,rfl⟩:=H
 go_enter Tryz.func18,Tryz.ntmps18
 try go_wp2_with (first|((with_reducible refine gd 1 ?_);refine bx 1 #[.bool a0_0,.slice A0_1 l0_1.length c0_1,.int .i64 a0_2] 24 (h:=?_);intro qg hg w3 hbox hb;have qc:=am hbox;have qi:=gW hg;replace HB:=bS hb;clear hb hbox hg)|((with_reducible refine gd 2 ?_);refine bx 2 #[.bool false,.slice none 0 0,.int .i64 0] 30 (h:=?_);intro qb hg w4 hbox hb;have qd:=am hbox;have qj:=gW hg;have qa:=nL hg qc;have qe:=nG hg qc;replace qc:=bb qc hb;replace HB:=bS hb;clear hb hbox hg))
 replace qc:=am (Zc7 qc.o)
 replace qd:=am (Zc7 qd.o)
 replace HB:=am (Zbh HB.o)
 refine start_ (n:=9) (S:=fun w'=>w'.cell? ⟨qg,0,none⟩=some (.bool a0_0)/\w'.cell? ⟨qg,1,none⟩=some (.slice A0_1 l0_1.length c0_1)/\w'.cell? ⟨qg,2,none⟩=some (.int .i64 a0_2)) (ds:=[]) #[false,false,false,false,false,false,false,false,false] (by kernel_rfl) rfl rfl ⟨k0 qc 0,k0 qc 1,k0 qc 2⟩ (fun hHeld=>?_);refine Zdo Zac.tab1 Zac.bits1 (fun HT_ HW_=>?_)
 generalize w4.drew=w5 at qc qd HB hHeld ⊢
 refine pu 0 (some 3) #[true,false,false,false,false,false,false,false,false] (h:=?_)
 refine pu 2 (some 5) #[true,false,true,false,false,false,false,false,false] (h:=?_)
 refine pu 5 (some 8) #[true,false,true,false,false,true,false,false,false] (h:=?_)
 refine take_ (i:=1) (N:=some 4) (v:=?_) (a':=?_) #[true,true,true,false,false,true,false,false,false] rfl rfl (Zcs HT_.out HW_.out (by kernel_rfl)) (fun _ _ _ h=>h) (Or.inl ⟨by rfl,?_⟩) hHeld ?_ ?_
 rotate_left
 ·rintro w' ⟨s0,s1,s2⟩
  go_simp
  with_reducible rfl
 rotate_left
 ·exact pP
 refine take_ (i:=3) (N:=some 6) (v:=?_) (a':=?_) #[true,true,true,true,false,true,false,false,false] rfl rfl (Zcs HT_.out HW_.out (by kernel_rfl)) (fun _ _ _ h=>h) (Or.inl ⟨by rfl,?_⟩) hHeld ?_ ?_
 rotate_left
 ·rintro w' ⟨s0,s1,s2⟩
  go_simp
  with_reducible rfl
 rotate_left
 ·exact pP
 refine take_ (i:=6) (N:=some 9) (v:=?_) (a':=?_) #[true,true,true,true,false,true,true,false,false] rfl rfl (Zcs HT_.out HW_.out (by kernel_rfl)) (fun _ _ _ h=>h) (Or.inl ⟨by rfl,?_⟩) hHeld ?_ ?_
 rotate_left
 ·rintro w' ⟨s0,s1,s2⟩
  go_simp
  with_reducible rfl
 rotate_left
 ·exact pP
 refine one_ (i:=4) (N:=some 7) #[true,true,true,true,true,true,true,false,false] rfl rfl (Zc6 HT_.out (by kernel_rfl)) (by decide) (fun K hK=>?_)
 refine goes_ Tryz.func66 (by kernel_rfl) rfl #[.slice A0_1 l0_1.length c0_1] (by rfl) rfl rfl pA ?_
 with_reducible refine (Zat.calls k _ _ l0_1 qf _ ?side1 ?side2 A2.o).mono ?_
 (case side1=>exact cB HR0_1 HB)
 (case side2=>exact HC0_1.o)
 rintro e w6 ⟨qk,rfl,ho0,hb⟩
 refine ⟨_,rfl,?_⟩
 have qh:=am (Kd.Zn ho0 (Zb pB))
 replace qc:=bb qc hb
 replace qd:=bb qd hb
 replace HB:=bS hb
 obtain ⟨Ao7,co7,eo7⟩:=Kd.Zh qh.o
 (first|subst eo7|(injection eo7 with f1_ f2_ f3_;have f4_:=f1_.symm;have f5_:=f3_.symm;clear f1_ f2_ f3_;subst f4_;subst f5_))
 refine hK.out _ _ ⟨k0 qc 0,k0 qc 1,k0 qc 2⟩ (fun hHeld=>?_)
 clear hK K
 refine norm_ (a':=?_) ?_ ?_
 rotate_left
 ·show Act.put _ (some 7) _=_
  exact pP
 refine pu 7 (some 10) #[true,true,true,true,true,true,true,true,false] (h:=?_)
 refine one_ (i:=8) (N:=none) #[true,true,true,true,true,true,true,true,true] rfl rfl (Zc6 HT_.out (by kernel_rfl)) (by decide) (fun K hK=>?_)
 have hs8:w6.cell? ⟨qb,0,none⟩=some (.bool false):=k0 qd 0
 have hfs8:=Zcm qd.o 0
 have hns8_0:=qa.o
 have hms8_0:=qe.o
 have hs9:w6.cell? ⟨qb,1,none⟩=some (.slice none 0 0):=k0 qd 1
 have hfs9:=Zcm qd.o 1
 have hns9_0:=qa.o
 have hms9_0:=qe.o
 have hs10:w6.cell? ⟨qb,2,none⟩=some (.int .i64 0):=k0 qd 2
 have hfs10:=Zcm qd.o 2
 have hns10_0:=qa.o
 have hms10_0:=qe.o
 refine skip_ (w1:=?_) (by rfl) rfl ?_ ?_
 rotate_left
 ·go_simp
  rfl
 refine hK.out _ _ ⟨((cell_far (p:=⟨qb,_,none⟩) qa.o _).trans (((cell_far (p:=⟨qb,_,none⟩) qa.o _).trans (((cell_far (p:=⟨qb,_,none⟩) qa.o _).trans (hHeld.1)))))),((cell_far (p:=⟨qb,_,none⟩) qa.o _).trans (((cell_far (p:=⟨qb,_,none⟩) qa.o _).trans (((cell_far (p:=⟨qb,_,none⟩) qa.o _).trans (hHeld.2.1)))))),((cell_far (p:=⟨qb,_,none⟩) qa.o _).trans (((cell_far (p:=⟨qb,_,none⟩) qa.o _).trans (((cell_far (p:=⟨qb,_,none⟩) qa.o _).trans (hHeld.2.2))))))⟩ (fun hHeld=>?_)
 clear hK K
 refine done_ (Zex HT_.out (by kernel_rfl)) ?_
 try go_wp2
 refine bodyPost_ret (results_cell_row rfl _ _ qb 30 #[.bool a0_0,.slice Ao7 qf.length co7,.int .i64 a0_2] (0,0) _ rfl (by exact p3 qd) Tryz.underlying30 rfl (by kernel_rfl)) rfl ?_
 exact ⟨_,pE,by refine rp ?_;exact Kd.Zo (Kd.Zau (p:=⟨qb,2,none⟩) (Kd.Zau (p:=⟨qb,1,none⟩) (Kd.Zau (p:=⟨qb,0,none⟩) (Kd.Zba qh.o qd.o (by decide)) (fun _ hk=>hk.2) (.bool a0_0)) (fun _ hk=>hk.2) (.slice Ao7 qf.length co7)) (fun _ hk=>hk.2) (.int .i64 a0_2)) (fun _ hk=>trivial),pB⟩
mutual
def Zq.j0:Nat->Bool->Bool->List Int->Int->Bool->List Int->Int->Option (Bool)
 | 0,_,_,_,_,_,_,_=>none
 | k+1,x26,qi,qg,qj,qk,qh,ql=>if x26=true then (some false) else (Zq.l0 k 0 qi qg qj qk qh ql)
def Zq.l0:Nat->Int->Bool->List Int->Int->Bool->List Int->Int->Option (Bool)
 | 0,_,_,_,_,_,_,_=>none
 | k+1,x5,qi,qg,qj,qk,qh,ql=>if x5 < (qg.length:Int) then (if 0<=x5 then (if x5 < (qh.length:Int) then (if (rd qg x5)=(rd qh x5) then (Zq.l0 k (wrap64 (x5+1)) qi qg qj qk qh ql) else (some false)) else (none)) else (none)) else (some true)
end
def Zq.f (k:Nat) (a0_0:Bool) (l0_1:List Int) (a0_2:Int) (a1_0:Bool) (l1_1:List Int) (a1_2:Int):Option (Bool):=if (a0_0 != a1_0)=true then (Zq.j0 k true a0_0 l0_1 a0_2 a1_0 l1_1 a1_2) else (if a0_2=a1_2 then (Zq.j0 k ((l0_1.length:Int) != (l1_1.length:Int)) a0_0 l0_1 a0_2 a1_0 l1_1 a1_2) else (Zq.j0 k true a0_0 l0_1 a0_2 a1_0 l1_1 a1_2))
theorem Zq.calls (k:Nat) (a0_0:Bool) (A0_1:Option Addr) (c0_1:Nat) (l0_1:List Int) (a0_2:Int) (a1_0:Bool) (A1_1:Option Addr) (c1_1:Nat) (l1_1:List Int) (a1_2:Int) (r:Bool) (w:World) (hr0_1:Kd.C (Kd.int .u32) w A0_1 l0_1.length l0_1) (hc0_1:l0_1.length<=c0_1) (hr1_1:Kd.C (Kd.int .u32) w A1_1 l1_1.length l1_1) (hc1_1:l1_1.length<=c1_1) (h:Zq.f k a0_0 l0_1 a0_2 a1_0 l1_1 a1_2=some r) :
  Calls Tryz.prog 21 #[.agg #[.bool a0_0,.slice A0_1 l0_1.length c0_1,.int .i64 a0_2],.agg #[.bool a1_0,.slice A1_1 l1_1.length c1_1,.int .i64 a1_2]] w fun e w'=>e=.returned (.bool r)/\Below w.heap.size w w':=by
 have hu24:=Tryz.underlying24
 have HR0_1:=am hr0_1
 have HC0_1:=am hc0_1
 clear hr0_1 hc0_1
 have HR1_1:=am hr1_1
 have HC1_1:=am hc1_1
 clear hr1_1 hc1_1
 have HB:=am (Below.refl w.heap.size w)
 have H:(if (a0_0 != a1_0)=true then (Zq.j0 k true a0_0 l0_1 a0_2 a1_0 l1_1 a1_2) else (if a0_2=a1_2 then (Zq.j0 k ((l0_1.length:Int) != (l1_1.length:Int)) a0_0 l0_1 a0_2 a1_0 l1_1 a1_2) else (Zq.j0 k true a0_0 l0_1 a0_2 a1_0 l1_1 a1_2)))=some r:=h
 clear h
 have HC3:=am H
 clear H
 go_enter Tryz.func21,Tryz.ntmps21
 go_upto_region 1 with (first|((with_reducible refine gd 2 ?_);(try (refine Za1 (by rfl) ?_;dsimp only));refine bx 2 #[.bool a0_0,.slice A0_1 l0_1.length c0_1,.int .i64 a0_2] 24 (h:=?_);intro qq hg w4 hbox hb;have qa:=am hbox;have qu:=gW hg;have qs:=gW hg;replace HB:=bS hb;clear hb hbox hg)|((with_reducible refine gd 3 ?_);(try (refine Za1 (by rfl) ?_;dsimp only));refine bx 3 #[.bool a1_0,.slice A1_1 l1_1.length c1_1,.int .i64 a1_2] 24 (h:=?_);intro qr hg w5 hbox hb;have qd:=am hbox;have qv:=gW hg;have qt:=gW hg;have qb:=nL hg qa;have qc:=nG hg qa;replace qa:=bb qa hb;replace HB:=bS hb;clear hb hbox hg))
 repeat (go_quiet (first|((with_reducible refine gd 2 ?_);(try (refine Za1 (by rfl) ?_;dsimp only));refine bx 2 #[.bool a0_0,.slice A0_1 l0_1.length c0_1,.int .i64 a0_2] 24 (h:=?_);intro qq hg w4 hbox hb;have qa:=am hbox;have qu:=gW hg;have qs:=gW hg;replace HB:=bS hb;clear hb hbox hg)|((with_reducible refine gd 3 ?_);(try (refine Za1 (by rfl) ?_;dsimp only));refine bx 3 #[.bool a1_0,.slice A1_1 l1_1.length c1_1,.int .i64 a1_2] 24 (h:=?_);intro qr hg w5 hbox hb;have qd:=am hbox;have qv:=gW hg;have qt:=gW hg;have qb:=nL hg qa;have qc:=nG hg qa;replace qa:=bb qa hb;replace HB:=bS hb;clear hb hbox hg));go_upto_region 1 with (first|((with_reducible refine gd 2 ?_);(try (refine Za1 (by rfl) ?_;dsimp only));refine bx 2 #[.bool a0_0,.slice A0_1 l0_1.length c0_1,.int .i64 a0_2] 24 (h:=?_);intro qq hg w4 hbox hb;have qa:=am hbox;have qu:=gW hg;have qs:=gW hg;replace HB:=bS hb;clear hb hbox hg)|((with_reducible refine gd 3 ?_);(try (refine Za1 (by rfl) ?_;dsimp only));refine bx 3 #[.bool a1_0,.slice A1_1 l1_1.length c1_1,.int .i64 a1_2] 24 (h:=?_);intro qr hg w5 hbox hb;have qd:=am hbox;have qv:=gW hg;have qt:=gW hg;have qb:=nL hg qa;have qc:=nG hg qa;replace qa:=bb qa hb;replace HB:=bS hb;clear hb hbox hg)))
 (try simp only [Act.put,List.setIfInBounds_toArray,List.set_cons_zero,List.set_cons_succ])
 go_cut [26] (fun v26 wc => ∃ (kq:Nat) (x26_2:Bool),v26=.bool x26_2/\Aside0 (Zq.j0 kq x26_2 a0_0 l0_1 a0_2 a1_0 l1_1 a1_2=some r)/\Aside0 (kq<=k)/\Aside0 (wc.heap[qq]? = some (.cells #[.bool a0_0,(.slice A0_1 l0_1.length c0_1),.int .i64 a0_2] 24 (0,0)))/\Aside0 (wc.heap[qr]? = some (.cells #[.bool a1_0,(.slice A1_1 l1_1.length c1_1),.int .i64 a1_2] 24 (0,0)))/\Aside0 (Below w.heap.size w wc))
 case first =>
  have H:=HC3.o
  clear HC3
  by_cases c6:(a0_0 != a1_0)=true
  ·rw [if_pos c6] at H
   have c6b0:(a0_0 != a1_0)=true:=c6
   (try (have c6b1:decide (a0_0=a1_0)=false:=by simpa using c6))
   (try (have c6b2:(a0_0 == a1_0)=false:=by simpa using c6))
   (try (have c6b3:¬ (a0_0=a1_0):=by simpa using c6))
   clear c6
   (first|rw [c6b0]|(simp only [Zb9,Zdj];rw [c6b0])|skip)
   have H':=am H
   clear H
   have hnb7:=qb.o
   have hnc7:=qc.o
   obtain ⟨_,_,_,_,_,_⟩:=cEc qa.o
   obtain ⟨_,_,_,_,_,_⟩:=cEc qd.o
   go_wp2
   repeat (go_quiet (fail);try go_wp2)
   go_meet
   case rel=>exact ⟨_,(true),pR,H',pJ,⟨Zg qa.o pl⟩,⟨Zg qd.o pl⟩,⟨pB⟩⟩
  ·rw [if_neg c6] at H
   have c6b0:(a0_0 != a1_0)=false:=by simpa using c6
   (try (have c6b1:decide (a0_0=a1_0)=true:=by simpa using c6))
   (try (have c6b2:(a0_0 == a1_0)=true:=by simpa using c6))
   clear c6
   (first|rw [c6b0]|(simp only [Zb9,Zdj];rw [c6b0])|skip)
   replace H:=eI H
   rcases H with ⟨c10b0,c10b1,H⟩|⟨c10,c10b0,c10b1,H⟩
   ·have H':=am H
    clear H
    have q0:=qb.o
    have q5:=qc.o
    obtain ⟨_,_,_,_,_,_⟩:=cEc qa.o
    obtain ⟨_,_,_,_,_,_⟩:=cEc qd.o
    go_wp2
    repeat (go_quiet (fail);try go_wp2)
    go_meet
    case rel=>exact ⟨_,(((l0_1.length:Int) != (l1_1.length:Int))),pR,H',pJ,⟨Zg qa.o pl⟩,⟨Zg qd.o pl⟩,⟨pB⟩⟩
   ·have H':=am H
    clear H
    have q1:=qb.o
    have q6:=qc.o
    obtain ⟨_,_,_,_,_,_⟩:=cEc qa.o
    obtain ⟨_,_,_,_,_,_⟩:=cEc qd.o
    go_wp2
    repeat (go_quiet (fail);try go_wp2)
    go_meet
    case rel=>exact ⟨_,(true),pR,H',pJ,⟨Zg qa.o pl⟩,⟨Zg qd.o pl⟩,⟨pB⟩⟩
 case rest =>
  clear HC3
  obtain ⟨kq,x26_2,rfl,HA,HJ2,qa,qd,HB⟩:=hcut
  cases kq with
  | zero=>exact absurd HA.out (by simp [Zq.j0])
  | succ kj2 =>
   have H:=HA.out
   clear HA
   simp only [Zq.j0] at H
   replace H:=tI (t:=x26_2) H
   rcases H with ⟨rfl,H⟩|⟨rfl,H⟩
   ·obtain rfl:=Option.some.inj H
    go_wp2
    repeat (go_quiet (fail);try go_wp2)
    go_ret
    exact ⟨pE,pB⟩
   ·have H':=am H
    clear H
    go_wp2
    repeat (go_quiet (fail);try go_wp2)
    go_loopg [5] kj2 (fun kq v5 w' => ∃ (x5_2:Int),v5=.int .i64 x5_2/\Aside0 (Zq.l0 kq x5_2 a0_0 l0_1 a0_2 a1_0 l1_1 a1_2=some r)/\Aside0 (kq<=kj2)/\Aside0 (w'.heap[qq]? = some (.cells #[.bool a0_0,(.slice A0_1 l0_1.length c0_1),.int .i64 a0_2] 24 (0,0)))/\Aside0 (w'.heap[qr]? = some (.cells #[.bool a1_0,(.slice A1_1 l1_1.length c1_1),.int .i64 a1_2] 24 (0,0)))/\Aside0 (Below w.heap.size w w'))
    case atStart=>exact ⟨(0),pR,H',⟨Nat.le_refl _⟩,⟨Zg qa.o pl⟩,⟨Zg qd.o pl⟩,⟨pB⟩⟩
    case round =>
     clear H'
     obtain ⟨x5_2,rfl,HA,HK2,qa,qd,HB⟩:=hrel
     cases gk with
     | zero=>exact absurd HA.out (by simp [Zq.l0])
     | succ k2 =>
      have H:=HA.out
      clear HA
      simp only [Zq.l0] at H
      replace H:=dI H
      rcases H with ⟨c18b0,H⟩|⟨c18b0,H⟩
      ·replace H:=dI H
       rcases H with ⟨c19b0,H⟩|⟨_,H⟩
       ·replace H:=dI H
        rcases H with ⟨c20b0,H⟩|⟨_,H⟩
        ·replace H:=eI H
         rcases H with ⟨c21b0,c21b1,H⟩|⟨c21,c21b0,c21b1,H⟩
         ·have H':=am H
          clear H
          have q2:=qb.o
          have q7:=qc.o
          obtain ⟨_,_,_,_,_,_⟩:=cEc qa.o
          have qm:0<=(x5_2:Int):=of_decide_eq_true pQ
          have qo:x5_2 < (l0_1.length:Int):=of_decide_eq_true pQ
          obtain ⟨qy,qw,qe⟩:=Kd.Zay HR0_1.o x5_2 qm qo
          cases qw
          replace qe:=(HB.o.cell (World.block_lt_of_cell? w _ qe)).trans qe
          replace qm:=eq_true qm
          replace qo:=eq_true qo
          obtain ⟨_,_,_,_,_,_⟩:=cEc qd.o
          have qn:0<=(x5_2:Int):=of_decide_eq_true pQ
          have qp:x5_2 < (l1_1.length:Int):=of_decide_eq_true pQ
          obtain ⟨qz,qx,qf⟩:=Kd.Zay HR1_1.o x5_2 qn qp
          cases qx
          replace qf:=(HB.o.cell (World.block_lt_of_cell? w _ qf)).trans qf
          replace qn:=eq_true qn
          replace qp:=eq_true qp
          go_wp2
          repeat (go_quiet (fail);try go_wp2)
          go_roundg k2
          case measure=>exact pM
          case rel=>exact ⟨(wrap64 (x5_2+1)),pR,H',pJ,⟨Zg qa.o pl⟩,⟨Zg qd.o pl⟩,⟨pB⟩⟩
         ·obtain rfl:=Option.some.inj H
          have q3:=qb.o
          have q8:=qc.o
          obtain ⟨_,_,_,_,_,_⟩:=cEc qa.o
          have qm:0<=(x5_2:Int):=of_decide_eq_true pQ
          have qo:x5_2 < (l0_1.length:Int):=of_decide_eq_true pQ
          obtain ⟨qy,qw,qe⟩:=Kd.Zay HR0_1.o x5_2 qm qo
          cases qw
          replace qe:=(HB.o.cell (World.block_lt_of_cell? w _ qe)).trans qe
          replace qm:=eq_true qm
          replace qo:=eq_true qo
          obtain ⟨_,_,_,_,_,_⟩:=cEc qd.o
          have qn:0<=(x5_2:Int):=of_decide_eq_true pQ
          have qp:x5_2 < (l1_1.length:Int):=of_decide_eq_true pQ
          obtain ⟨qz,qx,qf⟩:=Kd.Zay HR1_1.o x5_2 qn qp
          cases qx
          replace qf:=(HB.o.cell (World.block_lt_of_cell? w _ qf)).trans qf
          replace qn:=eq_true qn
          replace qp:=eq_true qp
          go_wp2
          repeat (go_quiet (fail);try go_wp2)
          go_ret
          exact ⟨pE,pB⟩
        ·cases H
       ·cases H
      ·obtain rfl:=Option.some.inj H
       have q4:=qb.o
       have q9:=qc.o
       obtain ⟨_,_,_,_,_,_⟩:=cEc qa.o
       go_wp2
       repeat (go_quiet (fail);try go_wp2)
       go_ret
       exact ⟨pE,pB⟩
mutual
def Ze.j0:Nat->Bool->Bool->List Int->Int->Option (Int)
 | 0,_,_,_,_=>none
 | k+1,x13,qw,q1,qq=>if x13=true then (some 9) else ((Zac.f k qw q1 qq).bind fun qu=>(if (qu.2.1.length:Int)=0 then (if qw=true then (Ze.j1 k true) else (Ze.j1 k (qq != 0))) else (if 0 < (qu.2.1.length:Int) then (if (rd qu.2.1 0)=0 then (some 9) else (if (qu.2.1.length:Int) > 300 then (some 9) else (if qq < (-1000) then (some 9) else (if qq > 1000 then (some 9) else (some 0))))) else (none))))
def Ze.j1:Nat->Bool->Option (Int)
 | 0,_=>none
 | k+1,x26=>if x26=true then (some 9) else (some 0)
end
def Ze.f (k:Nat) (a0_0:Bool) (l0_1:List Int) (a0_2:Int):Option (Int):=(Zb6.f l0_1).bind fun qx=>(if qx=0 then (Ze.j0 k (decide ((l0_1.length:Int) > 40)) a0_0 l0_1 a0_2) else (Ze.j0 k true a0_0 l0_1 a0_2))
theorem Ze.calls (k:Nat) (a0_0:Bool) (A0_1:Option Addr) (c0_1:Nat) (l0_1:List Int) (a0_2:Int) (r:Int) (w:World) (hr0_1:Kd.C (Kd.int .u32) w A0_1 l0_1.length l0_1) (hc0_1:l0_1.length<=c0_1) (h:Ze.f k a0_0 l0_1 a0_2=some r) :
  Calls Tryz.prog 33 #[.agg #[.bool a0_0,.slice A0_1 l0_1.length c0_1,.int .i64 a0_2]] w fun e w'=>e=.returned (.int .i64 r)/\Below w.heap.size w w':=by
 have hu24:=Tryz.underlying24
 have hu30:=Tryz.underlying30
 have HR0_1:=am hr0_1
 have HC0_1:=am hc0_1
 clear hr0_1 hc0_1
 have HB:=am (Below.refl w.heap.size w)
 have H:((Zb6.f l0_1).bind fun qx=>(if qx=0 then (Ze.j0 k (decide ((l0_1.length:Int) > 40)) a0_0 l0_1 a0_2) else (Ze.j0 k true a0_0 l0_1 a0_2)))=some r:=h
 clear h
 have HC2:=am H
 clear H
 go_enter Tryz.func33,Tryz.ntmps33
 go_upto_region 1 with (first|((with_reducible refine gd 1 ?_);(try (refine Za1 (by rfl) ?_;dsimp only));refine bx 1 #[.bool a0_0,.slice A0_1 l0_1.length c0_1,.int .i64 a0_2] 24 (h:=?_);intro q2 hg w3 hbox hb;have qb:=am hbox;have jf:=gW hg;replace HB:=bS hb;clear hb hbox hg))
 (try simp only [Act.put,List.setIfInBounds_toArray,List.set_cons_zero,List.set_cons_succ])
 go_cut [13] (fun v13 wc => ∃ (kq:Nat) (x13_1:Bool),v13=.bool x13_1/\Aside0 (Ze.j0 kq x13_1 a0_0 l0_1 a0_2=some r)/\Aside0 (kq<=k)/\Aside0 (wc.heap[q2]? = some (.cells #[.bool a0_0,(.slice A0_1 l0_1.length c0_1),.int .i64 a0_2] 24 (0,0)))/\Aside0 (Below w.heap.size w wc))
 case first =>
  have H:=HC2.o
  clear HC2
  replace H:=ob H
  obtain ⟨qx,A4,H⟩:=H
  replace H:=eI H
  rcases H with ⟨c5b0,c5b1,H⟩|⟨c5,c5b0,c5b1,H⟩
  ·(first|rw [c5b0]|(simp only [Zb9,Zdj];rw [c5b0])|skip)
   have H':=am H
   clear H
   obtain ⟨_,_,_,_,_,_⟩:=cEc qb.o
   go_wp2_with (first|(refine gL (some 6) Tryz.func91 #[.slice A0_1 l0_1.length c0_1] (h:=?_);(with_reducible refine (Zb6.calls _ _ l0_1 qx _ ?side1 ?side2 A4.o).mono ?_);(case side1=>exact cB HR0_1 HB);(case side2=>exact HC0_1.o);rintro e w' ⟨rfl,⟨nd,rfl⟩⟩;refine ⟨_,rfl,?_⟩))
   go_meet
   case rel=>exact ⟨_,(decide ((l0_1.length:Int) > 40)),pR,H',pJ,⟨Zg qb.o pl⟩,⟨pB⟩⟩
  ·(first|rw [c5b0]|(simp only [Zb9,Zdj];rw [c5b0])|skip)
   have H':=am H
   clear H
   obtain ⟨_,_,_,_,_,_⟩:=cEc qb.o
   go_wp2_with (first|(refine gL (some 6) Tryz.func91 #[.slice A0_1 l0_1.length c0_1] (h:=?_);(with_reducible refine (Zb6.calls _ _ l0_1 qx _ ?side1 ?side2 A4.o).mono ?_);(case side1=>exact cB HR0_1 HB);(case side2=>exact HC0_1.o);rintro e w' ⟨rfl,⟨nd,rfl⟩⟩;refine ⟨_,rfl,?_⟩))
   go_meet
   case rel=>exact ⟨_,(true),pR,H',pJ,⟨Zg qb.o pl⟩,⟨pB⟩⟩
 case rest =>
  clear HC2
  obtain ⟨kq,x13_1,rfl,HA,HJ1,qb,HB⟩:=hcut
  cases kq with
  | zero=>exact absurd HA.out (by simp [Ze.j0])
  | succ kj1 =>
   have H:=HA.out
   clear HA
   simp only [Ze.j0] at H
   replace H:=tI (t:=x13_1) H
   rcases H with ⟨rfl,H⟩|⟨rfl,H⟩
   ·obtain rfl:=Option.some.inj H
    go_wp2
    go_ret
    exact ⟨pE,pB⟩
   ·replace H:=ob H
    obtain ⟨⟨qo,ql,qp⟩,A9,H⟩:=H;(try dsimp only at H)
    replace H:=eI H
    rcases H with ⟨c10b0,c10b1,H⟩|⟨c10,c10b0,c10b1,H⟩
    ·have HC11:=am H
     clear H
     obtain ⟨_,_,_,_,_,_⟩:=cEc qb.o
     go_upto_region 5 with (first|(refine gL (some 15) Tryz.func18 #[.agg #[.bool a0_0,.slice A0_1 l0_1.length c0_1,.int .i64 a0_2]] (h:=?_);(with_reducible refine (Zac.calls kj1 a0_0 _ _ l0_1 a0_2 qo ql qp _ ?side1 ?side2 A9.o).mono ?_);(case side1=>exact cB HR0_1 HB);(case side2=>exact HC0_1.o);rintro e w13 ⟨qy,rfl,ho0,hb⟩;refine ⟨_,rfl,?_⟩;have qc:=am (Kd.Zn ho0 (Zb pB));replace qb:=bb qb hb;replace HB:=bS hb)|((with_reducible refine gd 3 ?_);(try (refine Za1 (by rfl) ?_;dsimp only));refine bx 3 #[.bool false,.slice none 0 0,.int .i64 0] 30 (h:=?_);intro qd hg w14 hbox hb;have qj:=am hbox;have qt:=gW hg;have qs:=gW hg;have qh:=nL hg qb;have qi:=nG hg qb;replace qc:=rbl qc hb;replace qb:=bb qb hb;replace HB:=bS hb;clear hb hbox hg;have jg:=qi.o;have jo:=qh.o;obtain ⟨_,_,_,_,_,_⟩:=cEc qj.o;obtain ⟨qz,q0,q9⟩:=Kd.Zh qc.o;subst q9))
     (try simp only [Act.put,List.setIfInBounds_toArray,List.set_cons_zero,List.set_cons_succ])
     go_cut [26] (fun v26 wc => ∃ (kq:Nat) (x26_10:Bool),v26=.bool x26_10/\Aside0 (Ze.j1 kq x26_10=some r)/\Aside0 (kq<=kj1)/\Aside0 (Kd.R (Kd.int .i64) 3 wc w.heap.size (fun _=>True) (.slice qz ql.length q0) ql)/\Aside0 (wc.heap[q2]? = some (.cells #[.bool a0_0,(.slice A0_1 l0_1.length c0_1),.int .i64 a0_2] 24 (0,0)))/\Aside0 (wc.heap[qd]? = some (.cells #[.bool qo,(.slice qz ql.length q0),.int .i64 qp] 30 (0,0)))/\Aside0 (Below w.heap.size w wc))
     case first =>
      have H:=HC11.o
      clear HC11
      replace H:=tI (t:=a0_0) H
      rcases H with ⟨rfl,H⟩|⟨rfl,H⟩
      ·have H':=am H
       clear H
       have jh:=qh.o
       have jp:=qi.o
       obtain ⟨_,_,_,_,_,_⟩:=cEc qb.o
       go_wp2
       go_meet
       case rel=>exact ⟨_,(true),pR,H',pJ,⟨by refine rp ?_;exact Kd.Zo (Kd.Zau (p:=⟨qd,2,none⟩) (Kd.Zau (p:=⟨qd,1,none⟩) (Kd.Zau (p:=⟨qd,0,none⟩) (Kd.Zba qc.o qj.o (by decide)) (fun _ hk=>hk.2) (.bool qo)) (fun _ hk=>hk.2) (.slice qz ql.length q0)) (fun _ hk=>hk.2) (.int .i64 qp)) (fun _ hk=>trivial)⟩,⟨bf qh.o qb.o⟩,⟨by exact p3 qj⟩,⟨pB⟩⟩
      ·have H':=am H
       clear H
       have ji:=qh.o
       have jq:=qi.o
       obtain ⟨_,_,_,_,_,_⟩:=cEc qb.o
       go_wp2
       go_meet
       case rel=>exact ⟨_,((a0_2 != 0)),pR,H',pJ,⟨by refine rp ?_;exact Kd.Zo (Kd.Zau (p:=⟨qd,2,none⟩) (Kd.Zau (p:=⟨qd,1,none⟩) (Kd.Zau (p:=⟨qd,0,none⟩) (Kd.Zba qc.o qj.o (by decide)) (fun _ hk=>hk.2) (.bool qo)) (fun _ hk=>hk.2) (.slice qz ql.length q0)) (fun _ hk=>hk.2) (.int .i64 qp)) (fun _ hk=>trivial)⟩,⟨bf qh.o qb.o⟩,⟨by exact p3 qj⟩,⟨pB⟩⟩
     case rest =>
      clear HC11
      obtain ⟨kq,x26_10,rfl,HA,HJ10,q3,qb,qj,HB⟩:=hcut
      cases kq with
      | zero=>exact absurd HA.out (by simp [Ze.j1])
      | succ j3 =>
       have H:=HA.out
       clear HA
       simp only [Ze.j1] at H
       replace H:=tI (t:=x26_10) H
       rcases H with ⟨rfl,H⟩|⟨rfl,H⟩
       ·obtain rfl:=Option.some.inj H
        go_wp2
        go_ret
        exact ⟨pE,pB⟩
       ·obtain rfl:=Option.some.inj H
        go_wp2
        go_ret
        exact ⟨pE,pB⟩
    ·have c10b2:¬ (ql=[]):=fun h_=>c10 (by rw [h_];rfl)
     by_cases c24:0 < (ql.length:Int)
     ·rw [if_pos c24] at H
      have c24b0:decide (0 < (ql.length:Int))=true:=decide_eq_true c24
      have c24b1:decide (0 < ql.length)=true:=decide_eq_true (by omega)
      clear c24
      replace H:=eI H
      rcases H with ⟨c25b0,c25b1,H⟩|⟨c25,c25b0,c25b1,H⟩
      ·obtain rfl:=Option.some.inj H
       obtain ⟨_,_,_,_,_,_⟩:=cEc qb.o
       go_wp2_with (first|(refine gL (some 15) Tryz.func18 #[.agg #[.bool a0_0,.slice A0_1 l0_1.length c0_1,.int .i64 a0_2]] (h:=?_);(with_reducible refine (Zac.calls kj1 a0_0 _ _ l0_1 a0_2 qo ql qp _ ?side1 ?side2 A9.o).mono ?_);(case side1=>exact cB HR0_1 HB);(case side2=>exact HC0_1.o);rintro e w27 ⟨qy,rfl,ho0,hb⟩;refine ⟨_,rfl,?_⟩;have qc:=am (Kd.Zn ho0 (Zb pB));replace qb:=bb qb hb;replace HB:=bS hb)|((with_reducible refine gd 3 ?_);(try (refine Za1 (by rfl) ?_;dsimp only));refine bx 3 #[.bool false,.slice none 0 0,.int .i64 0] 30 (h:=?_);intro qd hg w28 hbox hb;have qj:=am hbox;have qt:=gW hg;have qs:=gW hg;have qh:=nL hg qb;have qi:=nG hg qb;replace qc:=rbl qc hb;replace qb:=bb qb hb;replace HB:=bS hb;clear hb hbox hg;have jj:=qi.o;have jr:=qh.o;obtain ⟨_,_,_,_,_,_⟩:=cEc qj.o;obtain ⟨jw,q4,ja⟩:=Kd.Zh qc.o;subst ja;have qm:0<=(0:Int):=(by omega);have qn:0 < (ql.length:Int):=of_decide_eq_true pQ;obtain ⟨qk,qr,qa⟩:=Kd.Zay (Kd.Zc qc.o).2.2 0 qm qn;cases qr;have qv:(0 < ql.length)=True:=eq_true (by omega);(try rw [show ((0:Int)).toNat=0 from rfl] at qa);(try rw [Addr.add_zero'] at qa);have qe:qk.block ≠ qd:=Kd.Zd3 (Kd.R_ne qc.o qj.o (by decide));have qf:qk.block ≠ qd:=Kd.Zd3 (Kd.R_ne qc.o qj.o (by decide));have qg:qk.block ≠ qd:=Kd.Zd3 (Kd.R_ne qc.o qj.o (by decide));replace qa:=(cell_far (p:=⟨qd,0,none⟩) (by first|(rw [Zbb];exact qe)|(show (Addr.add _ _).block ≠ _;rw [Zbb];exact qe)|exact qe) (.bool qo)).trans qa;replace qa:=(cell_far (p:=⟨qd,1,none⟩) (by first|(rw [Zbb];exact qf)|(show (Addr.add _ _).block ≠ _;rw [Zbb];exact qf)|exact qf) (.slice (some qk) ql.length q4)).trans qa;replace qa:=(cell_far (p:=⟨qd,2,none⟩) (by first|(rw [Zbb];exact qg)|(show (Addr.add _ _).block ≠ _;rw [Zbb];exact qg)|exact qg) (.int .i64 qp)).trans qa;clear qe qf qg;replace qm:=eq_true qm;replace qn:=eq_true qn))
       go_ret
       exact ⟨pE,pB⟩
      ·by_cases c32:(ql.length:Int) > 300
       ·rw [if_pos c32] at H
        have c32b0:decide (300 < (ql.length:Int))=true:=decide_eq_true c32
        have c32b1:decide (300 < ql.length)=true:=decide_eq_true (by omega)
        clear c32
        obtain rfl:=Option.some.inj H
        obtain ⟨_,_,_,_,_,_⟩:=cEc qb.o
        go_wp2_with (first|(refine gL (some 15) Tryz.func18 #[.agg #[.bool a0_0,.slice A0_1 l0_1.length c0_1,.int .i64 a0_2]] (h:=?_);(with_reducible refine (Zac.calls kj1 a0_0 _ _ l0_1 a0_2 qo ql qp _ ?side1 ?side2 A9.o).mono ?_);(case side1=>exact cB HR0_1 HB);(case side2=>exact HC0_1.o);rintro e w34 ⟨qy,rfl,ho0,hb⟩;refine ⟨_,rfl,?_⟩;have qc:=am (Kd.Zn ho0 (Zb pB));replace qb:=bb qb hb;replace HB:=bS hb)|((with_reducible refine gd 3 ?_);(try (refine Za1 (by rfl) ?_;dsimp only));refine bx 3 #[.bool false,.slice none 0 0,.int .i64 0] 30 (h:=?_);intro qd hg w35 hbox hb;have qj:=am hbox;have qt:=gW hg;have qs:=gW hg;have qh:=nL hg qb;have qi:=nG hg qb;replace qc:=rbl qc hb;replace qb:=bb qb hb;replace HB:=bS hb;clear hb hbox hg;have jk:=qi.o;have js:=qh.o;obtain ⟨_,_,_,_,_,_⟩:=cEc qj.o;obtain ⟨jx,q5,jb⟩:=Kd.Zh qc.o;subst jb;have qm:0<=(0:Int):=(by omega);have qn:0 < (ql.length:Int):=of_decide_eq_true pQ;obtain ⟨qk,qr,qa⟩:=Kd.Zay (Kd.Zc qc.o).2.2 0 qm qn;cases qr;have qv:(0 < ql.length)=True:=eq_true (by omega);(try rw [show ((0:Int)).toNat=0 from rfl] at qa);(try rw [Addr.add_zero'] at qa);have qe:qk.block ≠ qd:=Kd.Zd3 (Kd.R_ne qc.o qj.o (by decide));have qf:qk.block ≠ qd:=Kd.Zd3 (Kd.R_ne qc.o qj.o (by decide));have qg:qk.block ≠ qd:=Kd.Zd3 (Kd.R_ne qc.o qj.o (by decide));replace qa:=(cell_far (p:=⟨qd,0,none⟩) (by first|(rw [Zbb];exact qe)|(show (Addr.add _ _).block ≠ _;rw [Zbb];exact qe)|exact qe) (.bool qo)).trans qa;replace qa:=(cell_far (p:=⟨qd,1,none⟩) (by first|(rw [Zbb];exact qf)|(show (Addr.add _ _).block ≠ _;rw [Zbb];exact qf)|exact qf) (.slice (some qk) ql.length q5)).trans qa;replace qa:=(cell_far (p:=⟨qd,2,none⟩) (by first|(rw [Zbb];exact qg)|(show (Addr.add _ _).block ≠ _;rw [Zbb];exact qg)|exact qg) (.int .i64 qp)).trans qa;clear qe qf qg;replace qm:=eq_true qm;replace qn:=eq_true qn))
        go_ret
        exact ⟨pE,pB⟩
       ·rw [if_neg c32] at H
        have c32b0:decide (300 < (ql.length:Int))=false:=decide_eq_false c32
        have c32b1:decide (300 < ql.length)=false:=decide_eq_false (by omega)
        clear c32
        replace H:=dI H
        rcases H with ⟨c39b0,H⟩|⟨c39b0,H⟩
        ·obtain rfl:=Option.some.inj H
         obtain ⟨_,_,_,_,_,_⟩:=cEc qb.o
         go_wp2_with (first|(refine gL (some 15) Tryz.func18 #[.agg #[.bool a0_0,.slice A0_1 l0_1.length c0_1,.int .i64 a0_2]] (h:=?_);(with_reducible refine (Zac.calls kj1 a0_0 _ _ l0_1 a0_2 qo ql qp _ ?side1 ?side2 A9.o).mono ?_);(case side1=>exact cB HR0_1 HB);(case side2=>exact HC0_1.o);rintro e w41 ⟨qy,rfl,ho0,hb⟩;refine ⟨_,rfl,?_⟩;have qc:=am (Kd.Zn ho0 (Zb pB));replace qb:=bb qb hb;replace HB:=bS hb)|((with_reducible refine gd 3 ?_);(try (refine Za1 (by rfl) ?_;dsimp only));refine bx 3 #[.bool false,.slice none 0 0,.int .i64 0] 30 (h:=?_);intro qd hg w42 hbox hb;have qj:=am hbox;have qt:=gW hg;have qs:=gW hg;have qh:=nL hg qb;have qi:=nG hg qb;replace qc:=rbl qc hb;replace qb:=bb qb hb;replace HB:=bS hb;clear hb hbox hg;have jl:=qi.o;have jt:=qh.o;obtain ⟨_,_,_,_,_,_⟩:=cEc qj.o;obtain ⟨jy,q6,jc⟩:=Kd.Zh qc.o;subst jc;have qm:0<=(0:Int):=(by omega);have qn:0 < (ql.length:Int):=of_decide_eq_true pQ;obtain ⟨qk,qr,qa⟩:=Kd.Zay (Kd.Zc qc.o).2.2 0 qm qn;cases qr;have qv:(0 < ql.length)=True:=eq_true (by omega);(try rw [show ((0:Int)).toNat=0 from rfl] at qa);(try rw [Addr.add_zero'] at qa);have qe:qk.block ≠ qd:=Kd.Zd3 (Kd.R_ne qc.o qj.o (by decide));have qf:qk.block ≠ qd:=Kd.Zd3 (Kd.R_ne qc.o qj.o (by decide));have qg:qk.block ≠ qd:=Kd.Zd3 (Kd.R_ne qc.o qj.o (by decide));replace qa:=(cell_far (p:=⟨qd,0,none⟩) (by first|(rw [Zbb];exact qe)|(show (Addr.add _ _).block ≠ _;rw [Zbb];exact qe)|exact qe) (.bool qo)).trans qa;replace qa:=(cell_far (p:=⟨qd,1,none⟩) (by first|(rw [Zbb];exact qf)|(show (Addr.add _ _).block ≠ _;rw [Zbb];exact qf)|exact qf) (.slice (some qk) ql.length q6)).trans qa;replace qa:=(cell_far (p:=⟨qd,2,none⟩) (by first|(rw [Zbb];exact qg)|(show (Addr.add _ _).block ≠ _;rw [Zbb];exact qg)|exact qg) (.int .i64 qp)).trans qa;clear qe qf qg;replace qm:=eq_true qm;replace qn:=eq_true qn;obtain ⟨_,_,_,_,_,_⟩:=cEc qb.o))
         go_ret
         exact ⟨pE,pB⟩
        ·replace H:=gI H
         rcases H with ⟨c47b0,H⟩|⟨c47b0,H⟩
         ·obtain rfl:=Option.some.inj H
          obtain ⟨_,_,_,_,_,_⟩:=cEc qb.o
          go_wp2_with (first|(refine gL (some 15) Tryz.func18 #[.agg #[.bool a0_0,.slice A0_1 l0_1.length c0_1,.int .i64 a0_2]] (h:=?_);(with_reducible refine (Zac.calls kj1 a0_0 _ _ l0_1 a0_2 qo ql qp _ ?side1 ?side2 A9.o).mono ?_);(case side1=>exact cB HR0_1 HB);(case side2=>exact HC0_1.o);rintro e w49 ⟨qy,rfl,ho0,hb⟩;refine ⟨_,rfl,?_⟩;have qc:=am (Kd.Zn ho0 (Zb pB));replace qb:=bb qb hb;replace HB:=bS hb)|((with_reducible refine gd 3 ?_);(try (refine Za1 (by rfl) ?_;dsimp only));refine bx 3 #[.bool false,.slice none 0 0,.int .i64 0] 30 (h:=?_);intro qd hg w50 hbox hb;have qj:=am hbox;have qt:=gW hg;have qs:=gW hg;have qh:=nL hg qb;have qi:=nG hg qb;replace qc:=rbl qc hb;replace qb:=bb qb hb;replace HB:=bS hb;clear hb hbox hg;have jm:=qi.o;have ju:=qh.o;obtain ⟨_,_,_,_,_,_⟩:=cEc qj.o;obtain ⟨jz,q7,jd⟩:=Kd.Zh qc.o;subst jd;have qm:0<=(0:Int):=(by omega);have qn:0 < (ql.length:Int):=of_decide_eq_true pQ;obtain ⟨qk,qr,qa⟩:=Kd.Zay (Kd.Zc qc.o).2.2 0 qm qn;cases qr;have qv:(0 < ql.length)=True:=eq_true (by omega);(try rw [show ((0:Int)).toNat=0 from rfl] at qa);(try rw [Addr.add_zero'] at qa);have qe:qk.block ≠ qd:=Kd.Zd3 (Kd.R_ne qc.o qj.o (by decide));have qf:qk.block ≠ qd:=Kd.Zd3 (Kd.R_ne qc.o qj.o (by decide));have qg:qk.block ≠ qd:=Kd.Zd3 (Kd.R_ne qc.o qj.o (by decide));replace qa:=(cell_far (p:=⟨qd,0,none⟩) (by first|(rw [Zbb];exact qe)|(show (Addr.add _ _).block ≠ _;rw [Zbb];exact qe)|exact qe) (.bool qo)).trans qa;replace qa:=(cell_far (p:=⟨qd,1,none⟩) (by first|(rw [Zbb];exact qf)|(show (Addr.add _ _).block ≠ _;rw [Zbb];exact qf)|exact qf) (.slice (some qk) ql.length q7)).trans qa;replace qa:=(cell_far (p:=⟨qd,2,none⟩) (by first|(rw [Zbb];exact qg)|(show (Addr.add _ _).block ≠ _;rw [Zbb];exact qg)|exact qg) (.int .i64 qp)).trans qa;clear qe qf qg;replace qm:=eq_true qm;replace qn:=eq_true qn;obtain ⟨_,_,_,_,_,_⟩:=cEc qb.o))
          go_ret
          exact ⟨pE,pB⟩
         ·obtain rfl:=Option.some.inj H
          obtain ⟨_,_,_,_,_,_⟩:=cEc qb.o
          go_wp2_with (first|(refine gL (some 15) Tryz.func18 #[.agg #[.bool a0_0,.slice A0_1 l0_1.length c0_1,.int .i64 a0_2]] (h:=?_);(with_reducible refine (Zac.calls kj1 a0_0 _ _ l0_1 a0_2 qo ql qp _ ?side1 ?side2 A9.o).mono ?_);(case side1=>exact cB HR0_1 HB);(case side2=>exact HC0_1.o);rintro e w56 ⟨qy,rfl,ho0,hb⟩;refine ⟨_,rfl,?_⟩;have qc:=am (Kd.Zn ho0 (Zb pB));replace qb:=bb qb hb;replace HB:=bS hb)|((with_reducible refine gd 3 ?_);(try (refine Za1 (by rfl) ?_;dsimp only));refine bx 3 #[.bool false,.slice none 0 0,.int .i64 0] 30 (h:=?_);intro qd hg w57 hbox hb;have qj:=am hbox;have qt:=gW hg;have qs:=gW hg;have qh:=nL hg qb;have qi:=nG hg qb;replace qc:=rbl qc hb;replace qb:=bb qb hb;replace HB:=bS hb;clear hb hbox hg;have jn:=qi.o;have jv:=qh.o;obtain ⟨_,_,_,_,_,_⟩:=cEc qj.o;obtain ⟨j2,q8,je⟩:=Kd.Zh qc.o;subst je;have qm:0<=(0:Int):=(by omega);have qn:0 < (ql.length:Int):=of_decide_eq_true pQ;obtain ⟨qk,qr,qa⟩:=Kd.Zay (Kd.Zc qc.o).2.2 0 qm qn;cases qr;have qv:(0 < ql.length)=True:=eq_true (by omega);(try rw [show ((0:Int)).toNat=0 from rfl] at qa);(try rw [Addr.add_zero'] at qa);have qe:qk.block ≠ qd:=Kd.Zd3 (Kd.R_ne qc.o qj.o (by decide));have qf:qk.block ≠ qd:=Kd.Zd3 (Kd.R_ne qc.o qj.o (by decide));have qg:qk.block ≠ qd:=Kd.Zd3 (Kd.R_ne qc.o qj.o (by decide));replace qa:=(cell_far (p:=⟨qd,0,none⟩) (by first|(rw [Zbb];exact qe)|(show (Addr.add _ _).block ≠ _;rw [Zbb];exact qe)|exact qe) (.bool qo)).trans qa;replace qa:=(cell_far (p:=⟨qd,1,none⟩) (by first|(rw [Zbb];exact qf)|(show (Addr.add _ _).block ≠ _;rw [Zbb];exact qf)|exact qf) (.slice (some qk) ql.length q8)).trans qa;replace qa:=(cell_far (p:=⟨qd,2,none⟩) (by first|(rw [Zbb];exact qg)|(show (Addr.add _ _).block ≠ _;rw [Zbb];exact qg)|exact qg) (.int .i64 qp)).trans qa;clear qe qf qg;replace qm:=eq_true qm;replace qn:=eq_true qn;obtain ⟨_,_,_,_,_,_⟩:=cEc qb.o))
          go_ret
          exact ⟨pE,pB⟩
     ·rw [if_neg c24] at H
      cases H
theorem Zfq.calls (k:Nat) (P0_:Nat->Prop) (A0:Option Addr) (c0:Nat) (l0:List Int) (r:List Int) (w:World) (hs0:Kd.V (Kd.int .i64) 3 w w.heap.size (fun k_=>P0_ k_) (.slice A0 l0.length c0) l0) (h:Zl.f k l0=some r) :
  Calls Tryz.prog 79 #[.slice A0 l0.length c0] w fun e w' => ∃ v0_:Value,e=.returned (v0_)/\Kd.V (Kd.int .i64) 3 w' w.heap.size (fun k_=>(P0_ k_\/w.heap.size<=k_)) v0_ r/\Below w.heap.size w w':=by
 have HO0:=am (show Kd.V (Kd.int .i64) 3 w w.heap.size (fun k_=>(P0_ k_\/w.heap.size<=k_)) (.slice A0 l0.length c0) l0 from Kd.Zb5 hs0 (fun k_ hk=>.inl hk))
 have HB:=am (Below.refl w.heap.size w)
 have H:(Zl.l0 k l0 (l0.length:Int))=some r:=h
 clear h
 have H':=am H
 clear H
 go_enter Tryz.func79,Tryz.ntmps79
 go_wp2
 go_loopg [3] k (fun kq v3 w' => ∃ (x3_1:Int),v3=.int .i64 x3_1/\Aside0 (Zl.l0 kq l0 x3_1=some r)/\Aside0 (kq<=k)/\Aside0 (Kd.V (Kd.int .i64) 3 w' w.heap.size (fun k_=>(P0_ k_\/w.heap.size<=k_)) (.slice A0 l0.length c0) l0)/\Aside0 (Below w.heap.size w w'))
 case atStart=>exact ⟨((l0.length:Int)),pR,H',⟨Nat.le_refl _⟩,⟨by refine vp ?_;exact HO0.out⟩,⟨pB⟩⟩
 case round =>
  clear H'
  obtain ⟨x3_1,rfl,HA,HK1,HO_0,HB⟩:=hrel
  cases gk with
  | zero=>exact absurd HA.out (by simp [Zl.l0])
  | succ k1 =>
   have H:=HA.out
   clear HA
   simp only [Zl.l0] at H
   replace H:=gI H
   rcases H with ⟨c2b0,H⟩|⟨c2b0,H⟩
   ·obtain ⟨ji3,hji3⟩:∃ j_:Int,(wrap64 (x3_1 - 1))=j_:=⟨_,rfl⟩
    replace H:(if 0<=(ji3) then (if (ji3) < (l0.length:Int) then (if (rd l0 (ji3))=0 then (Zl.l0 k1 l0 ji3) else (if 0<=x3_1 then (if x3_1<=(l0.length:Int) then (some (l0.take (x3_1:Int).toNat)) else (none)) else (none))) else (none)) else (none))=some r:=by first|(rw [hji3] at H;exact H)|(simp only [hji3] at H ⊢;exact H)
    have hji3w:(IntKind.i64.wrap (x3_1 - 1))=ji3:=(Zb9 _).trans hji3
    replace H:=dI H
    rcases H with ⟨c4b0,H⟩|⟨_,H⟩
    ·replace H:=dI H
     rcases H with ⟨c5b0,H⟩|⟨_,H⟩
     ·replace H:=eI H
      rcases H with ⟨c6b0,c6b1,H⟩|⟨c6,c6b0,c6b1,H⟩
      ·have H':=am H
       clear H
       have p117:0<=((ji3):Int):=of_decide_eq_true pQ
       have q117:(ji3) < (l0.length:Int):=of_decide_eq_true pQ
       obtain ⟨ad117,e117,hx117_0⟩:=Kd.Zay (Kd.Za5 HO_0.out).2.2 (ji3) p117 q117
       cases e117
       replace p117:=eq_true p117
       replace q117:=eq_true q117
       go_wp2
       go_roundg k1
       case measure=>exact pM
       case rel=>exact ⟨(ji3),(by first|rfl|(simp;done)|(simp only [<- hji3] <;> (first|rfl|simp))|(simp [*];done)),(by first|exact H'|(have H_:=H'.out;simp only [<- hji3] at H_;exact ⟨H_⟩)|(refine ⟨?_⟩;have H_:=H'.out;simp only [<- hji3] at H_ ⊢;exact H_)),pJ,⟨by refine vp ?_;exact HO_0.out⟩,⟨pB⟩⟩
      ·replace H:=iI H
       rcases H with ⟨c7b0,c7b1,H⟩|⟨_,_,H⟩
       ·replace H:=iI H
        rcases H with ⟨c8b0,c8b1,H⟩|⟨_,_,H⟩
        ·obtain ⟨y118,hy118⟩:∃ y_:List Int,y_=(l0.take (x3_1:Int).toNat):=⟨_,rfl⟩
         replace H:(some y118)=some r:=by have hy_:=hy118;exact pH
         have Ny118:=am hy118
         clear hy118
         obtain rfl:=Option.some.inj H
         have p117:0<=((ji3):Int):=of_decide_eq_true pQ
         have q117:(ji3) < (l0.length:Int):=of_decide_eq_true pQ
         obtain ⟨ad117,e117,hx117_0⟩:=Kd.Zay (Kd.Za5 HO_0.out).2.2 (ji3) p117 q117
         cases e117
         replace p117:=eq_true p117
         replace q117:=eq_true q117
         have q9:(x3_1:Int)<=((l0.length:Int):Int):=of_decide_eq_true pQ
         obtain ⟨i09,hi09,_,hsz9,_⟩:=info_parts info3
         have hroom9:l0.length<=c0:=(Kd.Za5 HO_0.out).2.1
         have hC9:Kd.F (Kd.int .i64) _ _ (some ad117) l0.length l0:=(Kd.V_at (base:=w.heap.size) HO_0.out).2.2
         have hcut9:=Zh7 (P:=Tryz.prog) 28 3 .i64 Tryz.underlying28 hi09 (some ad117) l0.length c0 x3_1 (of_decide_eq_true pQ) q9 hroom9
         have hr9:=Kd.Zr3 (m:=(x3_1:Int).toNat) hC9 (by omega)
         have hy9:y118.length=(x3_1:Int).toNat:=(by rw [Ny118.out,List.length_take];omega)
         rw [<- Ny118.out] at hr9
         rw [<- hy9] at hcut9
         have HO122:=am (show Kd.V (Kd.int .i64) 3 _ w.heap.size _ (.slice (some ad117) y118.length c0) y118 from Kd.V_mk (by omega) hr9)
         have HC122:=am (show y118.length<=c0 from by omega)
         clear hr9 hC9 hroom9 hi09 hsz9
         have KY9:=am hy9
         clear hy9
         replace q9:=eq_true q9
         go_wp2
         go_ret
         exact ⟨_,by first|rfl|(simp [Zap,Zaq] <;> rfl)|(simp only [<- hji3];first|rfl|(simp [Zap,Zaq] <;> rfl))|(simp [*,Zap,Zaq] <;> rfl),by refine vp ?_;exact HO122.out,pB⟩
        ·cases H
       ·cases H
     ·cases H
    ·cases H
   ·replace H:=iI H
    rcases H with ⟨c10b0,c10b1,H⟩|⟨_,_,H⟩
    ·replace H:=iI H
     rcases H with ⟨c11b0,c11b1,H⟩|⟨_,_,H⟩
     ·obtain ⟨y123,hy123⟩:∃ y_:List Int,y_=(l0.take (x3_1:Int).toNat):=⟨_,rfl⟩
      replace H:(some y123)=some r:=by have hy_:=hy123;exact pH
      have Ny123:=am hy123
      clear hy123
      obtain rfl:=Option.some.inj H
      have q12:(x3_1:Int)<=((l0.length:Int):Int):=of_decide_eq_true pQ
      obtain ⟨i012,hi012,_,hsz12,_⟩:=info_parts info3
      have hroom12:l0.length<=c0:=(Kd.Za5 HO_0.out).2.1
      have hC12:Kd.F (Kd.int .i64) _ _ A0 l0.length l0:=(Kd.V_at (base:=w.heap.size) HO_0.out).2.2
      have hcut12:=Zh7 (P:=Tryz.prog) 28 3 .i64 Tryz.underlying28 hi012 A0 l0.length c0 x3_1 (of_decide_eq_true pQ) q12 hroom12
      have hr12:=Kd.Zr3 (m:=(x3_1:Int).toNat) hC12 (by omega)
      have hy12:y123.length=(x3_1:Int).toNat:=(by rw [Ny123.out,List.length_take];omega)
      rw [<- Ny123.out] at hr12
      rw [<- hy12] at hcut12
      have HO127:=am (show Kd.V (Kd.int .i64) 3 _ w.heap.size _ (.slice A0 y123.length c0) y123 from Kd.V_mk (by omega) hr12)
      have HC127:=am (show y123.length<=c0 from by omega)
      clear hr12 hC12 hroom12 hi012 hsz12
      have KY12:=am hy12
      clear hy12
      replace q12:=eq_true q12
      go_wp2
      go_ret
      exact ⟨_,pE,by refine vp ?_;exact HO127.out,pB⟩
     ·cases H
    ·cases H
def Zp.l0:Nat->List Int->Bool->List Int->Int->Option (Bool × List Int × Int × Int)
 | 0,_,_,_,_=>none
 | k+1,x4,x129000,x129001,x129002=>if 0 < (x4.length:Int) then (if (rd x4 0)=0 then (if 1<=(x4.length:Int) then (Zp.l0 k (x4.drop 1) x129000 x129001 (wrap64 (x129002+1))) else (none)) else (if (x4.length:Int) > 300 then (some (false,([]:List Int),0,51)) else (if x129002 < (-1000) then (some (false,([]:List Int),0,52)) else (if x129002 > 1000 then (some (false,([]:List Int),0,52)) else ((Zaa.f k x4).bind fun t139=>(some (x129000,t139,x129002,0))))))) else (none)
def Zp.f (k:Nat) (a0_0:Bool) (l0_1:List Int) (a0_2:Int):Option (Bool × List Int × Int × Int):=(Zl.f k l0_1).bind fun t130=>(if (t130.length:Int)=0 then (some (false,([]:List Int),0,0)) else (Zp.l0 k t130 a0_0 ([]:List Int) a0_2))
def Zp.T11:Bool × List (List Nat × List Nat):=(true,[([],[]),([0],[0]),([],[]),([2],[2]),([],[]),([4],[4]),([1,3,5],[1,3,5]),([6,3,0,1,2,3,4,5,6],[6]),([7,0,1,2,3,4,5,6,7],[])])
def Zp.B11:List Nat:=[0,1,0,4,0,16,63,127,255]
theorem Zp.tab11:rtab .any (opsOf Tryz.f23 11)=Zp.T11:=by kernel_rfl
theorem Zp.bits11:waitsOk Zp.T11.2 Zp.B11=true:=by kernel_rfl
theorem Zp.calls (k:Nat) (a0_0:Bool) (A0_1:Option Addr) (c0_1:Nat) (l0_1:List Int) (a0_2:Int) (r1:Bool) (r2:List Int) (r3:Int) (r4:Int) (w:World) (hr0_1:Kd.C (Kd.int .i64) w A0_1 l0_1.length l0_1) (hc0_1:l0_1.length<=c0_1) (h:Zp.f k a0_0 l0_1 a0_2=some (r1,r2,r3,r4)) :
  Calls Tryz.prog 23 #[.agg #[.bool a0_0,.slice A0_1 l0_1.length c0_1,.int .i64 a0_2]] w fun e w' => ∃ v1_:Value,e=.returned (.tuple #[.agg #[.bool r1,v1_,.int .i64 r3],.int .i64 r4])/\Kd.R (Kd.int .u32) 85 w' w.heap.size (fun _=>True) v1_ r2/\Below w.heap.size w w':=by
 have hu30:=Tryz.underlying30
 have hu24:=Tryz.underlying24
 have HR0_1:=am hr0_1
 have HC0_1:=am hc0_1
 clear hr0_1 hc0_1
 have HB:=am (Below.refl w.heap.size w)
 have H:((Zl.f k l0_1).bind fun t130=>(if (t130.length:Int)=0 then (some (false,([]:List Int),0,0)) else (Zp.l0 k t130 a0_0 ([]:List Int) a0_2)))=some (r1,r2,r3,r4):=h
 clear h
 replace H:=ob H
 obtain ⟨t130,A2,H⟩:=H
 replace H:=eI H
 rcases H with ⟨c3b0,c3b1,H⟩|⟨c3,c3b0,c3b1,H⟩
 ·simp only [Option.some.injEq,Prod.mk.injEq] at H
  obtain ⟨rfl,rfl,rfl,rfl⟩:=H
  go_enter Tryz.func23,Tryz.ntmps23
  go_wp2_with (first|((with_reducible refine gd 1 ?_);refine bx 1 #[.bool a0_0,.slice A0_1 l0_1.length c0_1,.int .i64 a0_2] 30 (h:=?_);intro gb128 hg w4 hbox hb;have BK128:=am hbox;have GW128:=gW hg;have GE128:=gW hg;replace HB:=bS hb;clear hb hbox hg)|((with_reducible refine gd 2 ?_);refine bx 2 #[.bool false,.slice none 0 0,.int .i64 0] 24 (h:=?_);intro gb129 hg w5 hbox hb;have BK129:=am hbox;have GW129:=gW hg;have GE129:=gW hg;have NB128_129:=nL hg BK128;have NB129_128:=nG hg BK128;replace BK128:=bb BK128 hb;replace HB:=bS hb;clear hb hbox hg;have hnb6:=NB128_129.out;have hnc6:=NB129_128.out;obtain ⟨hcz7_0,hcz7_1,hcz7_2,hfz7_0,hfz7_1,hfz7_2⟩:=cEc BK128.out)|(refine gL (some 7) Tryz.func79 #[.slice A0_1 l0_1.length c0_1] (h:=?_);(with_reducible refine (Zfq.calls k (fun k_=>k_ < w.heap.size) _ _ l0_1 t130 _ ?side1 A2.out).mono ?_);(case side1=>exact Kd.V_mk HC0_1.out (Kd.Ze9 (Kd.C_F (Kd.Ze4 .i64) HR0_1.out) pB));rintro e w8 ⟨v131,rfl,ho0,hb⟩;refine ⟨_,rfl,?_⟩;have HO132:=am (Kd.Zj2 (Kd.Zb5 (ok':=fun k_=>k_ ≠ gb128/\k_ ≠ gb129) ho0 (fun k_ hk_=>⟨Or.elim hk_ (fun hs_=>fun e_=>Nat.not_le.2 hs_ (by rw [e_];exact GW128.out)) (fun hn_=>(Kd.freshB (g:=gb128) (o:=.cells #[.bool a0_0,.slice A0_1 l0_1.length c0_1,.int .i64 a0_2] 30 (0,0)) (Zg BK128.out pl) k_ hn_)),Or.elim hk_ (fun hs_=>fun e_=>Nat.not_le.2 hs_ (by rw [e_];exact GW129.out)) (fun hn_=>(Kd.freshB (g:=gb129) (o:=.cells #[.bool false,.slice none 0 0,.int .i64 0] 24 (0,0)) (Zg BK129.out pl) k_ hn_))⟩)) (Zb pB));replace BK128:=bb BK128 hb;replace BK129:=bb BK129 hb;replace HB:=bS hb;obtain ⟨Ao9,co9,eo9⟩:=Kd.Zew HO132.out;subst eo9;obtain ⟨hcz10_0,hcz10_1,hcz10_2,hfz10_0,hfz10_1,hfz10_2⟩:=cEc BK129.out))
  refine bodyPost_ret (Zae rfl _ _ gb129 24 #[.bool false,.slice none 0 0,.int .i64 0] (0,0) _ rfl (by exact p3 BK129) Tryz.underlying24 rfl (by kernel_rfl)) rfl ?_
  exact ⟨_,pE,pN,pB⟩
 ·have c3b2:¬ (t130=[]):=fun h_=>c3 (by rw [h_];rfl)
  have H':=am H
  clear H
  go_enter Tryz.func23,Tryz.ntmps23
  go_wp2_with (first|((with_reducible refine gd 1 ?_);refine bx 1 #[.bool a0_0,.slice A0_1 l0_1.length c0_1,.int .i64 a0_2] 30 (h:=?_);intro gb128 hg w11 hbox hb;have BK128:=am hbox;have GW128:=gW hg;have GE128:=gW hg;replace HB:=bS hb;clear hb hbox hg)|((with_reducible refine gd 2 ?_);refine bx 2 #[.bool false,.slice none 0 0,.int .i64 0] 24 (h:=?_);intro gb129 hg w12 hbox hb;have BK129:=am hbox;have GW129:=gW hg;have GE129:=gW hg;have NB128_129:=nL hg BK128;have NB129_128:=nG hg BK128;replace BK128:=bb BK128 hb;replace HB:=bS hb;clear hb hbox hg;have hnb13:=NB128_129.out;have hnc13:=NB129_128.out;obtain ⟨hcz14_0,hcz14_1,hcz14_2,hfz14_0,hfz14_1,hfz14_2⟩:=cEc BK128.out)|(refine gL (some 7) Tryz.func79 #[.slice A0_1 l0_1.length c0_1] (h:=?_);(with_reducible refine (Zfq.calls k (fun k_=>k_ < w.heap.size) _ _ l0_1 t130 _ ?side1 A2.out).mono ?_);(case side1=>exact Kd.V_mk HC0_1.out (Kd.Ze9 (Kd.C_F (Kd.Ze4 .i64) HR0_1.out) pB));rintro e w15 ⟨v131,rfl,ho0,hb⟩;refine ⟨_,rfl,?_⟩;have HO132:=am (Kd.Zj2 (Kd.Zb5 (ok':=fun k_=>k_ ≠ gb128/\k_ ≠ gb129) ho0 (fun k_ hk_=>⟨Or.elim hk_ (fun hs_=>fun e_=>Nat.not_le.2 hs_ (by rw [e_];exact GW128.out)) (fun hn_=>(Kd.freshB (g:=gb128) (o:=.cells #[.bool a0_0,.slice A0_1 l0_1.length c0_1,.int .i64 a0_2] 30 (0,0)) (Zg BK128.out pl) k_ hn_)),Or.elim hk_ (fun hs_=>fun e_=>Nat.not_le.2 hs_ (by rw [e_];exact GW129.out)) (fun hn_=>(Kd.freshB (g:=gb129) (o:=.cells #[.bool false,.slice none 0 0,.int .i64 0] 24 (0,0)) (Zg BK129.out pl) k_ hn_))⟩)) (Zb pB));replace BK128:=bb BK128 hb;replace BK129:=bb BK129 hb;replace HB:=bS hb;obtain ⟨Ao16,co16,eo16⟩:=Kd.Zew HO132.out;subst eo16))
  go_loopg [4] k (fun kq v4 w' => ∃ (x4_1:List Int) (x129002_1:Int),Aside0 (Zp.l0 kq x4_1 a0_0 ([]:List Int) x129002_1=some (r1,r2,r3,r4))/\Aside0 (kq<=k)/\Aside0 (Kd.V (Kd.int .i64) 3 w' w.heap.size (fun k_=>k_ ≠ gb128/\k_ ≠ gb129) v4 x4_1)/\Aside0 (w'.heap[gb128]? = some (.cells #[.bool a0_0,(.slice A0_1 l0_1.length c0_1),.int .i64 x129002_1] 30 (0,0)))/\Aside0 (w'.heap[gb129]? = some (.cells #[.bool false,(.slice none 0 0),.int .i64 0] 24 (0,0)))/\Aside0 (Below w.heap.size w w'))
  case atStart=>exact ⟨(t130),(a0_2),H',⟨Nat.le_refl _⟩,⟨by refine vp ?_;exact HO132.out⟩,⟨Zg BK128.out pl⟩,⟨Zg BK129.out pl⟩,⟨pB⟩⟩
  case round =>
   clear H'
   obtain ⟨x4_1,x129002_1,HA,HK1,HO_4,BK128,BK129,HB⟩:=hrel
   cases gk with
   | zero=>exact absurd HA.out (by simp [Zp.l0])
   | succ k1 =>
    have H:=HA.out
    clear HA
    simp only [Zp.l0] at H
    by_cases c17:0 < (x4_1.length:Int)
    ·rw [if_pos c17] at H
     have c17b0:decide (0 < (x4_1.length:Int))=true:=decide_eq_true c17
     have c17b1:decide (0 < x4_1.length)=true:=decide_eq_true (by omega)
     clear c17
     replace H:=eI H
     rcases H with ⟨c18b0,c18b1,H⟩|⟨c18,c18b0,c18b1,H⟩
     ·replace H:=iI H
      rcases H with ⟨c19b0,c19b1,H⟩|⟨_,_,H⟩
      ·obtain ⟨y134,hy134⟩:∃ y_:List Int,y_=(x4_1.drop 1):=⟨_,rfl⟩
       replace H:(Zp.l0 k1 y134 a0_0 ([]:List Int) (wrap64 (x129002_1+1)))=some (r1,r2,r3,r4):=by have hy_:=hy134;exact pH
       have Ny134:=am hy134
       clear hy134
       have H':=am H
       clear H
       obtain ⟨Ao20,co20,eo20⟩:=Kd.Zew HO_4.out
       subst eo20
       have p133:0<=(0:Int):=(by omega)
       have q133:0 < (x4_1.length:Int):=of_decide_eq_true pQ
       obtain ⟨ad133,e133,hx133_0⟩:=Kd.Zay (Kd.Za5 HO_4.out).2.2 0 p133 q133
       cases e133
       have qi133:(0 < x4_1.length)=True:=eq_true (by omega)
       (try rw [show ((0:Int)).toNat=0 from rfl] at hx133_0)
       (try rw [Addr.add_zero'] at hx133_0)
       replace p133:=eq_true p133
       replace q133:=eq_true q133
       have q21:(1:Int)<=((x4_1.length:Int):Int):=of_decide_eq_true pQ
       obtain ⟨i021,hi021,_,hsz21,_⟩:=info_parts info3
       have hroom21:x4_1.length<=co20:=(Kd.Za5 HO_4.out).2.1
       have hC21:Kd.F (Kd.int .i64) _ _ (some ad133) x4_1.length x4_1:=(Kd.V_at (base:=w.heap.size) HO_4.out).2.2
       have hcut21:=Zif (P:=Tryz.prog) 28 3 .i64 Tryz.underlying28 hi021 1 hsz21 (some ad133) x4_1.length co20 1 (by omega) q21
       have hr21:=Kd.Zut (m:=(1:Int).toNat) (c:=co20) hC21 (by omega) hroom21
       obtain ⟨A21,hA21⟩:∃ A1,A1=(if co20=(1:Int).toNat then (some ad133) else ((some ad133):Option Addr).map (·.add ((1:Int).toNat*1))):=⟨_,rfl⟩
       obtain ⟨c21,hc21⟩:∃ c1,c1=co20 - (1:Int).toNat:=⟨_,rfl⟩
       have hy21:y134.length=x4_1.length - (1:Int).toNat:=(by rw [Ny134.out,List.length_drop] <;> omega)
       rw [show (x4_1).drop (1:Int).toNat=y134 from Ny134.out.symm] at hr21
       replace hr21:Kd.F (Kd.int .i64) _ _ A21 y134.length y134:=(by rw [hA21];exact hr21)
       rw [<- hy21,<- hA21,<- hc21] at hcut21
       have HO138:=am (show Kd.V (Kd.int .i64) 3 _ w.heap.size _ (.slice A21 y134.length c21) y134 from Kd.V_mk (by rw [hy21,hc21];exact Nat.sub_le_sub_right hroom21 _) hr21)
       have HC138:=am (show y134.length<=c21 from by rw [hy21,hc21];exact Nat.sub_le_sub_right hroom21 _)
       clear hr21 hC21 hroom21 hi021 hsz21 hc21
       have KY21:=am hy21
       have KA21:=am hA21
       clear hy21 hA21
       replace q21:=eq_true q21
       have hnb22:=NB128_129.out
       have hnc22:=NB129_128.out
       obtain ⟨hcz23_0,hcz23_1,hcz23_2,hfz23_0,hfz23_1,hfz23_2⟩:=cEc BK128.out
       go_wp2
       go_roundg k1
       case measure=>exact pM
       case rel=>exact ⟨(y134),(wrap64 (x129002_1+1)),H',pJ,⟨by refine vp ?_;exact Kd.Zb5 (Kd.Zu1 (p:=⟨gb128,2,none⟩) (Kd.Zb5 HO138.out (fun k_ hk=>(⟨hk,hk.1⟩:_/\k_ ≠ gb128))) (fun _ hk=>hk.2) (.int .i64 (wrap64 (x129002_1+1)))) (fun _ hk=>⟨hk.1.1,hk.1.2⟩)⟩,⟨by refine bp ?_;refine Zd7 (cs:=#[.bool a0_0,.slice A0_1 l0_1.length c0_1,.int .i64 x129002_1]) ?_ 2 _ rfl;exact bp BK128.out⟩,⟨bf NB129_128.out BK129.out⟩,⟨pB⟩⟩
      ·cases H
     ·by_cases c24:(x4_1.length:Int) > 300
      ·rw [if_pos c24] at H
       have c24b0:decide (300 < (x4_1.length:Int))=true:=decide_eq_true c24
       have c24b1:decide (300 < x4_1.length)=true:=decide_eq_true (by omega)
       clear c24
       simp only [Option.some.injEq,Prod.mk.injEq] at H
       obtain ⟨rfl,rfl,rfl,rfl⟩:=H
       obtain ⟨Ao25,co25,eo25⟩:=Kd.Zew HO_4.out
       subst eo25
       have p133:0<=(0:Int):=(by omega)
       have q133:0 < (x4_1.length:Int):=of_decide_eq_true pQ
       obtain ⟨ad133,e133,hx133_0⟩:=Kd.Zay (Kd.Za5 HO_4.out).2.2 0 p133 q133
       cases e133
       have qi133:(0 < x4_1.length)=True:=eq_true (by omega)
       (try rw [show ((0:Int)).toNat=0 from rfl] at hx133_0)
       (try rw [Addr.add_zero'] at hx133_0)
       replace p133:=eq_true p133
       replace q133:=eq_true q133
       have hnb26:=NB129_128.out
       have hnc26:=NB128_129.out
       obtain ⟨hcz27_0,hcz27_1,hcz27_2,hfz27_0,hfz27_1,hfz27_2⟩:=cEc BK129.out
       go_wp2
       refine bodyPost_ret (Zae rfl _ _ gb129 24 #[.bool false,.slice none 0 0,.int .i64 0] (0,0) _ rfl (by exact p3 BK129) Tryz.underlying24 rfl (by kernel_rfl)) rfl ?_
       exact ⟨_,pE,pN,pB⟩
      ·rw [if_neg c24] at H
       have c24b0:decide (300 < (x4_1.length:Int))=false:=decide_eq_false c24
       have c24b1:decide (300 < x4_1.length)=false:=decide_eq_false (by omega)
       clear c24
       replace H:=dI H
       rcases H with ⟨c28b0,H⟩|⟨c28b0,H⟩
       ·simp only [Option.some.injEq,Prod.mk.injEq] at H
        obtain ⟨rfl,rfl,rfl,rfl⟩:=H
        obtain ⟨Ao29,co29,eo29⟩:=Kd.Zew HO_4.out
        subst eo29
        have p133:0<=(0:Int):=(by omega)
        have q133:0 < (x4_1.length:Int):=of_decide_eq_true pQ
        obtain ⟨ad133,e133,hx133_0⟩:=Kd.Zay (Kd.Za5 HO_4.out).2.2 0 p133 q133
        cases e133
        have qi133:(0 < x4_1.length)=True:=eq_true (by omega)
        (try rw [show ((0:Int)).toNat=0 from rfl] at hx133_0)
        (try rw [Addr.add_zero'] at hx133_0)
        replace p133:=eq_true p133
        replace q133:=eq_true q133
        have hnb30:=NB128_129.out
        have hnc30:=NB129_128.out
        obtain ⟨hcz31_0,hcz31_1,hcz31_2,hfz31_0,hfz31_1,hfz31_2⟩:=cEc BK128.out
        obtain ⟨hcz32_0,hcz32_1,hcz32_2,hfz32_0,hfz32_1,hfz32_2⟩:=cEc BK129.out
        go_wp2
        refine bodyPost_ret (Zae rfl _ _ gb129 24 #[.bool false,.slice none 0 0,.int .i64 0] (0,0) _ rfl (by exact p3 BK129) Tryz.underlying24 rfl (by kernel_rfl)) rfl ?_
        exact ⟨_,pE,pN,pB⟩
       ·replace H:=gI H
        rcases H with ⟨c33b0,H⟩|⟨c33b0,H⟩
        ·simp only [Option.some.injEq,Prod.mk.injEq] at H
         obtain ⟨rfl,rfl,rfl,rfl⟩:=H
         obtain ⟨Ao34,co34,eo34⟩:=Kd.Zew HO_4.out
         subst eo34
         have p133:0<=(0:Int):=(by omega)
         have q133:0 < (x4_1.length:Int):=of_decide_eq_true pQ
         obtain ⟨ad133,e133,hx133_0⟩:=Kd.Zay (Kd.Za5 HO_4.out).2.2 0 p133 q133
         cases e133
         have qi133:(0 < x4_1.length)=True:=eq_true (by omega)
         (try rw [show ((0:Int)).toNat=0 from rfl] at hx133_0)
         (try rw [Addr.add_zero'] at hx133_0)
         replace p133:=eq_true p133
         replace q133:=eq_true q133
         have hnb35:=NB128_129.out
         have hnc35:=NB129_128.out
         obtain ⟨hcz36_0,hcz36_1,hcz36_2,hfz36_0,hfz36_1,hfz36_2⟩:=cEc BK128.out
         obtain ⟨hcz37_0,hcz37_1,hcz37_2,hfz37_0,hfz37_1,hfz37_2⟩:=cEc BK129.out
         go_wp2
         refine bodyPost_ret (Zae rfl _ _ gb129 24 #[.bool false,.slice none 0 0,.int .i64 0] (0,0) _ rfl (by exact p3 BK129) Tryz.underlying24 rfl (by kernel_rfl)) rfl ?_
         exact ⟨_,pE,pN,pB⟩
        ·replace H:=ob H
         obtain ⟨t139,A38,H⟩:=H
         simp only [Option.some.injEq,Prod.mk.injEq] at H
         obtain ⟨rfl,rfl,rfl,rfl⟩:=H
         obtain ⟨Ao39,co39,eo39⟩:=Kd.Zew HO_4.out
         subst eo39
         have p133:0<=(0:Int):=(by omega)
         have q133:0 < (x4_1.length:Int):=of_decide_eq_true pQ
         obtain ⟨ad133,e133,hx133_0⟩:=Kd.Zay (Kd.Za5 HO_4.out).2.2 0 p133 q133
         cases e133
         have qi133:(0 < x4_1.length)=True:=eq_true (by omega)
         (try rw [show ((0:Int)).toNat=0 from rfl] at hx133_0)
         (try rw [Addr.add_zero'] at hx133_0)
         replace p133:=eq_true p133
         replace q133:=eq_true q133
         have hnb40:=NB128_129.out
         have hnc40:=NB129_128.out
         obtain ⟨hcz41_0,hcz41_1,hcz41_2,hfz41_0,hfz41_1,hfz41_2⟩:=cEc BK128.out
         try go_wp2
         replace HO_4:=am (Kd.Zku HO_4.out)
         replace BK128:=am (Zc7 BK128.out)
         replace BK129:=am (Zc7 BK129.out)
         replace HB:=am (Zbh HB.out)
         refine start_ (n:=9) (S:=fun w'=>w'.cell? ⟨gb128,0,none⟩=some (.bool a0_0)/\w'.cell? ⟨gb128,1,none⟩=some (.slice A0_1 l0_1.length c0_1)/\w'.cell? ⟨gb128,2,none⟩=some (.int .i64 x129002_1)) (ds:=[]) #[false,false,false,false,false,false,false,false,false] (by kernel_rfl) rfl rfl ⟨k0 BK128 0,k0 BK128 1,k0 BK128 2⟩ (fun hHeld=>?_);refine Zdo Zp.tab11 Zp.bits11 (fun HT_ HW_=>?_)
         generalize wr.drew=w42 at HO_4 BK128 BK129 HB hHeld ⊢
         refine pu 0 (some 37) #[true,false,false,false,false,false,false,false,false] (h:=?_)
         refine pu 2 (some 39) #[true,false,true,false,false,false,false,false,false] (h:=?_)
         refine pu 4 (some 41) #[true,false,true,false,true,false,false,false,false] (h:=?_)
         refine take_ (i:=1) (N:=some 38) (v:=?_) (a':=?_) #[true,true,true,false,true,false,false,false,false] rfl rfl (Zcs HT_.out HW_.out (by kernel_rfl)) (fun _ _ _ h=>h) (Or.inl ⟨by rfl,?_⟩) hHeld ?_ ?_
         rotate_left
         ·rintro w' ⟨s0,s1,s2⟩
          go_simp
          with_reducible rfl
         rotate_left
         ·exact pP
         refine take_ (i:=5) (N:=some 42) (v:=?_) (a':=?_) #[true,true,true,false,true,true,false,false,false] rfl rfl (Zcs HT_.out HW_.out (by kernel_rfl)) (fun _ _ _ h=>h) (Or.inl ⟨by rfl,?_⟩) hHeld ?_ ?_
         rotate_left
         ·rintro w' ⟨s0,s1,s2⟩
          go_simp
          with_reducible rfl
         rotate_left
         ·exact pP
         refine one_ (i:=3) (N:=some 40) #[true,true,true,true,true,true,false,false,false] rfl rfl (Zc6 HT_.out (by kernel_rfl)) (by decide) (fun K hK=>?_)
         refine goes_ Tryz.func80 (by kernel_rfl) rfl #[.slice (some ad133) x4_1.length co39] (by rfl) rfl rfl pA ?_
         with_reducible refine (Zaa.calls k1 _ _ x4_1 t139 _ ?side1 ?side2 A38.out).mono ?_
         (case side1=>exact Kd.Zi (Kd.Za5 HO_4.out).2.2 pl)
         (case side2=>exact (Kd.Za5 HO_4.out).2.1)
         rintro e w43 ⟨v140,rfl,ho0,hb⟩
         refine ⟨_,rfl,?_⟩
         replace HO_4:=am (Kd.Zcx (Kd.Zbn HO_4.out pl) (Kd.Zt ho0) hb)
         have HO141:=am (Kd.Zn ho0 (Zb pB))
         replace BK128:=bb BK128 hb
         replace BK129:=bb BK129 hb
         replace HB:=bS hb
         obtain ⟨Ao44,co44,eo44⟩:=Kd.Zh HO141.out
         (first|subst eo44|(injection eo44 with f1_ f2_ f3_;have f4_:=f1_.symm;have f5_:=f3_.symm;clear f1_ f2_ f3_;subst f4_;subst f5_))
         refine hK.out _ _ ⟨k0 BK128 0,k0 BK128 1,k0 BK128 2⟩ (fun hHeld=>?_)
         clear hK K
         refine norm_ (a':=?_) ?_ ?_
         rotate_left
         ·show Act.put _ (some 40) _=_
          exact pP
         refine pu 6 (some 43) #[true,true,true,true,true,true,true,false,false] (h:=?_)
         refine one_ (i:=7) (N:=none) #[true,true,true,true,true,true,true,true,false] rfl rfl (Zc6 HT_.out (by kernel_rfl)) (by decide) (fun K hK=>?_)
         have hs45:w43.cell? ⟨gb129,0,none⟩=some (.bool false):=k0 BK129 0
         have hfs45:=Zcm BK129.out 0
         have hns45_0:=NB128_129.out
         have hms45_0:=NB129_128.out
         have hs46:w43.cell? ⟨gb129,1,none⟩=some (.slice none 0 0):=k0 BK129 1
         have hfs46:=Zcm BK129.out 1
         have hns46_0:=NB128_129.out
         have hms46_0:=NB129_128.out
         have hs47:w43.cell? ⟨gb129,2,none⟩=some (.int .i64 0):=k0 BK129 2
         have hfs47:=Zcm BK129.out 2
         have hns47_0:=NB128_129.out
         have hms47_0:=NB129_128.out
         refine skip_ (w1:=?_) (by rfl) rfl ?_ ?_
         rotate_left
         ·go_simp
          rfl
         refine hK.out _ _ ⟨((cell_far (p:=⟨gb129,_,none⟩) NB128_129.out _).trans (((cell_far (p:=⟨gb129,_,none⟩) NB128_129.out _).trans (((cell_far (p:=⟨gb129,_,none⟩) NB128_129.out _).trans (hHeld.1)))))),((cell_far (p:=⟨gb129,_,none⟩) NB128_129.out _).trans (((cell_far (p:=⟨gb129,_,none⟩) NB128_129.out _).trans (((cell_far (p:=⟨gb129,_,none⟩) NB128_129.out _).trans (hHeld.2.1)))))),((cell_far (p:=⟨gb129,_,none⟩) NB128_129.out _).trans (((cell_far (p:=⟨gb129,_,none⟩) NB128_129.out _).trans (((cell_far (p:=⟨gb129,_,none⟩) NB128_129.out _).trans (hHeld.2.2))))))⟩ (fun hHeld=>?_)
         clear hK K
         refine pu 8 (some 3) #[true,true,true,true,true,true,true,true,true] (h:=?_)
         refine done_ (Zex HT_.out (by kernel_rfl)) ?_
         try go_wp2
         refine bodyPost_ret (Zae rfl _ _ gb129 24 #[.bool a0_0,.slice Ao44 t139.length co44,.int .i64 x129002_1] (0,0) _ rfl (by exact p3 BK129) Tryz.underlying24 rfl (by kernel_rfl)) rfl ?_
         exact ⟨_,pE,by refine rp ?_;exact Kd.Zo (Kd.Zau (p:=⟨gb129,2,none⟩) (Kd.Zau (p:=⟨gb129,1,none⟩) (Kd.Zau (p:=⟨gb129,0,none⟩) (Kd.Zba HO141.out BK129.out (by decide)) (fun _ hk=>hk.2) (.bool a0_0)) (fun _ hk=>hk.2) (.slice Ao44 t139.length co44)) (fun _ hk=>hk.2) (.int .i64 x129002_1)) (fun _ hk=>trivial),pB⟩
    ·rw [if_neg c17] at H
     cases H
end YtjbjkmccfocikaaGreatDoor.B
end
section
namespace YtjbjkmccfocikaaGreatDoor.P
open Go.RowKit YtjbjkmccfocikaaGreatDoor.B YtjbjkmccfocikaaGreatDoorW.PrintWords YtjbjkmccfocikaaGreatDoorW.PrintLast YtjbjkmccfocikaaGreatDoorW.PrintMore YtjbjkmccfocikaaGreatDoor.P.Nm
def okB (a:Dm):Bool:=if a.n=0 then (!a.neg && decide (a.e=0)) else (decide (a.n % 10 ≠ 0) && (decide (nd a.n<=300) && (decide (-1000<=a.e) && decide (a.e<=1000))))
theorem Zqb {a:Dm}:okB a=true ↔ OkD a:=by
 obtain ⟨s,n,e⟩:=a
 unfold okB
 by_cases h:n=0
 ·subst h
  simp only [if_true]
  constructor
  ·intro h
   simp only [Bool.and_eq_true,Bool.not_eq_true',decide_eq_true_eq] at h
   obtain ⟨rfl,rfl⟩:=h
   exact OkD.zeroD
  ·intro h
   have := h.zero rfl
   unfold zeroD at this
   injection this with h1 h2 h3
   simp [h1,h3]
 ·simp only [if_neg h,Bool.and_eq_true,decide_eq_true_eq]
  constructor
  ·intro ⟨h1,h2,h3,h4⟩
   exact ⟨fun e=>absurd e h,fun _=>h1,h2,h3,h4⟩
  ·intro h1
   exact ⟨h1.last h,h1.len,h1.low,h1.high⟩
def chk (a:Bool) (l:List Int) (e:Int):Int:=if chkL l=0/\l.length<=40/\okB ⟨a,num l,e⟩=true then 0 else 9
theorem Zjs {n k:Nat} (h:nd n<=9*k):(limbs n).length<=k:=by
 refine Zgf (Nat.lt_of_lt_of_le (Zg5 n) ?_)
 refine Nat.le_trans (Nat.pow_le_pow_right (by omega) h) ?_
 rw [Nat.pow_mul]
 exact Nat.pow_le_pow_left (by decide) _
theorem Zgj {a:Dm} (h:OkD a):(limbs a.n).length<=34:=Zjs (by have := h.len;omega)
theorem Znd {a:Dm} (h:OkD a):chk a.neg (limbs a.n) a.e=0:=by
 have h1:=Zgj h
 unfold chk
 rw [if_pos ⟨Zk0 (by omega),by omega,by rw [Zc5];exact Zqb.2 h⟩]
theorem Zhf {a:Bool} {l:List Int} {e:Int} (hd:Dg 4294967296 l) (h:chk a l e=0):∃ D:Dm,OkD D/\a=D.neg/\l=limbs D.n/\e=D.e:=by
 unfold chk at h
 by_cases hc:chkL l=0/\l.length<=40/\okB ⟨a,num l,e⟩=true
 ·obtain ⟨h1,h2,h3⟩:=hc
  exact ⟨⟨a,num l,e⟩,Zqb.1 h3,rfl,(Zle ((Zl1 hd).1 h1)).symm,rfl⟩
 ·rw [if_neg hc] at h;cases h
theorem Zpl (a:Bool) (l:List Int) (e:Int):chk a l e=0\/chk a l e=9:=by unfold chk;split <;> simp
abbrev outD (p:Dm × Int):Bool × List Int × Int × Int:=(p.1.neg,limbs p.1.n,p.1.e,p.2)
theorem Zkr (a:Bool) (l:List Int) (e:Int) (hd:Dg 4294967296 l) (hl:l.length<=90000):Tells (fun k=>Zac.f k a l e) (a,digs (num l),e):=by
 unfold Zac.f
 exact (Zkp l hd hl).bind (Tells.pure _)
theorem ROf (D:Dm) (h:nd D.n<=90000):Tells (fun k=>Zac.f k D.neg (limbs D.n) D.e) (D.neg,digs D.n,D.e):=by
 have := Zkr D.neg (limbs D.n) D.e (Zdf _) (Nat.le_trans (Zeg _) h)
 rw [Zc5] at this
 exact this
theorem Zig {n:Nat} (h:n ≠ 0):(digs n).getD 0 0=((n % 10:Nat):Int):=by rw [Zed h];rfl
theorem Zox (s:Bool):∀ (f n:Nat) (e:Int),n<=f->n ≠ 0->nd n<=100000 -> -1000000000<=e->e+nd n<=1000000000->Tells (fun k=>Zp.l0 k (digs n) s [] e) (outD (settleD ⟨s,n,e⟩))
 | 0,n,e,hf,h0,hn,he1,he2=>by omega
 | f+1,n,e,hf,h0,hn,he1,he2=>by
  have hpos:=Zgh h0
  have hlen:(digs n).length=nd n:=rfl
  refine Tells.succ ?_
  simp only [Zp.l0]
  rw [show (0:Int)=((0:Nat):Int) from rfl,rd_n,Zig h0]
  refine Tells.ifp (by omega) ?_
  by_cases hz:n % 10=0
  ·have hne:n / 10 ≠ 0:=by omega
   have hnd:nd n=nd (n / 10)+1:=by
    show (digs n).length=_
    rw [Zed h0];rfl
   have ih:=Zox s f (n / 10) (e+1) (by omega) hne (by omega) (by omega) (by omega)
   have hs:=Zlq s (n / 10) (e+1) 1
   rw [show n / 10*10 ^ 1=n by omega,show e+1 - ((1:Nat):Int)=e by omega] at hs
   rw [hs]
   refine Tells.ifp (by omega) (Tells.ifp (by omega) ?_)
   rw [w64n (by omega) (by omega),Zed h0]
   exact ih
  ·obtain ⟨hc,ht⟩:=Zk4 hz
   unfold settleD
   simp only [hc,ht]
   rw [if_neg h0,show e+((0:Nat):Int)=e by omega]
   refine Tells.ifn (by omega) ?_
   by_cases h3:300 < nd n
   ·rw [if_pos h3]
    exact Tells.ifp (by omega) (Tells.pure _)
   ·rw [if_neg h3]
    refine Tells.ifn (by omega) ?_
    by_cases h4:e < -1000
    ·rw [if_pos (.inl h4)]
     exact Tells.ifp h4 (Tells.pure _)
    ·refine Tells.ifn h4 ?_
     by_cases h5:1000 < e
     ·rw [if_pos (.inr h5)]
      exact Tells.ifp h5 (Tells.pure _)
     ·rw [if_neg (by omega)]
      exact Tells.ifn h5 ((Zlw n (by omega)).bind (Tells.pure _))
theorem Zn5 (s:Bool) (L:List Int) (n:Nat) (e:Int) (hd:Dg 10 L) (hv:val 10 L=n) (hl:L.length<=100000) (he1 : -1000000000<=e) (he2:e<=900000000):Tells (fun k=>Zp.f k s L e) (outD (settleD ⟨s,n,e⟩)):=by
 have ht:=Zdy L (by omega)
 rw [Zee hd hv] at ht
 have hnd:nd n<=100000:=by
  have := Zr0 L
  rw [Zee hd hv] at this
  exact Nat.le_trans this hl
 unfold Zp.f
 refine ht.bind ?_
 by_cases h0:n=0
 ·subst h0
  exact Tells.ifp rfl (Tells.pure _)
 ·have hpos:0 < (digs n).length:=Zgh h0
  exact Tells.ifn (by omega) (Zox s n n e (Nat.le_refl _) h0 hnd he1 (by omega))
theorem Made (s:Bool) (n:Nat) (e:Int) (hn:nd n<=100000) (he1 : -1000000000<=e) (he2:e<=900000000):Tells (fun k=>Zp.f k s (digs n) e) (outD (settleD ⟨s,n,e⟩)) :=
 Zn5 s _ n e (Zcg n) (Zco n) hn he1 he2
theorem Zea (a:Bool) (l:List Int) (e:Int) (hd:Dg 4294967296 l) (hl:l.length<=9223372036854775807):Tells (fun k=>Ze.f k a l e) (chk a l e):=by
 unfold Ze.f
 rw [Zjy l hl]
 refine (Tells.pure _).bind ?_
 have bad:chk a l e=9->Tells (fun k=>Ze.j0 k true a l e) (chk a l e):=fun h=>by
  rw [h]
  refine Tells.succ ?_
  simp only [Ze.j0]
  exact Tells.ifp trivial (Tells.pure _)
 by_cases hc:chkL l=0
 ·refine Tells.ifp hc ?_
  by_cases h40:l.length<=40
  ·rw [decide_eq_false (show ¬ ((l.length:Int) > 40) by omega)]
   have hof:=Zkr a l e hd (by omega)
   obtain ⟨n,hn⟩:∃ n,num l=n:=⟨_,rfl⟩
   have hchk:chk a l e=if okB ⟨a,n,e⟩=true then 0 else 9:=by
    unfold chk
    rw [hn]
    by_cases h:okB ⟨a,n,e⟩=true
    ·rw [if_pos ⟨hc,h40,h⟩,if_pos h]
    ·rw [if_neg (fun q=>h q.2.2),if_neg h]
   rw [hchk]
   rw [hn] at hof
   unfold okB
   simp only
   have hlen:(digs n).length=nd n:=rfl
   refine Tells.succ ?_
   simp only [Ze.j0]
   refine Tells.ifn (by simp) (hof.bind ?_)
   dsimp only
   by_cases h0:n=0
   ·subst h0
    rw [if_pos rfl]
    refine Tells.ifp rfl ?_
    have j1:∀ b:Bool,Tells (fun k=>Ze.j1 k b) (if b=true then 9 else 0):=fun b=>by
     refine Tells.succ ?_
     simp only [Ze.j1]
     cases b
     ·exact Tells.ifn (by simp) (Tells.pure _)
     ·exact Tells.ifp rfl (Tells.pure _)
    cases a
    ·refine Tells.ifn (by simp) ((j1 _).val ?_)
     by_cases he:e=0
     ·subst he;rfl
     ·simp [he]
    ·exact Tells.ifp rfl ((j1 true).val rfl)
   ·have hpos:=Zgh h0
    rw [if_neg h0]
    refine Tells.ifn (by omega) (Tells.ifp (by omega) ?_)
    rw [show (0:Int)=((0:Nat):Int) from rfl,rd_n,Zig h0]
    by_cases hz:n % 10=0
    ·rw [decide_eq_false (not_not_intro hz)]
     exact Tells.ifp (by omega) (Tells.pure _)
    ·rw [decide_eq_true hz]
     refine Tells.ifn (by omega) ?_
     by_cases h3:nd n<=300
     ·rw [decide_eq_true h3]
      refine Tells.ifn (by omega) ?_
      by_cases h4:e < -1000
      ·rw [decide_eq_false (show ¬ (-1000<=e) by omega)]
       exact Tells.ifp h4 (Tells.pure _)
      ·rw [decide_eq_true (show -1000<=e by omega)]
       refine Tells.ifn h4 ?_
       by_cases h5:1000 < e
       ·rw [decide_eq_false (show ¬ (e<=1000) by omega)]
        exact Tells.ifp h5 (Tells.pure _)
       ·rw [decide_eq_true (show e<=1000 by omega)]
        exact Tells.ifn h5 (Tells.pure _)
     ·rw [decide_eq_false h3]
      exact Tells.ifp (by omega) (Tells.pure _)
  ·rw [decide_eq_true (show ((l.length:Int) > 40) by omega)]
   exact bad (by unfold chk;rw [if_neg (fun q=>h40 q.2.1)])
 ·exact Tells.ifn hc (bad (by unfold chk;rw [if_neg (fun q=>hc q.1)]))
theorem RCheck (D:Dm) (h:OkD D):Tells (fun k=>Ze.f k D.neg (limbs D.n) D.e) 0:=by
 have h1:=Zgj h
 have := Zea D.neg (limbs D.n) D.e (Zdf _) (by omega)
 rw [Znd h] at this
 exact this
theorem Zpe (a:Bool) (l:List Int) (e:Int) (b:Bool) (m:List Int) (g:Int) (hl:l.length=m.length) (hz:l.length < 9223372036854775807):∀ (d i:Nat),l.length - i=d->i<=l.length->l.take i=m.take i->Tells (fun k=>Zq.l0 k (i:Int) a l e b m g) (decide (l=m))
 | 0,i,hd,hi,h=>by
  obtain rfl:i=l.length:=by omega
  refine Tells.succ ?_
  simp only [Zq.l0]
  refine Tells.ifn (by omega) ((Tells.pure _).val ?_)
  rw [List.take_length,hl,List.take_length] at h
  rw [decide_eq_true h]
 | d+1,i,hd,hi,h=>by
  have hil:i < l.length:=by omega
  refine Tells.succ ?_
  simp only [Zq.l0]
  rw [rd_n,rd_n,w64s (by omega)]
  refine Tells.ifp (by omega) (Tells.ifp (by omega) (Tells.ifp (by omega) ?_))
  by_cases hx:l.getD i 0=m.getD i 0
  ·exact Tells.ifp hx (Zpe a l e b m g hl hz d (i+1) (by omega) (by omega) (by rw [Zjb hil,Zjb (by omega),h,hx]))
  ·exact Tells.ifn hx ((Tells.pure _).val (by rw [decide_eq_false (fun q=>hx (by rw [q]))]))
def sameB (a:Bool) (l:List Int) (e:Int) (b:Bool) (m:List Int) (g:Int):Bool:=decide (a=b) && (decide (e=g) && decide (l=m))
theorem Zqr {a:Bool} {l:List Int} {e:Int} {b:Bool} {m:List Int} {g:Int}:sameB a l e b m g=true ↔ a=b/\l=m/\e=g:=by
 unfold sameB
 simp only [Bool.and_eq_true,decide_eq_true_eq]
 exact ⟨fun ⟨h1,h2,h3⟩=>⟨h1,h3,h2⟩,fun ⟨h1,h2,h3⟩=>⟨h1,h3,h2⟩⟩
theorem Zoa (a:Bool) (l:List Int) (e:Int) (b:Bool) (m:List Int) (g:Int) (hz:l.length < 9223372036854775807):Tells (fun k=>Zq.f k a l e b m g) (sameB a l e b m g):=by
 have no:Tells (fun k=>Zq.j0 k true a l e b m g) false:=by
  refine Tells.succ ?_
  simp only [Zq.j0]
  exact Tells.ifp trivial (Tells.pure _)
 unfold Zq.f sameB
 by_cases h1:a=b
 ·subst h1
  rw [decide_eq_true rfl]
  refine Tells.ifn (by simp) ?_
  by_cases h2:e=g
  ·subst h2
   rw [decide_eq_true rfl]
   refine Tells.ifp rfl ?_
   by_cases h3:l.length=m.length
   ·refine Tells.succ ?_
    simp only [Zq.j0]
    have h:=Zpe a l e a m e h3 hz l.length 0 (by omega) (by omega) rfl
    exact Tells.ifn (by rw [h3];simp) (h.val (by simp))
   ·have e1:((l.length:Int) != (m.length:Int))=true:=bne_iff_ne.2 (by omega)
    rw [e1]
    refine no.val ?_
    rw [decide_eq_false (fun q:l=m=>h3 (by rw [q]))];rfl
  ·exact Tells.ifn h2 (no.val (by rw [decide_eq_false h2];rfl))
 ·exact Tells.ifp (by simpa using h1) (no.val (by rw [decide_eq_false h1];rfl))
theorem Zld {m n:Nat} (h:limbs m=limbs n):m=n:=by rw [<- Zc5 m,h,Zc5]
theorem Zt5 (D E:Dm) (h:nd D.n<=1000000):Tells (fun k=>Zq.f k D.neg (limbs D.n) D.e E.neg (limbs E.n) E.e) (decide (D=E)):=by
 have hl:=Zeg D.n
 refine (Zoa D.neg (limbs D.n) D.e E.neg (limbs E.n) E.e (by omega)).val ?_
 rw [Bool.eq_iff_iff,Zqr,decide_eq_true_eq]
 constructor
 ·intro ⟨h1,h2,h3⟩
  obtain ⟨s,n,e⟩:=D
  obtain ⟨s',n',e'⟩:=E
  have := Zld h2
  simp only at *
  subst h1 h3 this;rfl
 ·intro h;rw [h];exact ⟨rfl,rfl,rfl⟩
theorem Zpz (a b:Int):mx a b=max a b:=by unfold mx;omega
theorem Zfe (n k:Nat):nd (n*10 ^ k)<=nd n+k:=by
 by_cases h:n=0
 ·subst h;rw [Nat.zero_mul,Zmc];omega
 ·rw [Znn h];exact Nat.le_refl _
end YtjbjkmccfocikaaGreatDoor.P
end
section
namespace YtjbjkmccfocikaaGreatDoor.P
open Go.RowKit YtjbjkmccfocikaaGreatDoorW.PrintWords
def anyO {α:Type} (f:α->Option Bool):List α->Option Bool
 | []=>some false
 | x :: r=>(f x).bind fun t=>if t=true then some true else anyO f r
theorem Zkv {α:Type} {f:α->Option Bool} {x:α} {r:List α} {b:Bool} (h:anyO f (x :: r)=some b):∃ t,f x=some t/\((t=true->b=true)/\(t=false->anyO f r=some b)):=by
 simp only [anyO] at h
 obtain ⟨t,ht,h2⟩:=Option.bind_eq_some_iff.1 h
 refine ⟨t,ht,fun e=>?_,fun e=>?_⟩
 ·rw [if_pos e] at h2;exact (Option.some.inj h2).symm
 ·rw [if_neg (by simp [e])] at h2;exact h2
theorem Zna {α:Type} {f:α->Option Bool} {b:Bool} (h:anyO f []=some b):b=false:=(Option.some.inj h).symm
theorem Zkw {α:Type} {f:α->Option Bool} (p:α->Bool):∀ l:List α,(∀ x ∈ l,f x=some (p x))->anyO f l=some (l.any p)
 | [],_=>rfl
 | x :: r,h=>by
  simp only [anyO]
  rw [h x List.mem_cons_self,Option.bind_some,List.any_cons]
  cases p x
  ·rw [if_neg (by simp),Bool.false_or];exact Zkw p r (fun y hy=>h y (List.mem_cons_of_mem _ hy))
  ·rw [if_pos rfl,Bool.true_or]
def IdxR (b:Bool) (e:Ending):Prop:=∃ i:Int,e=.returned (.int .i64 i)/\decide (0<=i)=b
theorem Zpt {b:Bool} (h:b=true) (q:Nat):IdxR b (.returned (.int .i64 (q:Int))):=⟨q,rfl,by rw [h];simp⟩
theorem Zlb {b:Bool} (h:b=false):IdxR b (.returned (.int .i64 (-1))):=⟨-1,rfl,by rw [h];rfl⟩
theorem Zng {α:Type} {l:List α} {q:Nat} {z:α} (h:q < l.length):l.drop q=l.getD q z :: l.drop (q+1):=by
 rw [List.getD,List.getElem?_eq_getElem h];exact List.drop_eq_getElem_cons h
theorem Zm8 {w:World} {a:Addr} {v:Value} (h:w.cell? a=some v):∃ b o,a=⟨b,o,none⟩:=by
 obtain ⟨b,o,s⟩:=a
 cases s with
 | none=>exact ⟨b,o,rfl⟩
 | some s =>
  unfold World.cell? at h
  split at h
  ·simp at h
  ·cases h
theorem Zj3 (b o j:Nat):(⟨b,o,none⟩:Addr).add j=⟨b,o+j,none⟩:=by unfold Addr.add;split <;> simp_all
end YtjbjkmccfocikaaGreatDoor.P
end
section
namespace YtjbjkmccfocikaaGreatDoor.B
open Go.RowKit YtjbjkmccfocikaaGreatDoorW.PrintWords YtjbjkmccfocikaaGreatDoorW.PrintLast YtjbjkmccfocikaaGreatDoorW.PrintMore
attribute [local go_sem] Zch Zci Zc9 Zda Zb1 Zb2 Zcp Zcq
def Zfl.f (k:Nat) (l0:List Int):Option (List Int × Bool):=(Zcr.f k 10).bind fun qc=>((Zcz.f k l0 qc).bind fun qb=>(some (qb.1,((qb.2.1.length:Int) == 0))))
theorem Zfl.calls (k:Nat) (A0:Option Addr) (c0:Nat) (l0:List Int) (r1:List Int) (r2:Bool) (w:World) (hr0:Kd.C (Kd.int .u32) w A0 l0.length l0) (hc0:l0.length<=c0) (h:Zfl.f k l0=some (r1,r2)) :
  Calls Tryz.prog 109 #[.slice A0 l0.length c0] w fun e w' => ∃ v0_:Value,e=.returned (.tuple #[v0_,.bool r2])/\Kd.R (Kd.int .u32) 85 w' w.heap.size (fun _=>True) v0_ r1/\Below w.heap.size w w':=by
 have HR0:=am hr0
 have HC0:=am hc0
 clear hr0 hc0
 have HB:=am (Below.refl w.heap.size w)
 have H:((Zcr.f k 10).bind fun qc=>((Zcz.f k l0 qc).bind fun qb=>(some (qb.1,((qb.2.1.length:Int) == 0)))))=some (r1,r2):=h
 clear h
 obtain ⟨qc,A2,H⟩:=ob H
 obtain ⟨⟨qf,qg,qh⟩,A3,H⟩:=ob H;(try dsimp only at H)
 simp only [Option.some.injEq,Prod.mk.injEq] at H
 obtain ⟨rfl,rfl⟩:=H
 go_enter Tryz.func109,Tryz.ntmps109
 go_wp2_with (first|(refine gL (some 9) Tryz.func76 #[.int .u64 10] (h:=?_);(with_reducible refine (Zcr.calls k 10 qc _ A2.o).mono ?_);rintro e w4 ⟨qi,rfl,ho0,hb⟩;refine ⟨_,rfl,?_⟩;have qa:=am (Kd.Zn ho0 (Zb pB));replace HB:=bS hb;obtain ⟨Ao5,co5,eo5⟩:=Kd.Zh qa.o;subst eo5)|(refine gL (some 10) Tryz.func69 #[.slice A0 l0.length c0,.slice Ao5 qc.length co5] (h:=?_);(with_reducible refine (Zcz.calls k _ _ l0 _ _ qc qf qg qh _ ?side1 ?side2 ?side3 ?side4 A3.o).mono ?_);(case side1=>exact cB HR0 HB);(case side2=>exact HC0.o);(case side3=>exact Kd.Zi (Kd.Zc qa.o).2.2 pl);(case side4=>exact (Kd.Zc qa.o).2.1);rintro e w6 ⟨qj,qk,rfl,ho0,ho1,hb⟩;refine ⟨_,rfl,?_⟩;have qd:=am (Kd.Zn (Kd.Zf ho0 (Kd.R_lt (Kd.Za qa.o pl))) (Zb pB));have qe:=am (Kd.Zn (Kd.Zf ho1 (Kd.R_lt (Kd.Za qa.o pl))) (Zb pB));replace qa:=am (Kd.Zo (Kd.Zbr (Kd.Zbr (Kd.Ze2 (Kd.Za qa.o pl) hb) (Kd.Zt ho0)) (Kd.Zt ho1)) (fun _ h_=>h_.1));replace HB:=bS hb;obtain ⟨Ao7,co7,eo7⟩:=Kd.Zh qe.o;subst eo7))
 go_ret2
 exact ⟨_,pE,by refine rp ?_;exact Kd.Zo qd.o (fun _ hk=>trivial),pB⟩
def Zc1.f (k:Nat) (l0:List Int):Option (Int):=(Zax.f k l0).bind fun qa=>(if (l0.length:Int)=0 then (some 0) else (some (qa.1.size:Int)))
theorem Zc1.calls (k:Nat) (A0:Option Addr) (c0:Nat) (l0:List Int) (r:Int) (w:World) (hr0:Kd.C (Kd.int .u32) w A0 l0.length l0) (hc0:l0.length<=c0) (h:Zc1.f k l0=some r) :
  Calls Tryz.prog 110 #[.slice A0 l0.length c0] w fun e w'=>e=.returned (.int .i64 r)/\Below w.heap.size w w':=by
 have HR0:=am hr0
 have HC0:=am hc0
 clear hr0 hc0
 have HB:=am (Below.refl w.heap.size w)
 have H:((Zax.f k l0).bind fun qa=>(if (l0.length:Int)=0 then (some 0) else (some (qa.1.size:Int))))=some r:=h
 clear h
 replace H:=ob H
 obtain ⟨⟨qb,qc⟩,A2,H⟩:=H;(try dsimp only at H)
 replace H:=eI H
 rcases H with ⟨c3b0,c3b1,H⟩|⟨c3,c3b0,c3b1,H⟩
 ·obtain rfl:=Option.some.inj H
  go_enter Tryz.func110,Tryz.ntmps110
  go_wp2_with (first|(refine gL (some 7) Tryz.func112 #[.slice A0 l0.length c0] (h:=?_);(with_reducible refine (Zax.calls k (fun k_=>k_ < w.heap.size) _ _ l0 qb qc _ ?side1 A2.o).mono ?_);(case side1=>exact Kd.V_mk HC0.o (Kd.Ze9 (Kd.C_F (Kd.Ze4 .u32) HR0.o) pB));rintro e w4 ⟨rfl,hb⟩;refine ⟨_,rfl,?_⟩;replace HB:=bS hb))
  go_ret
  exact ⟨pE,pB⟩
 ·have c3b2:¬ (l0=[]):=fun h_=>c3 (by rw [h_];rfl)
  obtain rfl:=Option.some.inj H
  go_enter Tryz.func110,Tryz.ntmps110
  go_wp2_with (first|(refine gL (some 7) Tryz.func112 #[.slice A0 l0.length c0] (h:=?_);(with_reducible refine (Zax.calls k (fun k_=>k_ < w.heap.size) _ _ l0 qb qc _ ?side1 A2.o).mono ?_);(case side1=>exact Kd.V_mk HC0.o (Kd.Ze9 (Kd.C_F (Kd.Ze4 .u32) HR0.o) pB));rintro e w5 ⟨rfl,hb⟩;refine ⟨_,rfl,?_⟩;replace HB:=bS hb))
  go_ret
  exact ⟨pE,pB⟩
def Za6.j0:Nat->Bool->Bool->List Int->Int->Option (Int)
 | 0,_,_,_,_=>none
 | k+1,x14,qi,qc,qd=>if x14=true then (some 9) else (if (qc.length:Int)=0 then (if qi=true then (some 9) else (if qd=0 then (some 0) else (some 9))) else ((Zfl.f k qc).bind fun qj=>(if qj.2=true then (some 9) else ((Zc1.f k qc).bind fun qf=>(if qf > 300 then (some 9) else (if qd < (-1000) then (some 9) else (if qd > 1000 then (some 9) else (some 0))))))))
def Za6.f (k:Nat) (a0_0:Bool) (l0_1:List Int) (a0_2:Int):Option (Int):=(Za2.f l0_1).bind fun qe=>(if qe=0 then (Za6.j0 k (decide ((l0_1.length:Int) > 40)) a0_0 l0_1 a0_2) else (Za6.j0 k true a0_0 l0_1 a0_2))
theorem Za6.calls (k:Nat) (a0_0:Bool) (A0_1:Option Addr) (c0_1:Nat) (l0_1:List Int) (a0_2:Int) (r:Int) (w:World) (hr0_1:Kd.C (Kd.int .u32) w A0_1 l0_1.length l0_1) (hc0_1:l0_1.length<=c0_1) (h:Za6.f k a0_0 l0_1 a0_2=some r) :
  Calls Tryz.prog 55 #[.agg #[.bool a0_0,.slice A0_1 l0_1.length c0_1,.int .i64 a0_2]] w fun e w'=>e=.returned (.int .i64 r)/\Below w.heap.size w w':=by
 have hu24:=Tryz.underlying24
 have HR0_1:=am hr0_1
 have HC0_1:=am hc0_1
 clear hr0_1 hc0_1
 have HB:=am (Below.refl w.heap.size w)
 have H:((Za2.f l0_1).bind fun qe=>(if qe=0 then (Za6.j0 k (decide ((l0_1.length:Int) > 40)) a0_0 l0_1 a0_2) else (Za6.j0 k true a0_0 l0_1 a0_2)))=some r:=h
 clear h
 have HC2:=am H
 clear H
 go_enter Tryz.func55,Tryz.ntmps55
 go_upto_region 1 with (first|((with_reducible refine gd 1 ?_);(try (refine Za1 (by rfl) ?_;dsimp only));refine bx 1 #[.bool a0_0,.slice A0_1 l0_1.length c0_1,.int .i64 a0_2] 24 (h:=?_);intro qk hg w3 hbox hb;have qa:=am hbox;have qm:=gW hg;replace HB:=bS hb;clear hb hbox hg))
 (try simp only [Act.put,List.setIfInBounds_toArray,List.set_cons_zero,List.set_cons_succ])
 go_cut [14] (fun v14 wc => ∃ (kq:Nat) (x14_1:Bool),v14=.bool x14_1/\Aside0 (Za6.j0 kq x14_1 a0_0 l0_1 a0_2=some r)/\Aside0 (kq<=k)/\Aside0 (wc.heap[qk]? = some (.cells #[.bool a0_0,(.slice A0_1 l0_1.length c0_1),.int .i64 a0_2] 24 (0,0)))/\Aside0 (Below w.heap.size w wc))
 case first =>
  have H:=HC2.o
  clear HC2
  replace H:=ob H
  obtain ⟨qe,A4,H⟩:=H
  replace H:=eI H
  rcases H with ⟨c5b0,c5b1,H⟩|⟨c5,c5b0,c5b1,H⟩
  ·(first|rw [c5b0]|(simp only [Zb9,Zdj];rw [c5b0])|skip)
   have H':=am H
   clear H
   obtain ⟨_,_,_,_,_,_⟩:=cEc qa.o
   go_wp2_with (first|(refine gL (some 7) Tryz.func108 #[.slice A0_1 l0_1.length c0_1] (h:=?_);(with_reducible refine (Za2.calls _ _ l0_1 qe _ ?side1 ?side2 A4.o).mono ?_);(case side1=>exact cB HR0_1 HB);(case side2=>exact HC0_1.o);rintro e w' ⟨rfl,⟨nd,rfl⟩⟩;refine ⟨_,rfl,?_⟩))
   go_meet
   case rel=>exact ⟨_,(decide ((l0_1.length:Int) > 40)),pR,H',pJ,⟨Zg qa.o pl⟩,⟨pB⟩⟩
  ·(first|rw [c5b0]|(simp only [Zb9,Zdj];rw [c5b0])|skip)
   have H':=am H
   clear H
   obtain ⟨_,_,_,_,_,_⟩:=cEc qa.o
   go_wp2_with (first|(refine gL (some 7) Tryz.func108 #[.slice A0_1 l0_1.length c0_1] (h:=?_);(with_reducible refine (Za2.calls _ _ l0_1 qe _ ?side1 ?side2 A4.o).mono ?_);(case side1=>exact cB HR0_1 HB);(case side2=>exact HC0_1.o);rintro e w' ⟨rfl,⟨nd,rfl⟩⟩;refine ⟨_,rfl,?_⟩))
   go_meet
   case rel=>exact ⟨_,(true),pR,H',pJ,⟨Zg qa.o pl⟩,⟨pB⟩⟩
 case rest =>
  clear HC2
  obtain ⟨kq,x14_1,rfl,HA,HJ1,qa,HB⟩:=hcut
  cases kq with
  | zero=>exact absurd HA.out (by simp [Za6.j0])
  | succ kj1 =>
   have H:=HA.out
   clear HA
   simp only [Za6.j0] at H
   replace H:=tI (t:=x14_1) H
   rcases H with ⟨rfl,H⟩|⟨rfl,H⟩
   ·obtain rfl:=Option.some.inj H
    go_wp2
    go_ret
    exact ⟨pE,pB⟩
   ·replace H:=eI H
    rcases H with ⟨c9b0,c9b1,H⟩|⟨c9,c9b0,c9b1,H⟩
    ·replace H:=tI (t:=a0_0) H
     rcases H with ⟨rfl,H⟩|⟨rfl,H⟩
     ·obtain rfl:=Option.some.inj H
      obtain ⟨_,_,_,_,_,_⟩:=cEc qa.o
      go_wp2
      go_ret
      exact ⟨pE,pB⟩
     ·replace H:=eI H
      rcases H with ⟨c12b0,c12b1,H⟩|⟨c12,c12b0,c12b1,H⟩
      ·obtain rfl:=Option.some.inj H
       obtain ⟨_,_,_,_,_,_⟩:=cEc qa.o
       go_wp2
       go_ret
       exact ⟨pE,pB⟩
      ·obtain rfl:=Option.some.inj H
       obtain ⟨_,_,_,_,_,_⟩:=cEc qa.o
       go_wp2
       go_ret
       exact ⟨pE,pB⟩
    ·have c9b2:¬ (l0_1=[]):=fun h_=>c9 (by rw [h_];rfl)
     replace H:=ob H
     obtain ⟨⟨qg,ql⟩,A15,H⟩:=H;(try dsimp only at H)
     replace H:=tI (t:=ql) H
     rcases H with ⟨rfl,H⟩|⟨rfl,H⟩
     ·obtain rfl:=Option.some.inj H
      obtain ⟨_,_,_,_,_,_⟩:=cEc qa.o
      go_wp2_with (first|(refine gL (some 29) Tryz.func109 #[.slice A0_1 l0_1.length c0_1] (h:=?_);(with_reducible refine (Zfl.calls kj1 _ _ l0_1 qg true _ ?side1 ?side2 A15.o).mono ?_);(case side1=>exact cB HR0_1 HB);(case side2=>exact HC0_1.o);rintro e w18 ⟨qh,rfl,ho0,hb⟩;refine ⟨_,rfl,?_⟩;have qb:=am (Kd.Zn ho0 (Zb pB));replace qa:=bb qa hb;replace HB:=bS hb))
      go_ret
      exact ⟨pE,pB⟩
     ·replace H:=ob H
      obtain ⟨qf,A19,H⟩:=H
      replace H:=gI H
      rcases H with ⟨c20b0,H⟩|⟨c20b0,H⟩
      ·obtain rfl:=Option.some.inj H
       obtain ⟨_,_,_,_,_,_⟩:=cEc qa.o
       go_wp2_with (first|(refine gL (some 29) Tryz.func109 #[.slice A0_1 l0_1.length c0_1] (h:=?_);(with_reducible refine (Zfl.calls kj1 _ _ l0_1 qg false _ ?side1 ?side2 A15.o).mono ?_);(case side1=>exact cB HR0_1 HB);(case side2=>exact HC0_1.o);rintro e w22 ⟨qh,rfl,ho0,hb⟩;refine ⟨_,rfl,?_⟩;have qb:=am (Kd.Zn ho0 (Zb pB));replace qa:=bb qa hb;replace HB:=bS hb;obtain ⟨_,_,_,_,_,_⟩:=cEc qa.o)|(go_at_call 110;(with_reducible refine (Zc1.calls kj1 _ _ l0_1 qf _ ?side1 ?side2 A19.o).mono ?_);(case side1=>exact cB HR0_1 HB);(case side2=>exact HC0_1.o);rintro e w24 ⟨rfl,hb⟩;replace qb:=rbl qb hb;replace qa:=bb qa hb;replace HB:=bS hb))
       go_ret
       exact ⟨pE,pB⟩
      ·replace H:=dI H
       rcases H with ⟨c25b0,H⟩|⟨c25b0,H⟩
       ·obtain rfl:=Option.some.inj H
        obtain ⟨_,_,_,_,_,_⟩:=cEc qa.o
        go_wp2_with (first|(refine gL (some 29) Tryz.func109 #[.slice A0_1 l0_1.length c0_1] (h:=?_);(with_reducible refine (Zfl.calls kj1 _ _ l0_1 qg false _ ?side1 ?side2 A15.o).mono ?_);(case side1=>exact cB HR0_1 HB);(case side2=>exact HC0_1.o);rintro e w27 ⟨qh,rfl,ho0,hb⟩;refine ⟨_,rfl,?_⟩;have qb:=am (Kd.Zn ho0 (Zb pB));replace qa:=bb qa hb;replace HB:=bS hb;obtain ⟨_,_,_,_,_,_⟩:=cEc qa.o)|(go_at_call 110;(with_reducible refine (Zc1.calls kj1 _ _ l0_1 qf _ ?side1 ?side2 A19.o).mono ?_);(case side1=>exact cB HR0_1 HB);(case side2=>exact HC0_1.o);rintro e w29 ⟨rfl,hb⟩;replace qb:=rbl qb hb;replace qa:=bb qa hb;replace HB:=bS hb;obtain ⟨_,_,_,_,_,_⟩:=cEc qa.o))
        go_ret
        exact ⟨pE,pB⟩
       ·replace H:=gI H
        rcases H with ⟨c31b0,H⟩|⟨c31b0,H⟩
        ·obtain rfl:=Option.some.inj H
         obtain ⟨_,_,_,_,_,_⟩:=cEc qa.o
         go_wp2_with (first|(refine gL (some 29) Tryz.func109 #[.slice A0_1 l0_1.length c0_1] (h:=?_);(with_reducible refine (Zfl.calls kj1 _ _ l0_1 qg false _ ?side1 ?side2 A15.o).mono ?_);(case side1=>exact cB HR0_1 HB);(case side2=>exact HC0_1.o);rintro e w33 ⟨qh,rfl,ho0,hb⟩;refine ⟨_,rfl,?_⟩;have qb:=am (Kd.Zn ho0 (Zb pB));replace qa:=bb qa hb;replace HB:=bS hb;obtain ⟨_,_,_,_,_,_⟩:=cEc qa.o)|(go_at_call 110;(with_reducible refine (Zc1.calls kj1 _ _ l0_1 qf _ ?side1 ?side2 A19.o).mono ?_);(case side1=>exact cB HR0_1 HB);(case side2=>exact HC0_1.o);rintro e w35 ⟨rfl,hb⟩;replace qb:=rbl qb hb;replace qa:=bb qa hb;replace HB:=bS hb;obtain ⟨_,_,_,_,_,_⟩:=cEc qa.o))
         go_ret
         exact ⟨pE,pB⟩
        ·obtain rfl:=Option.some.inj H
         obtain ⟨_,_,_,_,_,_⟩:=cEc qa.o
         go_wp2_with (first|(refine gL (some 29) Tryz.func109 #[.slice A0_1 l0_1.length c0_1] (h:=?_);(with_reducible refine (Zfl.calls kj1 _ _ l0_1 qg false _ ?side1 ?side2 A15.o).mono ?_);(case side1=>exact cB HR0_1 HB);(case side2=>exact HC0_1.o);rintro e w38 ⟨qh,rfl,ho0,hb⟩;refine ⟨_,rfl,?_⟩;have qb:=am (Kd.Zn ho0 (Zb pB));replace qa:=bb qa hb;replace HB:=bS hb;obtain ⟨_,_,_,_,_,_⟩:=cEc qa.o)|(go_at_call 110;(with_reducible refine (Zc1.calls kj1 _ _ l0_1 qf _ ?side1 ?side2 A19.o).mono ?_);(case side1=>exact cB HR0_1 HB);(case side2=>exact HC0_1.o);rintro e w40 ⟨rfl,hb⟩;replace qb:=rbl qb hb;replace qa:=bb qa hb;replace HB:=bS hb;obtain ⟨_,_,_,_,_,_⟩:=cEc qa.o))
         go_ret
         exact ⟨pE,pB⟩
def Zem.f (a0:Int):Option (Bool):=if a0 < 48 then (some true) else (some (decide (a0 > 57)))
theorem Zem.calls (a0:Int) (r:Bool) (w:World) (h:Zem.f a0=some r) :
  Calls Tryz.prog 151 #[.int .u8 a0] w fun e w'=>e=.returned (.bool r)/\Drawn0 w w':=by
 have H:(if a0 < 48 then (some true) else (some (decide (a0 > 57))))=some r:=h
 clear h
 replace H:=dI H
 rcases H with ⟨c2b0,H⟩|⟨c2b0,H⟩
 ·obtain rfl:=Option.some.inj H
  go_enter Tryz.func151,Tryz.ntmps151
  go_wp2
  go_ret
  exact ⟨pR,pD⟩
 ·obtain rfl:=Option.some.inj H
  go_enter Tryz.func151,Tryz.ntmps151
  go_wp2
  go_ret
  exact ⟨pR,pD⟩
def Zcu.f (a0_0:Bool) (l0_1:List Int) (a0_2:Int):Option (Bool):=some ((l0_1.length:Int) == 0)
theorem Zcu.calls (a0_0:Bool) (A0_1:Option Addr) (c0_1:Nat) (l0_1:List Int) (a0_2:Int) (r:Bool) (w:World) (hr0_1:Kd.C (Kd.int .u32) w A0_1 l0_1.length l0_1) (hc0_1:l0_1.length<=c0_1) (h:Zcu.f a0_0 l0_1 a0_2=some r) :
  Calls Tryz.prog 104 #[.agg #[.bool a0_0,.slice A0_1 l0_1.length c0_1,.int .i64 a0_2]] w fun e w'=>e=.returned (.bool r)/\Below w.heap.size w w':=by
 have qd:=Tryz.underlying106
 have HR0_1:=am hr0_1
 have HC0_1:=am hc0_1
 clear hr0_1 hc0_1
 have HB:=am (Below.refl w.heap.size w)
 have H:(some ((l0_1.length:Int) == 0))=some r:=h
 clear h
 obtain rfl:=Option.some.inj H
 go_enter Tryz.func104,Tryz.ntmps104
 go_wp2_with (first|((with_reducible refine gd 1 ?_);refine bx 1 #[.bool a0_0,.slice A0_1 l0_1.length c0_1,.int .i64 a0_2] 106 (h:=?_);intro qc hg w2 hbox hb;have qa:=am hbox;have qb:=gW hg;replace HB:=bS hb;clear hb hbox hg;obtain ⟨_,_,_,_,_,_⟩:=cEc qa.o))
 go_ret
 exact ⟨pE,pB⟩
def Zgs.f (l0:List Int) (a1:Int):Option (List Int):=some l0
theorem Zgs.calls (P0_:Nat->Prop) (u9000_:Value) (l0:List Int) (a1:Int) (r:List Int) (w0 w:World) (hB:Below w0.heap.size w0 w) (ho0:Kd.R (Kd.int .u32) 85 w w0.heap.size P0_ u9000_ l0) (h:Zgs.f l0 a1=some r) :
  Calls Tryz.prog 105 #[u9000_,.int .i64 a1] w fun e w' => ∃ v0_:Value,e=.returned (v0_)/\Kd.R (Kd.int .u32) 85 w' w0.heap.size (fun k_=>(P0_ k_\/w.heap.size<=k_)) v0_ r/\Below w0.heap.size w0 w'/\Kept w w' (fun k_=>P0_ k_):=by
 have HO0:=am (show Kd.R (Kd.int .u32) 85 w w0.heap.size (fun k_=>(P0_ k_\/w.heap.size<=k_)) u9000_ l0 from Kd.Zo ho0 (fun k_ hk=>(.inl hk)))
 have HK:=am (Kept.refl w (fun k_=>P0_ k_))
 have HW0:=am hB.size
 have HB:=am hB
 clear hB
 have H:(some l0)=some r:=h
 clear h
 obtain rfl:=Option.some.inj H
 go_enter Tryz.func105,Tryz.ntmps105
 go_wp2
 go_ret
 exact ⟨_,pE,by refine rp ?_;exact HO0.o,pB,by repeat (first|(with_reducible first|exact HK.out|apply Kept.alloc|apply Kept.drewN|apply Kept.drew)|exact HK.out)⟩
def Zfr.f (a0:ByteArray) (a1:Int):Option (ByteArray):=some a0
theorem Zfr.calls (a0:ByteArray) (a1:Int) (r:ByteArray) (w:World) (h:Zfr.f a0 a1=some r) :
  Calls Tryz.prog 111 #[.string a0,.int .i64 a1] w fun e w'=>e=.returned (.string r)/\Drawn0 w w':=by
 have H:(some a0)=some r:=h
 clear h
 obtain rfl:=Option.some.inj H
 go_enter Tryz.func111,Tryz.ntmps111
 go_wp2
 go_ret
 exact ⟨pR,pD⟩
def Zcj.l0:Nat->Int->List Int->Int->Int->Option (Int)
 | 0,_,_,_,_=>none
 | k+1,x3,x7,x8,x9=>if x9 < x8 then (if 0<=x9 then (if x9 < (x7.length:Int) then (Zcj.l0 k ((((x3*10) % 4294967296)+(((rd x7 x9) - 48) % 256)) % 4294967296) x7 x8 (wrap64 (x9+1))) else (none)) else (none)) else (some x3)
def Zcj.f (k:Nat) (a0:ByteArray):Option (Int):=(Zcd.f a0).bind fun qa=>(Zcj.l0 k 0 qa (qa.length:Int) 0)
theorem Zcj.calls (k:Nat) (a0:ByteArray) (r:Int) (w:World) (h:Zcj.f k a0=some r) :
  Calls Tryz.prog 152 #[.string a0] w fun e w'=>e=.returned (.int .u32 r)/\Below w.heap.size w w':=by
 have HB:=am (Below.refl w.heap.size w)
 have H:((Zcd.f a0).bind fun qa=>(Zcj.l0 k 0 qa (qa.length:Int) 0))=some r:=h
 clear h
 replace H:=ob H
 obtain ⟨qa,A2,H⟩:=H
 have H':=am H
 clear H
 go_enter Tryz.func152,Tryz.ntmps152
 go_wp2_with (first|((with_reducible refine gd 7 ?_);refine Zcd.op _ _ _ rfl rfl rfl A2.o ?_;intro qh w3 ho0 hb;have qb:=am (Kd.Zj2 (Kd.Zb5 (ok':=fun k_=>True) ho0 (fun k_ hk_=>trivial)) (Zb pB));replace HB:=bS hb;obtain ⟨Ao4,co4,eo4⟩:=Kd.Zew qb.o;subst eo4))
 go_loopg [3,9] k (fun kq v3 v9 w' => ∃ (x3_1:Int) (x9_1:Int),v3=.int .u32 x3_1/\v9=.int .i64 x9_1/\Aside0 (Zcj.l0 kq x3_1 qa (qa.length:Int) x9_1=some r)/\Aside0 (kq<=k)/\Aside0 (Kd.V (Kd.int .u8) 5 w' w.heap.size (fun _=>True) (.slice Ao4 qa.length co4) qa)/\Aside0 (Below w.heap.size w w'))
 case atStart=>exact ⟨(0),(0),pR,pR,H',⟨Nat.le_refl _⟩,⟨by refine vp ?_;exact qb.o⟩,⟨pB⟩⟩
 case round =>
  clear H'
  obtain ⟨x3_1,x9_1,rfl,rfl,HA,HK1,HO_7,HB⟩:=hrel
  cases gk with
  | zero=>exact absurd HA.out (by simp [Zcj.l0])
  | succ k1 =>
   have H:=HA.out
   clear HA
   simp only [Zcj.l0] at H
   replace H:=dI H
   rcases H with ⟨c5b0,H⟩|⟨c5b0,H⟩
   ·replace H:=dI H
    rcases H with ⟨c6b0,H⟩|⟨_,H⟩
    ·replace H:=dI H
     rcases H with ⟨c7b0,H⟩|⟨_,H⟩
     ·have H':=am H
      clear H
      have qc:0<=(x9_1:Int):=of_decide_eq_true pQ
      have qd:x9_1 < (qa.length:Int):=of_decide_eq_true pQ
      obtain ⟨qg,qf,qe⟩:=Kd.Zay (Kd.Za5 HO_7.o).2.2 x9_1 qc qd
      cases qf
      replace qc:=eq_true qc
      replace qd:=eq_true qd
      go_wp2
      go_roundg k1
      case measure=>exact pM
      case rel=>exact ⟨((((x3_1*10) % 4294967296)+(((rd qa x9_1) - 48) % 256)) % 4294967296),(wrap64 (x9_1+1)),pR,pR,H',pJ,⟨by refine vp ?_;exact HO_7.o⟩,⟨pB⟩⟩
     ·cases H
    ·cases H
   ·obtain rfl:=Option.some.inj H
    go_wp2
    go_ret
    exact ⟨pE,pB⟩
end YtjbjkmccfocikaaGreatDoor.B
end
section
namespace YtjbjkmccfocikaaGreatDoor.B
open Go.RowKit YtjbjkmccfocikaaGreatDoorW.PrintWords YtjbjkmccfocikaaGreatDoor.P
def Zb4.f (l:List Int):Option Bool:=anyO (fun x=>Zem.f x) l
theorem Zb4.index (A0:Option Addr) (c0:Nat) (l0:List Int) (b:Bool) (w:World) (hr0:Kd.C (Kd.int .u8) w A0 l0.length l0) (hc0:l0.length<=c0) (h:Zb4.f l0=some b) :
  Calls Tryz.prog 182 #[.slice A0 l0.length c0,.func (.func 151) #[] #[]] w fun e w'=>IdxR b e/\Below w.heap.size w w':=by
 have hm:l0.length<=9223372036854775807:=Kd.Zto hr0
 have HR:=Aside0.mk hr0
 have HC:=Aside0.mk hc0
 unfold Zb4.f at h
 have H0:=Aside0.mk h
 obtain ⟨n,hn⟩:∃ n,l0.length=n:=⟨_,rfl⟩
 rw [hn] at hm
 have HN:=Aside0.mk hn
 clear h hr0 hc0
 rw [hn]
 clear hn
 go_enter Tryz.func182,Tryz.ntmps182
 go_wp2
 go_loopw [8] (fun i wr => ∃ k_:Nat,k_<=n/\i=.int .i64 k_/\Aside0 (anyO (fun x=>Zem.f x) (l0.drop k_)=some b)/\Below w.heap.size w wr) (fun i _=>n - (intOf i).toNat)
 case atStart=>exact ⟨0,Nat.zero_le _,rfl,⟨H0.out⟩,Below.refl _ _⟩
 case round =>
  obtain ⟨q,hq,rfl,HP,hb⟩:=hrel
  by_cases hlt:q < n
  ·have hlt':(q:Int) < (n:Int):=by omega
   have hdrop:l0.drop q=(l0.getD q (0:Int)) :: l0.drop (q+1):=Zng (by have := HN.out;omega)
   obtain ⟨x,hx⟩:∃ x,l0.getD q (0:Int)=x:=⟨_,rfl⟩
   have h1:=HP.out
   rw [hdrop,hx] at h1
   obtain ⟨t,ht,h2⟩:=Zkv h1
   obtain ⟨ad,c,hA,_,hK,hcc⟩:=Kd.Zor HR.out (0:Int) (q:Int) (by omega) (by have := HN.out;omega)
   have hx':l0.getD (q:Int).toNat 0=x:=by rw [Int.toNat_natCast];exact hx
   obtain rfl:c=[.int .u8 (l0.getD (q:Int).toNat 0)]:=hK
   rw [hx'] at hcc
   have hcell0:=hcc 0 _ rfl
   obtain ⟨ad',c',hA',_,hK',hcc'⟩:=Kd.Zor HR.out (0:Int) (0:Int) (by omega) (by have := HN.out;omega)
   obtain rfl:c'=[.int .u8 (l0.getD (0:Int).toNat 0)]:=hK'
   have hfirst:=hcc' 0 _ rfl
   obtain rfl:ad=ad':=Option.some.inj (hA.symm.trans hA')
   subst hA
   obtain ⟨b_,o_,rfl⟩:=Zm8 (show w.cell? ad=_ from hfirst)
   have hck:wr.cell? ⟨b_,o_+q,none⟩=some (.int .u8 x):=by
    have h3:=Zdg hb hcell0
    rw [Zj3] at h3
    simpa [show (Kd.int .u8).sz=1 from rfl] using h3
   have cF:=fun W:World=>Zem.calls x t W ht
   have HF:=Aside0.mk h2
   clear h1 hdrop hx hx' ht hcc hcell0 HP h2 hfirst hcc' hA'
   cases t with
   | true =>
    have HF1:=Aside0.mk (HF.out.1 rfl)
    clear HF
    go_wp2_with (go_at_call 151;refine (cF _).mono ?_;rintro e w1 ⟨rfl,hb1⟩)
    go_ret
    exact ⟨Zpt HF1.out q,hb.trans (hb1.below.mono hb.size)⟩
   | false =>
    have HF1:=Aside0.mk (HF.out.2 rfl)
    clear HF
    go_wp2_with (go_at_call 151;refine (cF _).mono ?_;rintro e w1 ⟨rfl,hb1⟩)
    go_roundw
    case rel=>exact ⟨q+1,by omega,by go_num,HF1,hb.trans (hb1.below.mono hb.size)⟩
    case measure=>simp [intOf];omega
  ·obtain rfl:q=n:=by omega
   have h1:=HP.out
   rw [List.drop_of_length_le (by have := HN.out;omega)] at h1
   have h2:=Aside0.mk (Zna h1)
   clear h1
   go_wp2
   go_ret
   exact ⟨Zlb h2.out,hb⟩
theorem Zb4.calls (A0:Option Addr) (c0:Nat) (l0:List Int) (r:Bool) (w:World) (hr0:Kd.C (Kd.int .u8) w A0 l0.length l0) (hc0:l0.length<=c0) (h:Zb4.f l0=some r) :
  Calls Tryz.prog 150 #[.slice A0 l0.length c0,.func (.func 151) #[] #[]] w fun e w'=>e=.returned (.bool r)/\Below w.heap.size w w':=by
 have cI:=Zb4.index A0 c0 l0 r w hr0 hc0 h
 clear h hr0 hc0
 go_enter Tryz.func150,Tryz.ntmps150
 go_wp2_with (go_at_call 182;refine cI.mono ?_;rintro e w1 ⟨⟨i,rfl,hi⟩,hb1⟩)
 go_ret
 exact ⟨by rw [<- hi];first|rfl|simp,hb1⟩
end YtjbjkmccfocikaaGreatDoor.B
end
section
namespace YtjbjkmccfocikaaGreatDoor.B
open Go.RowKit YtjbjkmccfocikaaGreatDoorW.PrintWords YtjbjkmccfocikaaGreatDoorW.PrintLast YtjbjkmccfocikaaGreatDoorW.PrintMore
attribute [local go_sem] Zch Zci Zc9 Zda Zb1 Zb2 Zcp Zcq
def Za3.l0:Nat->ByteArray->List Int->Option (List Int × Int)
 | 0,_,_=>none
 | k+1,x0,x4=>if x0.toList=([]:List UInt8) then (some (x4,0)) else ((Zag.f k x4 (([1000000000]:List Int))).bind fun qw=>(if 0<=(wrap64 ((Int.tmod (wrap64 ((x0.size:Int) - 1)) 9)+1)) then (if (wrap64 ((Int.tmod (wrap64 ((x0.size:Int) - 1)) 9)+1))<=(x0.size:Int) then ((Zcj.f k (x0.extract 0 ((wrap64 ((Int.tmod (wrap64 ((x0.size:Int) - 1)) 9)+1)):Int).toNat)).bind fun qx=>((Zz.f k (([qx]:List Int))).bind fun qy=>((Zaf.f k qw qy).bind fun qz=>(Za3.l0 k (x0.extract ((wrap64 ((Int.tmod (wrap64 ((x0.size:Int) - 1)) 9)+1)):Int).toNat x0.size) qz)))) else (none)) else (none)))
def Za3.f (k:Nat) (a0:ByteArray):Option (List Int × Int):=if (a0.size:Int)=0 then (some (([]:List Int),8)) else (if (a0.size:Int) > 2400 then (some (([]:List Int),5)) else ((Zcd.f a0).bind fun qd=>((Zb4.f qd).bind fun ql=>(if ql=true then (some (([]:List Int),32)) else (Za3.l0 k a0 ([]:List Int))))))
def Za3.T10:Bool × List (List Nat × List Nat):=(true,[([],[]),([],[]),([0,1],[0,1]),([],[]),([],[]),([3,4],[3,4]),([5,2],[5]),([6],[6]),([7,6],[7]),([2,8,8],[2,8]),([9,9,0,1,2,3,4,5,6,7,8,9],[0,9])])
def Za3.B10:List Nat:=[0,0,3,0,0,24,63,127,255,511,1023]
theorem Za3.tab10:rtab .any (opsOf Tryz.f116 10)=Za3.T10:=by kernel_rfl
theorem Za3.bits10:waitsOk Za3.T10.2 Za3.B10=true:=by kernel_rfl
theorem Za3.leaf {P:Prop} (h:P:=by
 go_enter Tryz.func116,Tryz.ntmps116
 go_wp2_with (first|((with_reducible refine gd 16 ?_);refine Zcd.op _ _ _ rfl rfl rfl A4.o ?_;intro v0z w1z ho2z hb;have HO3z:=am (Kd.Zj2 (Kd.Zb5 (ok':=fun k_=>True) ho2z (fun k_ hk_=>trivial)) (Zb pB));replace HB:=bS hb;obtain ⟨Ao4z,co5z,eo6z⟩:=Kd.Zew HO3z.o;subst eo6z)|(refine gL (some 17) Tryz.func150 #[.slice Ao4z qd.length co5z,.func (.func 151) #[] #[]] (h:=?_);(with_reducible refine (Zb4.calls _ _ qd true _ ?side1 ?side2 A5.o).mono ?_);(case side1=>exact Kd.Zi (Kd.Za5 HO3z.o).2.2 pl);(case side2=>exact (Kd.Za5 HO3z.o).2.1);rintro e w7z ⟨rfl,hb⟩;refine ⟨_,rfl,?_⟩;replace HO3z:=vbl HO3z hb;replace HB:=bS hb)|(refine gL (some 17) Tryz.func150 #[.slice Ao4z qd.length co5z,.func (.func 151) #[] #[]] (h:=?_);(with_reducible refine (Zb4.calls _ _ qd false _ ?side1 ?side2 A5.o).mono ?_);(case side1=>exact Kd.Zi (Kd.Za5 HO3z.o).2.2 pl);(case side2=>exact (Kd.Za5 HO3z.o).2.1);rintro e w7z ⟨rfl,hb⟩;refine ⟨_,rfl,?_⟩;replace HO3z:=vbl HO3z hb;replace HB:=bS hb))
 first
  | have q_:=A5;have q_:Aside0 (_=some false):=A5
    go_loopg [0,4] k (fun kq v8z v9z w' => ∃ (x10z:ByteArray) (x11z:List Int),v8z=.string x10z/\Aside0 (Za3.l0 kq x10z x11z=some (r1,r2))/\Aside0 (kq<=k)/\Aside0 (Kd.R (Kd.int .u32) 85 w' w.heap.size (fun _=>True) v9z x11z)/\Aside0 (Below w.heap.size w w'))
    case atStart=>exact ⟨(a0),(([]:List Int)),pR,H',⟨Nat.le_refl _⟩,⟨pN⟩,⟨pB⟩⟩
    case round =>
     clear H'
     obtain ⟨x10z,x11z,rfl,HA,HK12z,HO_4,HB⟩:=hrel
     cases gk with
     | zero=>exact absurd HA.out (by simp [Za3.l0])
     | succ k1 =>
      have H:=HA.out
      clear HA
      simp only [Za3.l0] at H
      by_cases c13z:x10z.toList=([]:List UInt8)
      ·rw [if_pos c13z] at H
       have c14z:(x10z.toList == ([]:List UInt8))=true:=beq_iff_eq.mpr c13z
       have c15z:(x10z.toList != ([]:List UInt8))=false:=bne_eq_false_iff_eq.mpr c13z
       clear c13z
       simp only [Option.some.injEq,Prod.mk.injEq] at H
       obtain ⟨rfl,rfl⟩:=H
       go_wp2
       go_ret2
       exact ⟨_,pE,by refine rp ?_;exact HO_4.o,pB⟩
      ·rw [if_neg c13z] at H
       have c14z:(x10z.toList == ([]:List UInt8))=false:=beq_eq_false_iff_ne.mpr c13z
       have c15z:(x10z.toList != ([]:List UInt8))=true:=bne_iff_ne.mpr c13z
       obtain ⟨y16z,hy17z⟩:∃ y_:List Int,y_=(([1000000000]:List Int)):=⟨_,rfl⟩
       replace H:((Zag.f k1 x11z y16z).bind fun t18z=>(if 0<=(wrap64 ((Int.tmod (wrap64 ((x10z.size:Int) - 1)) 9)+1)) then (if (wrap64 ((Int.tmod (wrap64 ((x10z.size:Int) - 1)) 9)+1))<=(x10z.size:Int) then ((Zcj.f k1 (x10z.extract 0 ((wrap64 ((Int.tmod (wrap64 ((x10z.size:Int) - 1)) 9)+1)):Int).toNat)).bind fun t19z=>((Zz.f k1 (([t19z]:List Int))).bind fun t20z=>((Zaf.f k1 t18z t20z).bind fun t21z=>(Za3.l0 k1 (x10z.extract ((wrap64 ((Int.tmod (wrap64 ((x10z.size:Int) - 1)) 9)+1)):Int).toNat x10z.size) t21z)))) else (none)) else (none)))=some (r1,r2):=by have hy_:=hy17z;exact pH
       have Ny22z:=am hy17z
       clear hy17z
       replace H:=ob H
       obtain ⟨t18z,A23z,H⟩:=H
       obtain ⟨ji24z,hji25z⟩:∃ j_:Int,(wrap64 ((Int.tmod (wrap64 ((x10z.size:Int) - 1)) 9)+1))=j_:=⟨_,rfl⟩
       replace H:(if 0<=(ji24z) then (if (ji24z)<=(x10z.size:Int) then ((Zcj.f k1 (x10z.extract 0 ((ji24z):Int).toNat)).bind fun t19z=>((Zz.f k1 (([t19z]:List Int))).bind fun t20z=>((Zaf.f k1 t18z t20z).bind fun t21z=>(Za3.l0 k1 (x10z.extract ((ji24z):Int).toNat x10z.size) t21z)))) else (none)) else (none))=some (r1,r2):=by first|(rw [hji25z] at H;exact H)|(simp only [hji25z] at H ⊢;exact H)
       (try rw [hji25z] at A23z)
       have hji26z:(IntKind.i64.wrap ((Int.tmod (wrap64 ((x10z.size:Int) - 1)) 9)+1))=ji24z:=(Zb9 _).trans hji25z
       by_cases c27z:0<=(ji24z)
       ·rw [if_pos c27z] at H
        have c28z:=eq_true c27z
        have c29z:decide (0<=(ji24z))=true:=decide_eq_true c27z
        clear c27z
        by_cases c30z:(ji24z)<=(x10z.size:Int)
        ·rw [if_pos c30z] at H
         have c31z:=eq_true c30z
         have c32z:decide ((ji24z)<=(x10z.size:Int))=true:=decide_eq_true c30z
         clear c30z
         replace H:=ob H
         obtain ⟨t19z,A33z,H⟩:=H
         obtain ⟨y34z,hy35z⟩:∃ y_:List Int,y_=(([t19z]:List Int)):=⟨_,rfl⟩
         replace H:((Zz.f k1 y34z).bind fun t20z=>((Zaf.f k1 t18z t20z).bind fun t21z=>(Za3.l0 k1 (x10z.extract ((ji24z):Int).toNat x10z.size) t21z)))=some (r1,r2):=by have hy_:=hy35z;exact pH
         have Ny36z:=am hy35z
         clear hy35z
         replace H:=ob H
         obtain ⟨t20z,A37z,H⟩:=H
         replace H:=ob H
         obtain ⟨t21z,A38z,H⟩:=H
         have c39z:=eq_true (of_decide_eq_true pQ:0<=(ji24z))
         have c40z:=eq_true (of_decide_eq_true pQ:(ji24z)<=(x10z.size:Int))
         have H':=am H
         clear H
         try go_wp2
         replace HO_4:=am (Kd.Zh5 HO_4.o)
         replace HB:=am (Zbh HB.o)
         refine start_ (n:=11) (S:=fun w'=>True) (ds:=[]) #[false,false,false,false,false,false,false,false,false,false,false] (by kernel_rfl) rfl rfl trivial (fun hHeld=>?_);refine Zdo Za3.tab10 Za3.bits10 (fun HT_ HW_=>?_)
         generalize wr.drew=w41z at HO_4 HB hHeld ⊢
         refine pu 0 (some 25) #[true,false,false,false,false,false,false,false,false,false,false] (h:=?_)
         refine pu 3 (some 28) #[true,false,false,true,false,false,false,false,false,false,false] (h:=?_)
         refine pu 4 (some 29) #[true,false,false,true,true,false,false,false,false,false,false] (h:=?_)
         refine pu 5 (some 30) #[true,false,false,true,true,true,false,false,false,false,false] (h:=?_)
         refine one_ (i:=1) (N:=some 26) #[true,true,false,true,true,true,false,false,false,false,false] rfl rfl (Zc6 HT_.out (by kernel_rfl)) (by decide) (fun K hK=>?_)
         refine Kd.Zjl (Kd.int .u32) _ 85 ?hg (N:=26) ?hd (xs:=([1000000000]:List Int)) (inner:=[.int .u32 1000000000]) (ok:=fun _=>True) (okp:=fun _=>True) ?hr ?hp (fun _ hk=>hk) trivial (Below.refl _ _) (Nat.le_refl _) (by simp) ?_;(case hd=>rfl);(case hg=>rfl);(case hr=>first|(go_simp;done)|(go_simp;rfl));(case hp=>exact (Reps.one (show Kd.M (Kd.int .u32) _ _ _ 1000000000 [.int .u32 1000000000] from rfl) (Reps.none _ _)))
         intro v42z w43z ho44z hb hg_ hnew_
         clear hg_ hnew_
         (first|rw [<- Ny22z.out] at ho44z|(simp only [Int.reduceToNat] at ho44z;rw [<- Ny22z.out] at ho44z))
         have qa:=am (Kd.Zn (Kd.Zf ho44z (Kd.R_lt (Kd.Za HO_4.o pl))) (Zb pB))
         replace HO_4:=reR HO_4 ho44z hb
         replace HB:=bS hb
         clear hb ho44z
         obtain ⟨qe,qg,qm⟩:=Kd.Zh HO_4.o
         (first|subst qm|(injection qm with f1_ f2_ f3_;have f4_:=f1_.symm;have f5_:=f3_.symm;clear f1_ f2_ f3_;subst f4_;subst f5_))
         obtain ⟨qf,qh,qn⟩:=Kd.Zh qa.o
         (first|subst qn|(injection qn with f1_ f2_ f3_;have f4_:=f1_.symm;have f5_:=f3_.symm;clear f1_ f2_ f3_;subst f4_;subst f5_))
         refine hK.out _ _ trivial (fun hHeld=>?_)
         clear hK K
         refine norm_ (a':=?_) ?_ ?_
         rotate_left
         ·show Act.put _ (some 26) _=_
          exact pP
         refine one_ (i:=2) (N:=some 27) #[true,true,true,true,true,true,false,false,false,false,false] rfl rfl (Zc6 HT_.out (by kernel_rfl)) (by decide) (fun K hK=>?_)
         refine goes_ Tryz.func129 (by kernel_rfl) rfl #[.slice qe x11z.length qg,.slice qf y16z.length qh] (by rfl) rfl rfl pA ?_
         with_reducible refine (Zag.calls k1 _ _ x11z _ _ y16z t18z _ ?side1 ?side2 ?side3 ?side4 A23z.o).mono ?_
         (case side1=>exact Kd.Zi (Kd.Zc HO_4.o).2.2 pl)
         (case side2=>exact (Kd.Zc HO_4.o).2.1)
         (case side3=>exact Kd.Zi (Kd.Zc qa.o).2.2 pl)
         (case side4=>exact (Kd.Zc qa.o).2.1)
         rintro e w52z ⟨v53z,rfl,ho2z,hb⟩
         refine ⟨_,rfl,?_⟩
         have qb:=am (Kd.Zn (Kd.Zf (Kd.Zf ho2z (Kd.R_lt (Kd.Za HO_4.o pl))) (Kd.R_lt (Kd.Za qa.o pl))) (Zb pB))
         replace HO_4:=reR HO_4 ho2z hb
         replace qa:=reR qa ho2z hb
         replace HB:=bS hb
         refine hK.out _ _ trivial (fun hHeld=>?_)
         clear hK K
         refine norm_ (a':=?_) ?_ ?_
         rotate_left
         ·show Act.put _ (some 27) _=_
          exact pP
         refine one_ (i:=6) (N:=some 31) #[true,true,true,true,true,true,true,false,false,false,false] rfl rfl (Zc6 HT_.out (by kernel_rfl)) (by decide) (fun K hK=>?_)
         refine goes_ Tryz.func152 (by kernel_rfl) rfl #[.string (x10z.extract 0 ((ji24z):Int).toNat)] (by rfl) rfl rfl (by (try simp only [List.map_toArray,List.map_cons,List.map_nil]);first|done|(simp only [hji25z];rfl)|rfl|(simp only [List.length_drop,List.length_take];rfl)) ?_
         with_reducible refine (Zcj.calls k1 (x10z.extract 0 ((ji24z):Int).toNat) t19z _ A33z.o).mono ?_
         rintro e w55z ⟨rfl,hb⟩
         refine ⟨_,rfl,?_⟩
         replace HO_4:=rbl HO_4 hb
         replace qa:=rbl qa hb
         replace qb:=rbl qb hb
         replace HB:=bS hb
         refine hK.out _ _ trivial (fun hHeld=>?_)
         clear hK K
         refine norm_ (a':=?_) ?_ ?_
         rotate_left
         ·show Act.put _ (some 31) _=_
          exact pP
         refine one_ (i:=7) (N:=some 32) #[true,true,true,true,true,true,true,true,false,false,false] rfl rfl (Zc6 HT_.out (by kernel_rfl)) (by decide) (fun K hK=>?_)
         refine Kd.Zjl (Kd.int .u32) _ 85 ?hg (N:=32) ?hd (xs:=([t19z]:List Int)) (inner:=[.int .u32 t19z]) (ok:=fun _=>True) (okp:=fun _=>True) ?hr ?hp (fun _ hk=>hk) trivial (Below.refl _ _) (Nat.le_refl _) (by simp) ?_;(case hd=>rfl);(case hg=>rfl);(case hr=>first|(go_simp;done)|(go_simp;rfl));(case hp=>exact (Reps.one (show Kd.M (Kd.int .u32) _ _ _ t19z [.int .u32 t19z] from rfl) (Reps.none _ _)))
         intro v56z w57z ho58z hb hg_ hnew_
         clear hg_ hnew_
         (first|rw [<- Ny36z.out] at ho58z|(simp only [Int.reduceToNat] at ho58z;rw [<- Ny36z.out] at ho58z))
         have qj:=am (Kd.Zn (Kd.Zf (Kd.Zf (Kd.Zf ho58z (Kd.R_lt (Kd.Za HO_4.o pl))) (Kd.R_lt (Kd.Za qa.o pl))) (Kd.R_lt (Kd.Za qb.o pl))) (Zb pB))
         replace HO_4:=reR HO_4 ho58z hb
         replace qa:=reR qa ho58z hb
         replace qb:=reR qb ho58z hb
         replace HB:=bS hb
         clear hb ho58z
         obtain ⟨qi,qk,qo⟩:=Kd.Zh qj.o
         (first|subst qo|(injection qo with f1_ f2_ f3_;have f4_:=f1_.symm;have f5_:=f3_.symm;clear f1_ f2_ f3_;subst f4_;subst f5_))
         refine hK.out _ _ trivial (fun hHeld=>?_)
         clear hK K
         refine norm_ (a':=?_) ?_ ?_
         rotate_left
         ·show Act.put _ (some 32) _=_
          exact pP
         refine one_ (i:=8) (N:=some 33) #[true,true,true,true,true,true,true,true,true,false,false] rfl rfl (Zc6 HT_.out (by kernel_rfl)) (by decide) (fun K hK=>?_)
         refine goes_ Tryz.func132 (by kernel_rfl) rfl #[.slice qi y34z.length qk] (by rfl) rfl rfl pA ?_
         with_reducible refine (Zz.calls k1 (fun k_=>some k_=(.slice qi y34z.length qk:Value).ownBlock) (.slice qi y34z.length qk) y34z t20z w _ ?side1 ?side2 A37z.o).mono ?_
         (case side1=>exact pB)
         (case side2=>exact Kd.Zby rfl qj.o)
         rintro e w63z ⟨v64z,rfl,ho2z,hb,hkp⟩
         refine ⟨_,rfl,?_⟩
         have qc:=am (Kd.Zo (ok':=fun k_=>some k_ ≠ (.slice qe x11z.length qg:Value).ownBlock/\some k_ ≠ (.slice qf y16z.length qh:Value).ownBlock/\some k_ ≠ (v53z:Value).ownBlock) ho2z (fun k_ hk_=>⟨Or.elim hk_ (fun hs_=>fun e_=>(((HO_4.o).1 k_ e_.symm).2) hs_) (fun hn_=>(Kd.fresh' (Kd.R_lt (Kd.Za HO_4.o pl)) k_ hn_)),Or.elim hk_ (fun hs_=>fun e_=>(((qa.o).1 k_ e_.symm).2) hs_) (fun hn_=>(Kd.fresh' (Kd.R_lt (Kd.Za qa.o pl)) k_ hn_)),Or.elim hk_ (fun hs_=>fun e_=>(((qb.o).1 k_ e_.symm).2) hs_) (fun hn_=>(Kd.fresh' (Kd.R_lt (Kd.Za qb.o pl)) k_ hn_))⟩))
         replace HO_4:=am (Kd.Zo (ok':=fun k_=>some k_ ≠ (.slice qf y16z.length qh:Value).ownBlock/\some k_ ≠ (v53z:Value).ownBlock/\some k_ ≠ (v64z:Value).ownBlock) (Kd.Zcc (HO_4.o) hkp (fun k_ hk_ hs_=>(hk_.2) hs_)) (fun k_ hk_=>⟨hk_.1.1.1.2,hk_.1.1.2,fun e_=>Or.elim (ho2z.1 k_ e_.symm) (fun hs_=>hk_.2.1 hs_) (fun hn_=>Nat.not_le.2 hk_.2.2 hn_)⟩))
         replace qa:=am (Kd.Zo (ok':=fun k_=>some k_ ≠ (.slice qe x11z.length qg:Value).ownBlock/\some k_ ≠ (v53z:Value).ownBlock/\some k_ ≠ (v64z:Value).ownBlock) (Kd.Zcc (qa.o) hkp (fun k_ hk_ hs_=>(hk_.2) hs_)) (fun k_ hk_=>⟨hk_.1.1.1.2,hk_.1.1.2,fun e_=>Or.elim (ho2z.1 k_ e_.symm) (fun hs_=>hk_.2.1 hs_) (fun hn_=>Nat.not_le.2 hk_.2.2 hn_)⟩))
         replace qb:=am (Kd.Zo (ok':=fun k_=>some k_ ≠ (.slice qe x11z.length qg:Value).ownBlock/\some k_ ≠ (.slice qf y16z.length qh:Value).ownBlock/\some k_ ≠ (v64z:Value).ownBlock) (Kd.Zcc (qb.o) hkp (fun k_ hk_ hs_=>(hk_.2) hs_)) (fun k_ hk_=>⟨hk_.1.1.1.2,hk_.1.1.2,fun e_=>Or.elim (ho2z.1 k_ e_.symm) (fun hs_=>hk_.2.1 hs_) (fun hn_=>Nat.not_le.2 hk_.2.2 hn_)⟩))
         replace HB:=am hb
         clear qj
         obtain ⟨qr,qu,qp⟩:=Kd.Zh qb.o
         (first|subst qp|(injection qp with f1_ f2_ f3_;have f4_:=f1_.symm;have f5_:=f3_.symm;clear f1_ f2_ f3_;subst f4_;subst f5_))
         obtain ⟨qs,qv,qq⟩:=Kd.Zh qc.o
         (first|subst qq|(injection qq with f1_ f2_ f3_;have f4_:=f1_.symm;have f5_:=f3_.symm;clear f1_ f2_ f3_;subst f4_;subst f5_))
         refine hK.out _ _ trivial (fun hHeld=>?_)
         clear hK K
         refine norm_ (a':=?_) ?_ ?_
         rotate_left
         ·show Act.put _ (some 33) _=_
          exact pP
         refine one_ (i:=9) (N:=some 34) #[true,true,true,true,true,true,true,true,true,true,false] rfl rfl (Zc6 HT_.out (by kernel_rfl)) (by decide) (fun K hK=>?_)
         refine goes_ Tryz.func131 (by kernel_rfl) rfl #[.slice qr t18z.length qu,.slice qs t20z.length qv] (by rfl) rfl rfl pA ?_
         with_reducible refine (Zaf.calls k1 _ _ t18z _ _ t20z t21z _ ?side1 ?side2 ?side3 ?side4 A38z.o).mono ?_
         (case side1=>exact Kd.Zi (Kd.Zc qb.o).2.2 pl)
         (case side2=>exact (Kd.Zc qb.o).2.1)
         (case side3=>exact Kd.Zi (Kd.Zc qc.o).2.2 pl)
         (case side4=>exact (Kd.Zc qc.o).2.1)
         rintro e w72z ⟨v73z,rfl,ho2z,hb⟩
         refine ⟨_,rfl,?_⟩
         have qt:=am (Kd.Zn (Kd.Zf (Kd.Zf (Kd.Zf (Kd.Zf ho2z (Kd.R_lt (Kd.Za HO_4.o pl))) (Kd.R_lt (Kd.Za qa.o pl))) (Kd.R_lt (Kd.Za qb.o pl))) (Kd.R_lt (Kd.Za qc.o pl))) (Zb pB))
         replace HO_4:=reR HO_4 ho2z hb
         replace qa:=reR qa ho2z hb
         replace qb:=reR qb ho2z hb
         replace qc:=reR qc ho2z hb
         replace HB:=bS hb
         refine hK.out _ _ trivial (fun hHeld=>?_)
         clear hK K
         refine norm_ (a':=?_) ?_ ?_
         rotate_left
         ·show Act.put _ (some 34) _=_
          exact pP
         refine pu 10 (some 4) #[true,true,true,true,true,true,true,true,true,true,true] (h:=?_)
         refine done_ (Zex HT_.out (by kernel_rfl)) ?_
         try go_wp2
         go_roundg k1
         case measure=>exact pM
         case rel=>exact ⟨(x10z.extract ((ji24z):Int).toNat x10z.size),(t21z),(by first|rfl|(simp;done)|(simp only [<- hji25z] <;> (first|rfl|simp))|(simp [*];done)),(by first|exact H'|(have H_:=H'.out;simp only [<- hji25z] at H_;exact ⟨H_⟩)|(refine ⟨?_⟩;have H_:=H'.out;simp only [<- hji25z] at H_ ⊢;exact H_)),pJ,⟨by refine rp ?_;exact Kd.Zo qt.o (fun _ hk=>trivial)⟩,⟨pB⟩⟩
        ·rw [if_neg c30z] at H
         cases H
       ·rw [if_neg c27z] at H
        cases H
  | go_ret2
    exact ⟨_,pE,pN,pB⟩):P:=h
theorem Za3.calls (k:Nat) (a0:ByteArray) (r1:List Int) (r2:Int) (w:World) (h:Za3.f k a0=some (r1,r2)) :
  Calls Tryz.prog 116 #[.string a0] w fun e w' => ∃ v0_:Value,e=.returned (.tuple #[v0_,.int .i64 r2])/\Kd.R (Kd.int .u32) 85 w' w.heap.size (fun _=>True) v0_ r1/\Below w.heap.size w w':=by
 have HB:=am (Below.refl w.heap.size w)
 have H:(if (a0.size:Int)=0 then (some (([]:List Int),8)) else (if (a0.size:Int) > 2400 then (some (([]:List Int),5)) else ((Zcd.f a0).bind fun qd=>((Zb4.f qd).bind fun ql=>(if ql=true then (some (([]:List Int),32)) else (Za3.l0 k a0 ([]:List Int)))))))=some (r1,r2):=h
 clear h
 replace H:=eI H
 rcases H with ⟨c2b0,c2b1,H⟩|⟨c2,c2b0,c2b1,H⟩
 ·simp only [Option.some.injEq,Prod.mk.injEq] at H
  obtain ⟨rfl,rfl⟩:=H
  exact Za3.leaf
 ·by_cases c3:(a0.size:Int) > 2400
  ·rw [if_pos c3] at H
   have c3b0:decide (2400 < (a0.size:Int))=true:=decide_eq_true c3
   have c3b1:decide (2400 < a0.size)=true:=decide_eq_true (by omega)
   clear c3
   simp only [Option.some.injEq,Prod.mk.injEq] at H
   obtain ⟨rfl,rfl⟩:=H
   exact Za3.leaf
  ·rw [if_neg c3] at H
   have c3b0:decide (2400 < (a0.size:Int))=false:=decide_eq_false c3
   have c3b1:decide (2400 < a0.size)=false:=decide_eq_false (by omega)
   clear c3
   replace H:=ob H
   obtain ⟨qd,A4,H⟩:=H
   replace H:=ob H
   obtain ⟨ql,A5,H⟩:=H
   replace H:=tI (t:=ql) H
   rcases H with ⟨rfl,H⟩|⟨rfl,H⟩
   ·simp only [Option.some.injEq,Prod.mk.injEq] at H
    obtain ⟨rfl,rfl⟩:=H
    exact Za3.leaf
   ·have H':=am H
    clear H
    exact Za3.leaf
end YtjbjkmccfocikaaGreatDoor.B
end
section
namespace YtjbjkmccfocikaaGreatDoor.B
open Go.RowKit Go.Shelf YtjbjkmccfocikaaGreatDoorW.PrintWords
def Zca.f (s t:ByteArray):Option ByteArray:=if t=⟨#[48]⟩/\s.size<=9223372036854775807 then some ⟨(Lib.trimRightB s.data.toList 48).toArray⟩ else none
theorem Zca.calls (a0 a1:ByteArray) (r:ByteArray) (w:World) (h:Zca.f a0 a1=some r) :
  Calls Tryz.prog 167 #[.string a0,.string a1] w fun e w'=>e=.returned (.string r)/\Below w.heap.size w w':=by
 unfold Zca.f at h
 split at h
 ·rename_i hh
  obtain ⟨rfl,hs⟩:=hh
  obtain rfl:=Option.some.inj h
  exact (Tryz.strings_TrimRight_one a0 48 (by decide) w hs).mono fun e w' ⟨he,hw⟩=>⟨he,by subst hw;exact Below.refl _ _⟩
 ·cases h
end YtjbjkmccfocikaaGreatDoor.B
end
section
namespace YtjbjkmccfocikaaGreatDoor.B
open Go.RowKit YtjbjkmccfocikaaGreatDoorW.PrintWords YtjbjkmccfocikaaGreatDoorW.PrintLast YtjbjkmccfocikaaGreatDoorW.PrintMore
attribute [local go_sem] Zch Zci Zc9 Zda Zb1 Zb2 Zcp Zcq
def Zbw.f (k:Nat) (a0_0:Bool) (l0_1:List Int) (a0_2:Int):Option (Bool × List Int × Int):=(Zax.f k l0_1).bind fun qg=>((Zfr.f qg.1 qg.2).bind fun qb=>((Zca.f qb (⟨#[48]⟩:ByteArray)).bind fun qc=>(if (qc.size:Int)=(qb.size:Int) then (some (a0_0,l0_1,a0_2)) else ((Za3.f k qc).bind fun qh=>((Zgs.f qh.1 qh.2).bind fun qf=>(some (a0_0,qf,wrap64 (a0_2+(wrap64 ((qb.size:Int) - (qc.size:Int)))))))))))
theorem Zbw.leaf {P:Prop} (h:P:=by
 obtain ⟨Ao0z,co1z,eo2z⟩:=Kd.Zh HO0_1.o
 subst eo2z
 go_enter Tryz.func140,Tryz.ntmps140
 go_wp2_with (first|((with_reducible refine gd 1 ?_);refine bx 1 #[.bool a0_0,.slice Ao0z l0_1.length co1z,.int .i64 a0_2] 106 (h:=?_);intro gb3z hg w4z hbox hb;have BK5z:=am hbox;have GW6z:=am ((by rw [hg];exact (by first|exact HK.out.1|exact (show Kept w _ (fun k_=>P0_1_ k_) from by repeat (first|(with_reducible first|exact HK.out|apply Kept.alloc|apply Kept.drewN|apply Kept.drew)|exact HK.out)).1):w.heap.size<=gb3z));have GE7z:=am ((gw hg pB:w0.heap.size<=gb3z));replace HO0_1:=rbl HO0_1 hb;replace HK:=am (Kept.below (S:=(fun k_=>P0_1_ k_)) (by repeat (first|(with_reducible first|exact HK.out|apply Kept.alloc|apply Kept.drewN|apply Kept.drew)|exact HK.out)) hb);replace HB:=bS hb;clear hb hbox hg)|((with_reducible refine gd 2 ?_);refine bx 2 #[.bool false,.slice none 0 0,.int .i64 0] 106 (h:=?_);intro gb8z hg w9z hbox hb;have qa:=am hbox;have qd:=am ((by rw [hg];exact (by first|exact HK.out.1|exact (show Kept w _ (fun k_=>P0_1_ k_) from by repeat (first|(with_reducible first|exact HK.out|apply Kept.alloc|apply Kept.drewN|apply Kept.drew|refine Kept.setCell ?_ (.inr GW6z.o) _)|exact HK.out)).1):w.heap.size<=gb8z));have qx:=am ((gw hg pB:w0.heap.size<=gb8z));have qs:=nL hg BK5z;have ql:=nG hg BK5z;replace HO0_1:=rbl HO0_1 hb;replace BK5z:=bb BK5z hb;replace HK:=am (Kept.below (S:=(fun k_=>P0_1_ k_)) (by repeat (first|(with_reducible first|exact HK.out|apply Kept.alloc|apply Kept.drewN|apply Kept.drew|refine Kept.setCell ?_ (.inr GW6z.o) _)|exact HK.out)) hb);replace HB:=bS hb;clear hb hbox hg;have qv:=qs.o;have qw:=ql.o;obtain ⟨_,_,_,_,_,_⟩:=cEc BK5z.o)|(refine gL (some 8) Tryz.func112 #[.slice Ao0z l0_1.length co1z] (h:=?_);(with_reducible refine (Zax.calls k (fun k_=>some k_=(.slice Ao0z l0_1.length co1z:Value).ownBlock) _ _ l0_1 qp qq _ ?side1 A2.o).mono ?_);(case side1=>exact Kd.R_V (Kd.Zby rfl (Kd.Zba (Kd.Zba (HO0_1.o) BK5z.o (by decide)) qa.o (by decide))));rintro e w23z ⟨rfl,hb⟩;refine ⟨_,rfl,?_⟩;replace HO0_1:=rbl HO0_1 hb;replace BK5z:=bb BK5z hb;replace qa:=bb qa hb;replace HK:=am (Kept.below (S:=(fun k_=>P0_1_ k_)) (by repeat (first|(with_reducible first|exact HK.out|apply Kept.alloc|apply Kept.drewN|apply Kept.drew|refine Kept.setCell ?_ (.inr GW6z.o) _|refine Kept.setCell ?_ (.inr qd.o) _)|exact HK.out)) hb);replace HB:=bS hb)|(refine gL (some 11) Tryz.func111 #[.string qp,.int .i64 qq] (h:=?_);(with_reducible refine (Zfr.calls qp qq qb _ A3.o).mono ?_);rintro e w' ⟨rfl,⟨nd,rfl⟩⟩;refine ⟨_,rfl,?_⟩;(try (rw [Zhy w23z];generalize hq_:World.drewN w23z _=w23z;replace HO0_1:Aside0 (Kd.R (Kd.int .u32) 85 w23z w0.heap.size (fun k_=>(P0_1_ k_\/w.heap.size<=k_)) (.slice Ao0z l0_1.length co1z) l0_1):=⟨by rw [<- hq_];exact (Kd.Za HO0_1.o pl)⟩;replace BK5z:Aside0 (w23z.heap[gb3z]? = some (.cells #[.bool a0_0,.slice Ao0z l0_1.length co1z,.int .i64 a0_2] 106 (0,0))):=⟨by rw [<- hq_];exact (Zg BK5z.o pl)⟩;replace qa:Aside0 (w23z.heap[gb8z]? = some (.cells #[.bool false,.slice none 0 0,.int .i64 0] 106 (0,0))):=⟨by rw [<- hq_];exact (Zg qa.o pl)⟩;replace HK:Aside0 (Kept w w23z (fun k_=>P0_1_ k_)):=⟨by rw [<- hq_];exact (by repeat (first|(with_reducible first|exact HK.out|apply Kept.alloc|apply Kept.drewN|apply Kept.drew|refine Kept.setCell ?_ (.inr GW6z.o) _|refine Kept.setCell ?_ (.inr qd.o) _)|exact HK.out))⟩;replace HB:Aside0 (Below w0.heap.size w0 w23z):=⟨by rw [<- hq_];exact pB⟩;clear hq_)))|((have q_:=A16;clear q_);refine gL (some 13) Tryz.func167 #[.string qb,.string (⟨#[48]⟩:ByteArray)] (h:=?_);(with_reducible refine (Zca.calls qb (⟨#[48]⟩:ByteArray) qc _ A4.o).mono ?_);rintro e w24z ⟨rfl,hb⟩;refine ⟨_,rfl,?_⟩;replace HO0_1:=rbl HO0_1 hb;replace BK5z:=bb BK5z hb;replace qa:=bb qa hb;replace HK:=am (Kept.below (S:=(fun k_=>P0_1_ k_)) (by repeat (first|(with_reducible first|exact HK.out|apply Kept.alloc|apply Kept.drewN|apply Kept.drew|refine Kept.setCell ?_ (.inr GW6z.o) _|refine Kept.setCell ?_ (.inr qd.o) _)|exact HK.out)) hb);replace HB:=bS hb)|(refine gL (some 21) Tryz.func116 #[.string qc] (h:=?_);(with_reducible refine (Za3.calls k qc qn qr _ A15.o).mono ?_);rintro e w25z ⟨v26z,rfl,ho27z,hb⟩;refine ⟨_,rfl,?_⟩;have qe:=am (Kd.Zn (Kd.Zf (Kd.Zd4 (M:=fun k_=>(P0_1_ k_\/w.heap.size<=k_)) ho27z (by first|exact HK.out.1|exact (show Kept w _ (fun k_=>P0_1_ k_) from by repeat (first|(with_reducible first|exact HK.out|apply Kept.alloc|apply Kept.drewN|apply Kept.drew|refine Kept.setCell ?_ (.inr GW6z.o) _|refine Kept.setCell ?_ (.inr qd.o) _)|exact HK.out)).1) (fun k_ h_=>.inr h_)) (Kd.R_lt (Kd.Za HO0_1.o pl))) (Zb pB));replace HO0_1:=reR HO0_1 ho27z hb;replace BK5z:=bb BK5z hb;replace qa:=bb qa hb;replace HK:=am (Kept.below (S:=(fun k_=>P0_1_ k_)) (by repeat (first|(with_reducible first|exact HK.out|apply Kept.alloc|apply Kept.drewN|apply Kept.drew|refine Kept.setCell ?_ (.inr GW6z.o) _|refine Kept.setCell ?_ (.inr qd.o) _)|exact HK.out)) hb);replace HB:=bS hb;obtain ⟨qk,qm,qt⟩:=Kd.Zh qe.o;subst qt)|(refine gL (some 24) Tryz.func105 #[.slice qk qn.length qm,.int .i64 qr] (h:=?_);(with_reducible refine (Zgs.calls (fun k_=>some k_=(.slice qk qn.length qm:Value).ownBlock) (.slice qk qn.length qm) qn qr qf w0 _ ?side1 ?side2 A16.o).mono ?_);(case side1=>exact pB);(case side2=>exact Kd.Zby rfl qe.o);rintro e w32z ⟨v33z,rfl,ho27z,hb,hkp⟩;refine ⟨_,rfl,?_⟩;have qo:=am (Kd.Zo (ok':=fun k_=>(P0_1_ k_\/w.heap.size<=k_)/\some k_ ≠ (.slice Ao0z l0_1.length co1z:Value).ownBlock) ho27z (fun k_ hk_=>⟨Or.elim hk_ (fun hs_=>(qe.o.1 k_ (hs_).symm).1.1) (fun hn_=>(.inr (Nat.le_trans (by first|exact HK.out.1|exact (show Kept w _ (fun k_=>P0_1_ k_) from by repeat (first|(with_reducible first|exact HK.out|apply Kept.alloc|apply Kept.drewN|apply Kept.drew|refine Kept.setCell ?_ (.inr GW6z.o) _|refine Kept.setCell ?_ (.inr qd.o) _)|exact HK.out)).1) hn_))),Or.elim hk_ (fun hs_=>fun e_=>(((HO0_1.o).1 k_ e_.symm).2) hs_) (fun hn_=>(Kd.fresh' (Kd.R_lt (Kd.Za HO0_1.o pl)) k_ hn_))⟩));replace HO0_1:=am (Kd.Zo (ok':=fun k_=>(P0_1_ k_\/w.heap.size<=k_)/\some k_ ≠ (v33z:Value).ownBlock) (Kd.Zcc (HO0_1.o) hkp (fun k_ hk_ hs_=>(hk_.2) hs_)) (fun k_ hk_=>⟨hk_.1.1,fun e_=>Or.elim (ho27z.1 k_ e_.symm) (fun hs_=>hk_.2.1 hs_) (fun hn_=>Nat.not_le.2 hk_.2.2 hn_)⟩));replace BK5z:=am (Zc8 (Zg BK5z.o pl) hkp (fun e_=>Kd.R_ne qe.o BK5z.o (by decide) e_));replace qa:=am (Zc8 (Zg qa.o pl) hkp (fun e_=>Kd.R_ne qe.o qa.o (by decide) e_));replace HK:=am (Kept.then_ (S:=(fun k_=>P0_1_ k_)) (by repeat (first|(with_reducible first|exact HK.out|apply Kept.alloc|apply Kept.drewN|apply Kept.drew|refine Kept.setCell ?_ (.inr GW6z.o) _|refine Kept.setCell ?_ (.inr qd.o) _)|exact HK.out)) hkp (fun k_ hs_=>(fun e_=>(qe.o.1 k_ e_.symm).1.1) hs_));replace HB:=am hb;clear qe;obtain ⟨qi,qj,qu⟩:=Kd.Zh qo.o;subst qu;obtain ⟨_,_,_,_,_,_⟩:=cEc BK5z.o;obtain ⟨_,_,_,_,_,_⟩:=cEc qa.o)|((have q_:(qc.size == qb.size)=true:=c5b2;clear q_);refine gL (some 13) Tryz.func167 #[.string qb,.string (⟨#[48]⟩:ByteArray)] (h:=?_);(with_reducible refine (Zca.calls qb (⟨#[48]⟩:ByteArray) qc _ A4.o).mono ?_);rintro e w24z ⟨rfl,hb⟩;refine ⟨_,rfl,?_⟩;replace HO0_1:=rbl HO0_1 hb;replace BK5z:=bb BK5z hb;replace qa:=bb qa hb;replace HK:=am (Kept.below (S:=(fun k_=>P0_1_ k_)) (by repeat (first|(with_reducible first|exact HK.out|apply Kept.alloc|apply Kept.drewN|apply Kept.drew|refine Kept.setCell ?_ (.inr GW6z.o) _|refine Kept.setCell ?_ (.inr qd.o) _)|exact HK.out)) hb);replace HB:=bS hb;obtain ⟨_,_,_,_,_,_⟩:=cEc BK5z.o;obtain ⟨_,_,_,_,_,_⟩:=cEc qa.o))
 first
  | have q_:=A16
    refine bodyPost_ret (results_cell_row rfl _ _ gb8z 106 #[.bool a0_0,.slice qi qf.length qj,.int .i64 (wrap64 (a0_2+(wrap64 ((qb.size:Int) - (qc.size:Int)))))] (0,0) _ rfl (by refine bp ?_;refine Zd7 (cs:=#[.bool a0_0,.slice qi qf.length qj,.int .i64 0]) ?_ 2 _ rfl;refine bp ?_;refine Zd7 (cs:=#[.bool a0_0,.slice none 0 0,.int .i64 0]) ?_ 1 _ rfl;refine bp ?_;refine Zd7 (cs:=#[.bool false,.slice none 0 0,.int .i64 0]) ?_ 0 _ rfl;refine bq ?_ ql;refine bq ?_ ql;exact bp qa.o) Tryz.underlying106 rfl (by kernel_rfl)) rfl ?_
    exact ⟨_,pE,by refine rp ?_;exact Kd.Zo (Kd.Zau (p:=⟨gb8z,2,none⟩) (Kd.Zau (p:=⟨gb8z,1,none⟩) (Kd.Zau (p:=⟨gb8z,0,none⟩) (Kd.Zau (p:=⟨gb3z,2,none⟩) (Kd.Zau (p:=⟨gb3z,1,none⟩) (Kd.Zba (Kd.Zba qo.o BK5z.o (by decide)) qa.o (by decide)) (fun _ hk=>hk.1.2) (.slice qi qf.length qj)) (fun _ hk=>hk.1.2) (.int .i64 (wrap64 (a0_2+(wrap64 ((qb.size:Int) - (qc.size:Int))))))) (fun _ hk=>hk.2) (.bool a0_0)) (fun _ hk=>hk.2) (.slice qi qf.length qj)) (fun _ hk=>hk.2) (.int .i64 (wrap64 (a0_2+(wrap64 ((qb.size:Int) - (qc.size:Int))))))) (fun _ hk=>hk.1.1.1),pB,by repeat (first|(with_reducible first|exact HK.out|apply Kept.alloc|apply Kept.drewN|apply Kept.drew|refine Kept.setCell ?_ (.inr GW6z.o) _|refine Kept.setCell ?_ (.inr qd.o) _)|exact HK.out)⟩
  | refine bodyPost_ret (results_cell_row rfl _ _ gb8z 106 #[.bool a0_0,.slice Ao0z l0_1.length co1z,.int .i64 a0_2] (0,0) _ rfl (by exact p3 qa) Tryz.underlying106 rfl (by kernel_rfl)) rfl ?_
    exact ⟨_,pE,by refine rp ?_;exact Kd.Zo (Kd.Zau (p:=⟨gb8z,2,none⟩) (Kd.Zau (p:=⟨gb8z,1,none⟩) (Kd.Zau (p:=⟨gb8z,0,none⟩) (Kd.Zba HO0_1.o qa.o (by decide)) (fun _ hk=>hk.2) (.bool a0_0)) (fun _ hk=>hk.2) (.slice Ao0z l0_1.length co1z)) (fun _ hk=>hk.2) (.int .i64 a0_2)) (fun _ hk=>hk.1),pB,by repeat (first|(with_reducible first|exact HK.out|apply Kept.alloc|apply Kept.drewN|apply Kept.drew|refine Kept.setCell ?_ (.inr GW6z.o) _|refine Kept.setCell ?_ (.inr qd.o) _)|exact HK.out)⟩):P:=h
theorem Zbw.calls (k:Nat) (a0_0:Bool) (P0_1_:Nat->Prop) (u9000_:Value) (l0_1:List Int) (a0_2:Int) (r1:Bool) (r2:List Int) (r3:Int) (w0 w:World) (hB:Below w0.heap.size w0 w) (ho0_1:Kd.R (Kd.int .u32) 85 w w0.heap.size P0_1_ u9000_ l0_1) (h:Zbw.f k a0_0 l0_1 a0_2=some (r1,r2,r3)) :
  Calls Tryz.prog 140 #[.agg #[.bool a0_0,u9000_,.int .i64 a0_2]] w fun e w' => ∃ v1_:Value,e=.returned (.agg #[.bool r1,v1_,.int .i64 r3])/\Kd.R (Kd.int .u32) 85 w' w0.heap.size (fun k_=>(P0_1_ k_\/w.heap.size<=k_)) v1_ r2/\Below w0.heap.size w0 w'/\Kept w w' (fun k_=>P0_1_ k_):=by
 have qy:=Tryz.underlying106
 have HO0_1:=am (show Kd.R (Kd.int .u32) 85 w w0.heap.size (fun k_=>(P0_1_ k_\/w.heap.size<=k_)) u9000_ l0_1 from Kd.Zo ho0_1 (fun k_ hk=>(.inl hk)))
 have HK:=am (Kept.refl w (fun k_=>P0_1_ k_))
 have HW0:=am hB.size
 have HB:=am hB
 clear hB
 have H:((Zax.f k l0_1).bind fun qg=>((Zfr.f qg.1 qg.2).bind fun qb=>((Zca.f qb (⟨#[48]⟩:ByteArray)).bind fun qc=>(if (qc.size:Int)=(qb.size:Int) then (some (a0_0,l0_1,a0_2)) else ((Za3.f k qc).bind fun qh=>((Zgs.f qh.1 qh.2).bind fun qf=>(some (a0_0,qf,wrap64 (a0_2+(wrap64 ((qb.size:Int) - (qc.size:Int))))))))))))=some (r1,r2,r3):=h
 clear h
 obtain ⟨⟨qp,qq⟩,A2,H⟩:=ob H;(try dsimp only at H)
 obtain ⟨qb,A3,H⟩:=ob H
 obtain ⟨qc,A4,H⟩:=ob H
 by_cases c5:(qc.size:Int)=(qb.size:Int)
 ·rw [if_pos c5] at H
  have c5b0:((qc.size:Int) == (qb.size:Int))=true:=beq_iff_eq.mpr c5
  have c5b1:((qc.size:Int) != (qb.size:Int))=false:=bne_eq_false_iff_eq.mpr c5
  have c5b2:(qc.size == qb.size)=true:=by first|simpa using c5|(simp at c5 ⊢;omega)
  clear c5
  simp only [Option.some.injEq,Prod.mk.injEq] at H
  obtain ⟨rfl,rfl,rfl⟩:=H
  exact Zbw.leaf
 ·rw [if_neg c5] at H
  have c5b0:((qc.size:Int) == (qb.size:Int))=false:=beq_eq_false_iff_ne.mpr c5
  have c5b1:((qc.size:Int) != (qb.size:Int))=true:=bne_iff_ne.mpr c5
  have c5b2:(qc.size == qb.size)=false:=by first|simpa using c5|(simp at c5 ⊢;omega)
  obtain ⟨⟨qn,qr⟩,A15,H⟩:=ob H;(try dsimp only at H)
  obtain ⟨qf,A16,H⟩:=ob H
  simp only [Option.some.injEq,Prod.mk.injEq] at H
  obtain ⟨rfl,rfl,rfl⟩:=H
  exact Zbw.leaf
def Zdc.f (k:Nat) (a0_0:Bool) (l0_1:List Int) (a0_2:Int):Option (Bool × List Int × Int × Int):=(Zcu.f a0_0 l0_1 a0_2).bind fun ql=>(if ql=true then (some (false,([]:List Int),0,0)) else ((Zbw.f k a0_0 l0_1 a0_2).bind fun qb=>((Zc1.f k qb.2.1).bind fun qj=>(if qj > 300 then (some (false,([]:List Int),0,51)) else (if qb.2.2 < (-1000) then (some (false,([]:List Int),0,52)) else (if qb.2.2 > 1000 then (some (false,([]:List Int),0,52)) else (some (qb.1,qb.2.1,qb.2.2,0))))))))
theorem Zdc.leaf {P:Prop} (h:P:=by
 obtain ⟨Ao0z,co1z,eo2z⟩:=Kd.Zh HO0_1.o
 subst eo2z
 go_enter Tryz.func100,Tryz.ntmps100
 go_wp2_with (first|((with_reducible refine gd 1 ?_);refine bx 1 #[.bool a0_0,.slice Ao0z l0_1.length co1z,.int .i64 a0_2] 106 (h:=?_);intro gb3z hg w4z hbox hb;have BK5z:=am hbox;have GW6z:=am ((by rw [hg];exact (by first|exact HK.out.1|exact (show Kept w _ (fun k_=>P0_1_ k_) from by repeat (first|(with_reducible first|exact HK.out|apply Kept.alloc|apply Kept.drewN|apply Kept.drew)|exact HK.out)).1):w.heap.size<=gb3z));have GE7z:=am ((gw hg pB:w0.heap.size<=gb3z));replace HO0_1:=rbl HO0_1 hb;replace HK:=am (Kept.below (S:=(fun k_=>P0_1_ k_)) (by repeat (first|(with_reducible first|exact HK.out|apply Kept.alloc|apply Kept.drewN|apply Kept.drew)|exact HK.out)) hb);replace HB:=bS hb;clear hb hbox hg)|((with_reducible refine gd 2 ?_);refine bx 2 #[.bool false,.slice none 0 0,.int .i64 0] 24 (h:=?_);intro gb8z hg w9z hbox hb;have qa:=am hbox;have qg:=am ((by rw [hg];exact (by first|exact HK.out.1|exact (show Kept w _ (fun k_=>P0_1_ k_) from by repeat (first|(with_reducible first|exact HK.out|apply Kept.alloc|apply Kept.drewN|apply Kept.drew|refine Kept.setCell ?_ (.inr GW6z.o) _)|exact HK.out)).1):w.heap.size<=gb8z));have q2:=am ((gw hg pB:w0.heap.size<=gb8z));have qy:=nL hg BK5z;have qk:=nG hg BK5z;replace HO0_1:=rbl HO0_1 hb;replace BK5z:=bb BK5z hb;replace HK:=am (Kept.below (S:=(fun k_=>P0_1_ k_)) (by repeat (first|(with_reducible first|exact HK.out|apply Kept.alloc|apply Kept.drewN|apply Kept.drew|refine Kept.setCell ?_ (.inr GW6z.o) _)|exact HK.out)) hb);replace HB:=bS hb;clear hb hbox hg;have q0:=qy.o;have q1:=qk.o;obtain ⟨_,_,_,_,_,_⟩:=cEc BK5z.o)|(refine gL (some 5) Tryz.func104 #[.agg #[.bool a0_0,.slice Ao0z l0_1.length co1z,.int .i64 a0_2]] (h:=?_);(with_reducible refine (Zcu.calls a0_0 _ _ l0_1 a0_2 false _ ?side1 ?side2 A2.o).mono ?_);(case side1=>exact Kd.Zi (Kd.Zc HO0_1.o).2.2 pl);(case side2=>exact (Kd.Zc HO0_1.o).2.1);rintro e w23z ⟨rfl,hb⟩;refine ⟨_,rfl,?_⟩;replace HO0_1:=rbl HO0_1 hb;replace BK5z:=bb BK5z hb;replace qa:=bb qa hb;replace HK:=am (Kept.below (S:=(fun k_=>P0_1_ k_)) (by repeat (first|(with_reducible first|exact HK.out|apply Kept.alloc|apply Kept.drewN|apply Kept.drew|refine Kept.setCell ?_ (.inr GW6z.o) _|refine Kept.setCell ?_ (.inr qg.o) _)|exact HK.out)) hb);replace HB:=bS hb;obtain ⟨qm,qn,qo,qs,qt,qu⟩:=cEc BK5z.o)|(refine gL (some 8) Tryz.func140 #[.agg #[.bool a0_0,.slice Ao0z l0_1.length co1z,.int .i64 a0_2]] (h:=?_);(with_reducible refine (Zbw.calls k a0_0 (fun k_=>some k_=(.slice Ao0z l0_1.length co1z:Value).ownBlock) (.slice Ao0z l0_1.length co1z) l0_1 a0_2 qi qf qh w0 _ ?side1 ?side2 A11.o).mono ?_);(case side1=>exact pB);(case side2=>exact Kd.Zby rfl HO0_1.o);rintro e w30z ⟨v31z,rfl,ho32z,hb,hkp⟩;refine ⟨_,rfl,?_⟩;have qe:=am (Kd.Zo (ok':=fun k_=>(P0_1_ k_\/w.heap.size<=k_)) ho32z (fun k_ hk_=>Or.elim hk_ (fun hs_=>(HO0_1.o.1 k_ (hs_).symm)) (fun hn_=>(.inr (Nat.le_trans (by first|exact HK.out.1|exact (show Kept w _ (fun k_=>P0_1_ k_) from by repeat (first|(with_reducible first|exact HK.out|apply Kept.alloc|apply Kept.drewN|apply Kept.drew|refine Kept.setCell ?_ (.inr GW6z.o) _|refine Kept.setCell ?_ (.inr qg.o) _)|exact HK.out)).1) hn_)))));replace BK5z:=am (Zc8 (Zg BK5z.o pl) hkp (fun e_=>Kd.R_ne HO0_1.o BK5z.o (by decide) e_));replace qa:=am (Zc8 (Zg qa.o pl) hkp (fun e_=>Kd.R_ne HO0_1.o qa.o (by decide) e_));replace HK:=am (Kept.then_ (S:=(fun k_=>P0_1_ k_)) (by repeat (first|(with_reducible first|exact HK.out|apply Kept.alloc|apply Kept.drewN|apply Kept.drew|refine Kept.setCell ?_ (.inr GW6z.o) _|refine Kept.setCell ?_ (.inr qg.o) _)|exact HK.out)) hkp (fun k_ hs_=>(fun e_=>(HO0_1.o.1 k_ e_.symm)) hs_));replace HB:=am hb;clear HO0_1;obtain ⟨_,_,_,_,_,_⟩:=cEc BK5z.o;obtain ⟨qd,qc,qz⟩:=Kd.Zh qe.o;subst qz)|((have q_:decide (300 < qj)=true:=c13b0;clear q_);refine gL (some 13) Tryz.func110 #[.slice qd qf.length qc] (h:=?_);(with_reducible refine (Zc1.calls k _ _ qf qj _ ?side1 ?side2 A12.o).mono ?_);(case side1=>refine (Kd.Zc (e:=85) (base:=w0.heap.size) (ok:=fun k_=>(P0_1_ k_\/w.heap.size<=k_)) (n:=qf.length) (c:=qc) ?_).2.2;exact (Kd.Za (z3 qe.o BK5z.o (by decide) (.bool qi) (.slice qd qf.length qc) (.int .i64 qh)) pl));(case side2=>exact (Kd.Zc qe.o).2.1);rintro e w43z ⟨rfl,hb⟩;refine ⟨_,rfl,?_⟩;replace qe:=am (Kd.Za (Kd.Za (z3 qe.o BK5z.o (by decide) (.bool qi) (.slice qd qf.length qc) (.int .i64 qh)) pl) hb);replace BK5z:=am (Zg (g:=gb3z) (o:=.cells #[.bool qi,.slice qd qf.length qc,.int .i64 qh] 106 (0,0)) (by exact p3 BK5z) hb);replace qa:=bfb qk qa hb;replace HK:=am (Kept.below (S:=(fun k_=>P0_1_ k_)) (by repeat (first|(with_reducible first|exact HK.out|apply Kept.alloc|apply Kept.drewN|apply Kept.drew|refine Kept.setCell ?_ (.inr GW6z.o) _|refine Kept.setCell ?_ (.inr qg.o) _)|exact HK.out)) hb);replace HB:=bS hb;obtain ⟨qp,qq,qr,qv,qw,qx⟩:=cEc qa.o)|((have q_:decide (300 < qj)=false:=c13b0;clear q_);refine gL (some 13) Tryz.func110 #[.slice qd qf.length qc] (h:=?_);(with_reducible refine (Zc1.calls k _ _ qf qj _ ?side1 ?side2 A12.o).mono ?_);(case side1=>refine (Kd.Zc (e:=85) (base:=w0.heap.size) (ok:=fun k_=>(P0_1_ k_\/w.heap.size<=k_)) (n:=qf.length) (c:=qc) ?_).2.2;exact (Kd.Za (z3 qe.o BK5z.o (by decide) (.bool qi) (.slice qd qf.length qc) (.int .i64 qh)) pl));(case side2=>exact (Kd.Zc qe.o).2.1);rintro e w43z ⟨rfl,hb⟩;refine ⟨_,rfl,?_⟩;replace qe:=am (Kd.Za (Kd.Za (z3 qe.o BK5z.o (by decide) (.bool qi) (.slice qd qf.length qc) (.int .i64 qh)) pl) hb);replace BK5z:=am (Zg (g:=gb3z) (o:=.cells #[.bool qi,.slice qd qf.length qc,.int .i64 qh] 106 (0,0)) (by exact p3 BK5z) hb);replace qa:=bfb qk qa hb;replace HK:=am (Kept.below (S:=(fun k_=>P0_1_ k_)) (by repeat (first|(with_reducible first|exact HK.out|apply Kept.alloc|apply Kept.drewN|apply Kept.drew|refine Kept.setCell ?_ (.inr GW6z.o) _|refine Kept.setCell ?_ (.inr qg.o) _)|exact HK.out)) hb);replace HB:=bS hb;obtain ⟨qp,qq,qr,qv,qw,qx⟩:=cEc BK5z.o;obtain ⟨_,_,_,_,_,_⟩:=cEc qa.o)|(refine gL (some 5) Tryz.func104 #[.agg #[.bool a0_0,.slice Ao0z l0_1.length co1z,.int .i64 a0_2]] (h:=?_);(with_reducible refine (Zcu.calls a0_0 _ _ l0_1 a0_2 true _ ?side1 ?side2 A2.o).mono ?_);(case side1=>exact Kd.Zi (Kd.Zc HO0_1.o).2.2 pl);(case side2=>exact (Kd.Zc HO0_1.o).2.1);rintro e w23z ⟨rfl,hb⟩;refine ⟨_,rfl,?_⟩;replace HO0_1:=rbl HO0_1 hb;replace BK5z:=bb BK5z hb;replace qa:=bb qa hb;replace HK:=am (Kept.below (S:=(fun k_=>P0_1_ k_)) (by repeat (first|(with_reducible first|exact HK.out|apply Kept.alloc|apply Kept.drewN|apply Kept.drew|refine Kept.setCell ?_ (.inr GW6z.o) _|refine Kept.setCell ?_ (.inr qg.o) _)|exact HK.out)) hb);replace HB:=bS hb;obtain ⟨qm,qn,qo,qs,qt,qu⟩:=cEc qa.o))
 first
  | have q_:=A12;have q_:decide (1000 < qh)=false:=c40b0
    refine bodyPost_ret (Zae rfl _ _ gb8z 24 #[.bool qi,.slice qd qf.length qc,.int .i64 qh] (0,0) _ rfl (by exact p3 qa) Tryz.underlying24 rfl (by kernel_rfl)) rfl ?_
    exact ⟨_,pE,by refine rp ?_;exact Kd.Zo (Kd.Zau (p:=⟨gb8z,2,none⟩) (Kd.Zau (p:=⟨gb8z,1,none⟩) (Kd.Zau (p:=⟨gb8z,0,none⟩) (Kd.Zba qe.o qa.o (by decide)) (fun _ hk=>hk.2) (.bool qi)) (fun _ hk=>hk.2) (.slice qd qf.length qc)) (fun _ hk=>hk.2) (.int .i64 qh)) (fun _ hk=>hk.1),pB,by repeat (first|(with_reducible first|exact HK.out|apply Kept.alloc|apply Kept.drewN|apply Kept.drew|refine Kept.setCell ?_ (.inr GW6z.o) _|refine Kept.setCell ?_ (.inr qg.o) _)|exact HK.out)⟩
  | refine bodyPost_ret (Zae rfl _ _ gb8z 24 #[.bool false,.slice none 0 0,.int .i64 0] (0,0) _ rfl (by exact p3 qa) Tryz.underlying24 rfl (by kernel_rfl)) rfl ?_
    exact ⟨_,pE,pN,pB,by repeat (first|(with_reducible first|exact HK.out|apply Kept.alloc|apply Kept.drewN|apply Kept.drew|refine Kept.setCell ?_ (.inr GW6z.o) _|refine Kept.setCell ?_ (.inr qg.o) _)|exact HK.out)⟩):P:=h
theorem Zdc.calls (k:Nat) (a0_0:Bool) (P0_1_:Nat->Prop) (u9000_:Value) (l0_1:List Int) (a0_2:Int) (r1:Bool) (r2:List Int) (r3:Int) (r4:Int) (w0 w:World) (hB:Below w0.heap.size w0 w) (ho0_1:Kd.R (Kd.int .u32) 85 w w0.heap.size P0_1_ u9000_ l0_1) (h:Zdc.f k a0_0 l0_1 a0_2=some (r1,r2,r3,r4)) :
  Calls Tryz.prog 100 #[.agg #[.bool a0_0,u9000_,.int .i64 a0_2]] w fun e w' => ∃ v1_:Value,e=.returned (.tuple #[.agg #[.bool r1,v1_,.int .i64 r3],.int .i64 r4])/\Kd.R (Kd.int .u32) 85 w' w0.heap.size (fun k_=>(P0_1_ k_\/w.heap.size<=k_)) v1_ r2/\Below w0.heap.size w0 w'/\Kept w w' (fun k_=>P0_1_ k_):=by
 have q3:=Tryz.underlying106
 have hu24:=Tryz.underlying24
 have HO0_1:=am (show Kd.R (Kd.int .u32) 85 w w0.heap.size (fun k_=>(P0_1_ k_\/w.heap.size<=k_)) u9000_ l0_1 from Kd.Zo ho0_1 (fun k_ hk=>(.inl hk)))
 have HK:=am (Kept.refl w (fun k_=>P0_1_ k_))
 have HW0:=am hB.size
 have HB:=am hB
 clear hB
 have H:((Zcu.f a0_0 l0_1 a0_2).bind fun ql=>(if ql=true then (some (false,([]:List Int),0,0)) else ((Zbw.f k a0_0 l0_1 a0_2).bind fun qb=>((Zc1.f k qb.2.1).bind fun qj=>(if qj > 300 then (some (false,([]:List Int),0,51)) else (if qb.2.2 < (-1000) then (some (false,([]:List Int),0,52)) else (if qb.2.2 > 1000 then (some (false,([]:List Int),0,52)) else (some (qb.1,qb.2.1,qb.2.2,0)))))))))=some (r1,r2,r3,r4):=h
 clear h
 replace H:=ob H
 obtain ⟨ql,A2,H⟩:=H
 replace H:=tI (t:=ql) H
 rcases H with ⟨rfl,H⟩|⟨rfl,H⟩
 ·simp only [Option.some.injEq,Prod.mk.injEq] at H
  obtain ⟨rfl,rfl,rfl,rfl⟩:=H
  exact Zdc.leaf
 ·replace H:=ob H
  obtain ⟨⟨qi,qf,qh⟩,A11,H⟩:=H;(try dsimp only at H)
  replace H:=ob H
  obtain ⟨qj,A12,H⟩:=H
  replace H:=gI H
  rcases H with ⟨c13b0,H⟩|⟨c13b0,H⟩
  ·simp only [Option.some.injEq,Prod.mk.injEq] at H
   obtain ⟨rfl,rfl,rfl,rfl⟩:=H
   exact Zdc.leaf
  ·replace H:=dI H
   rcases H with ⟨c26b0,H⟩|⟨c26b0,H⟩
   ·simp only [Option.some.injEq,Prod.mk.injEq] at H
    obtain ⟨rfl,rfl,rfl,rfl⟩:=H
    exact Zdc.leaf
   ·replace H:=gI H
    rcases H with ⟨c40b0,H⟩|⟨c40b0,H⟩
    ·simp only [Option.some.injEq,Prod.mk.injEq] at H
     obtain ⟨rfl,rfl,rfl,rfl⟩:=H
     exact Zdc.leaf
    ·simp only [Option.some.injEq,Prod.mk.injEq] at H
     obtain ⟨rfl,rfl,rfl,rfl⟩:=H
     exact Zdc.leaf
def Zan.j0:Nat->Bool->List Int->Int->Bool->Option (Bool × List Int × Int × Int)
 | 0,_,_,_,_=>none
 | k+1,x0,x1,x2,x20=>if x20=true then (some (false,([]:List Int),0,52)) else ((Zam.f x1).bind fun qd=>((Zdc.f k x0 qd x2).bind fun qf=>(some (qf.1,qf.2.1,qf.2.2.1,qf.2.2.2))))
def Zan.f (k:Nat) (a0:Bool) (l1:List Int) (a2:Int):Option (Bool × List Int × Int × Int):=(Za2.f l1).bind fun qc=>(if qc=0 then (if a2 < (-4000) then (Zan.j0 k a0 l1 a2 true) else (Zan.j0 k a0 l1 a2 (decide (a2 > 4000)))) else (some (false,([]:List Int),0,qc)))
theorem Zan.calls (k:Nat) (a0:Bool) (A1:Option Addr) (c1:Nat) (l1:List Int) (a2:Int) (r1:Bool) (r2:List Int) (r3:Int) (r4:Int) (w:World) (hr1:Kd.C (Kd.int .u32) w A1 l1.length l1) (hc1:l1.length<=c1) (h:Zan.f k a0 l1 a2=some (r1,r2,r3,r4)) :
  Calls Tryz.prog 60 #[.bool a0,.slice A1 l1.length c1,.int .i64 a2] w fun e w' => ∃ v1_:Value,e=.returned (.tuple #[.agg #[.bool r1,v1_,.int .i64 r3],.int .i64 r4])/\Kd.R (Kd.int .u32) 85 w' w.heap.size (fun _=>True) v1_ r2/\Below w.heap.size w w':=by
 have hu24:=Tryz.underlying24
 have qt:=Tryz.underlying106
 have HR1:=am hr1
 have HC1:=am hc1
 clear hr1 hc1
 have HB:=am (Below.refl w.heap.size w)
 have H:((Za2.f l1).bind fun qc=>(if qc=0 then (if a2 < (-4000) then (Zan.j0 k a0 l1 a2 true) else (Zan.j0 k a0 l1 a2 (decide (a2 > 4000)))) else (some (false,([]:List Int),0,qc))))=some (r1,r2,r3,r4):=h
 clear h
 replace H:=ob H
 obtain ⟨qc,A4,H⟩:=H
 replace H:=eI H
 rcases H with ⟨c5b0,c5b1,H⟩|⟨c5,c5b0,c5b1,H⟩
 ·have HC6:=am H
  clear H
  go_enter Tryz.func60,Tryz.ntmps60
  go_upto_region 4 with (first|((with_reducible refine gd 6 ?_);refine bx 6 #[.bool false,.slice none 0 0,.int .i64 0] 24 (h:=?_);intro qb hg w7 hbox hb;have qa:=am hbox;have qo:=gW hg;have qn:=gW hg;replace HB:=bS hb;clear hb hbox hg)|(refine gL (some 10) Tryz.func108 #[.slice A1 l1.length c1] (h:=?_);(with_reducible refine (Za2.calls _ _ l1 qc _ ?side1 ?side2 A4.o).mono ?_);(case side1=>exact cB HR1 HB);(case side2=>exact HC1.o);rintro e w' ⟨rfl,⟨nd,rfl⟩⟩;refine ⟨_,rfl,?_⟩))
  (try simp only [Act.put,List.setIfInBounds_toArray,List.set_cons_zero,List.set_cons_succ])
  go_cut [20] (fun v20 wc => ∃ (kq:Nat) (x20_5:Bool),v20=.bool x20_5/\Aside0 (Zan.j0 kq a0 l1 a2 x20_5=some (r1,r2,r3,r4))/\Aside0 (kq<=k)/\Aside0 (wc.heap[qb]? = some (.cells #[.bool false,(.slice none 0 0),.int .i64 0] 24 (0,0)))/\Aside0 (Below w.heap.size w wc))
  case first =>
   have H:=HC6.o
   clear HC6
   replace H:=dI H
   rcases H with ⟨c8b0,H⟩|⟨c8b0,H⟩
   ·(first|rw [c8b0]|(simp only [Zb9,Zdj];rw [c8b0])|skip)
    have H':=am H
    clear H
    go_wp2
    go_meet
    case rel=>exact ⟨_,(true),pR,H',pJ,⟨Zg qa.o pl⟩,⟨pB⟩⟩
   ·(first|rw [c8b0]|(simp only [Zb9,Zdj];rw [c8b0])|skip)
    have H':=am H
    clear H
    go_wp2
    go_meet
    case rel=>exact ⟨_,(decide (a2 > 4000)),pR,H',pJ,⟨Zg qa.o pl⟩,⟨pB⟩⟩
  case rest =>
   clear HC6
   obtain ⟨kq,x20_5,rfl,HA,HJ5,qa,HB⟩:=hcut
   cases kq with
   | zero=>exact absurd HA.out (by simp [Zan.j0])
   | succ kj5 =>
    have H:=HA.out
    clear HA
    simp only [Zan.j0] at H
    replace H:=tI (t:=x20_5) H
    rcases H with ⟨rfl,H⟩|⟨rfl,H⟩
    ·simp only [Option.some.injEq,Prod.mk.injEq] at H
     obtain ⟨rfl,rfl,rfl,rfl⟩:=H
     obtain ⟨_,_,_,_,_,_⟩:=cEc qa.o
     go_wp2
     refine bodyPost_ret (Zae rfl _ _ qb 24 #[.bool false,.slice none 0 0,.int .i64 0] (0,0) _ rfl (by exact p3 qa) Tryz.underlying24 rfl (by kernel_rfl)) rfl ?_
     exact ⟨_,pE,pN,pB⟩
    ·replace H:=ob H
     obtain ⟨qd,A11,H⟩:=H
     replace H:=ob H
     obtain ⟨⟨qj,qk,ql,qs⟩,A12,H⟩:=H;(try dsimp only at H)
     simp only [Option.some.injEq,Prod.mk.injEq] at H
     obtain ⟨rfl,rfl,rfl,rfl⟩:=H
     go_wp2_with (first|(refine gL (some 24) Tryz.func102 #[.slice A1 l1.length c1] (h:=?_);(with_reducible refine (Zam.calls _ _ l1 qd _ ?side1 ?side2 A11.o).mono ?_);(case side1=>exact cB HR1 HB);(case side2=>exact HC1.o);rintro e w13 ⟨qu,rfl,ho0,hb⟩;refine ⟨_,rfl,?_⟩;have qe:=am (Kd.Zn ho0 (Zb pB));replace qa:=bb qa hb;replace HB:=bS hb;obtain ⟨qh,qi,qq⟩:=Kd.Zh qe.o;subst qq)|(refine gL (some 28) Tryz.func100 #[.agg #[.bool a0,.slice qh qd.length qi,.int .i64 a2]] (h:=?_);(with_reducible refine (Zdc.calls kj5 a0 (fun k_=>some k_=(.slice qh qd.length qi:Value).ownBlock) (.slice qh qd.length qi) qd a2 qj qk ql qs w _ ?side1 ?side2 A12.o).mono ?_);(case side1=>exact pB);(case side2=>exact Kd.Zby rfl qe.o);rintro e w15 ⟨qv,rfl,ho0,hb,hkp⟩;refine ⟨_,rfl,?_⟩;have qg:=am (Kd.Zo (ok':=fun k_=>True) ho0 (fun k_ hk_=>trivial));replace qa:=am (Zc8 (Zg qa.o pl) hkp (fun e_=>Kd.R_ne qe.o qa.o (by decide) e_));replace HB:=am hb;clear qe;obtain ⟨_,_,_,_,_,_⟩:=cEc qa.o;obtain ⟨qm,qp,qr⟩:=Kd.Zh qg.o;subst qr))
     refine bodyPost_ret (Zae rfl _ _ qb 24 #[.bool qj,.slice qm qk.length qp,.int .i64 ql] (0,0) _ rfl (by exact p3 qa) Tryz.underlying24 rfl (by kernel_rfl)) rfl ?_
     exact ⟨_,pE,by refine rp ?_;exact Kd.Zo (Kd.Zau (p:=⟨qb,2,none⟩) (Kd.Zau (p:=⟨qb,1,none⟩) (Kd.Zau (p:=⟨qb,0,none⟩) (Kd.Zba qg.o qa.o (by decide)) (fun _ hk=>hk.2) (.bool qj)) (fun _ hk=>hk.2) (.slice qm qk.length qp)) (fun _ hk=>hk.2) (.int .i64 ql)) (fun _ hk=>trivial),pB⟩
 ·simp only [Option.some.injEq,Prod.mk.injEq] at H
  obtain ⟨rfl,rfl,rfl,rfl⟩:=H
  go_enter Tryz.func60,Tryz.ntmps60
  go_wp2_with (first|((with_reducible refine gd 6 ?_);refine bx 6 #[.bool false,.slice none 0 0,.int .i64 0] 24 (h:=?_);intro qb hg w18 hbox hb;have qa:=am hbox;have qo:=gW hg;have qn:=gW hg;replace HB:=bS hb;clear hb hbox hg)|(refine gL (some 10) Tryz.func108 #[.slice A1 l1.length c1] (h:=?_);(with_reducible refine (Za2.calls _ _ l1 qc _ ?side1 ?side2 A4.o).mono ?_);(case side1=>exact cB HR1 HB);(case side2=>exact HC1.o);rintro e w' ⟨rfl,⟨nd,rfl⟩⟩;refine ⟨_,rfl,?_⟩;(try (rw [Zhy w18];generalize hq_:World.drewN w18 _=w18;replace qa:Aside0 (w18.heap[qb]? = some (.cells #[.bool false,.slice none 0 0,.int .i64 0] 24 (0,0))):=⟨by rw [<- hq_];exact (Zg qa.o pl)⟩;replace HB:Aside0 (Below w.heap.size w w18):=⟨by rw [<- hq_];exact pB⟩;clear hq_));obtain ⟨_,_,_,_,_,_⟩:=cEc qa.o))
  refine bodyPost_ret (Zae rfl _ _ qb 24 #[.bool false,.slice none 0 0,.int .i64 0] (0,0) _ rfl (by exact p3 qa) Tryz.underlying24 rfl (by kernel_rfl)) rfl ?_
  exact ⟨_,pE,pN,pB⟩
end YtjbjkmccfocikaaGreatDoor.B
end
section
namespace YtjbjkmccfocikaaGreatDoor.P
open Go.RowKit YtjbjkmccfocikaaGreatDoor.B YtjbjkmccfocikaaGreatDoorW.PrintWords YtjbjkmccfocikaaGreatDoorW.PrintLast YtjbjkmccfocikaaGreatDoorW.PrintMore YtjbjkmccfocikaaGreatDoor.P.Nm
def chr (d:Int):UInt8:=UInt8.ofNat (48+d.toNat)
theorem Zgd {n:Nat} (h:n ≠ 0):(decT n).data.toList=(digs n).reverse.map chr:=by
 unfold decT;rw [if_neg h];rfl
theorem Zl2 {d:Int} (h0:0<=d) (h1:d < 10):(chr d).toNat=48+d.toNat:=by
 unfold chr;simp;omega
theorem Zge (n:Nat):(decT n).size=if n=0 then 1 else nd n:=by
 by_cases h:n=0
 ·subst h;rfl
 ·rw [if_neg h]
  show (decT n).data.size=_
  rw [<- Array.length_toList,Zgd h];simp [nd]
theorem Zs9 {b:ByteArray} {l:List UInt8} (h:b.data.toList=l):b=⟨l.toArray⟩:=by
 cases b with|mk d=>subst h;rfl
theorem Zqv {n:Nat} (h:n ≠ 0):(⟨(Lib.trimRightB (decT n).data.toList 48).toArray⟩:ByteArray)=decT (core n):=by
 obtain ⟨h1,h2⟩:=Zmt h
 have hc:=Zj6 h
 symm
 refine Zs9 ?_
 rw [Zgd hc,Zgd h]
 unfold Lib.trimRightB
 rw [<- List.map_reverse,List.reverse_reverse]
 have hd:digs n=List.replicate (tz n) 0++digs (core n):=by
  conv=>lhs;rw [h1]
  exact Zhx hc _
 rw [hd,List.map_append,List.map_replicate,Zed hc,List.map_cons]
 have e0:chr 0=48:=rfl
 have e1:(chr ((core n % 10:Nat):Int) == 48)=false:=by
  refine beq_eq_false_iff_ne.2 (fun q=>?_)
  have := congrArg UInt8.toNat q
  rw [Zl2 (by omega) (by omega)] at this
  have e48:(48:UInt8).toNat=48:=rfl
  rw [e48] at this
  omega
 have drop:∀ k (l:List UInt8),(List.replicate k (48:UInt8)++l).dropWhile (· == 48)=l.dropWhile (· == 48):=fun k l=>by
  induction k with
  | zero=>rfl
  | succ k ih=>rw [List.replicate_succ,List.cons_append,List.dropWhile_cons_of_pos (by rfl),ih]
 rw [e0,drop,List.dropWhile_cons_of_neg (by rw [e1];simp),List.map_reverse,List.map_cons]
theorem Zp5 (n:Nat):numT (decT n)=n:=by
 by_cases h:n=0
 ·subst h;rfl
 ·unfold numT
  rw [Zgd h]
  have key:∀ l:List Int,Dg 10 l->(((l.reverse.map chr).foldl (fun n c=>n*10+(c.toNat - 48)) 0:Nat):Int)=val 10 l:=fun l=>by
   induction l with
   | nil=>intro _;rfl
   | cons x l ih =>
    intro hd
    have hx:=hd.head
    rw [List.reverse_cons,List.map_append,List.foldl_append,List.map_cons,List.map_nil,List.foldl_cons,List.foldl_nil,Zl2 hx.1 hx.2,Zbk,<- ih hd.tail]
    omega
  have := key (digs n) (Zcg n)
  rw [Zco] at this
  exact_mod_cast this
theorem Zrd (n:Nat):(decT n).data.toList.all isDig=true:=by
 by_cases h:n=0
 ·subst h;rfl
 ·rw [Zgd h,List.all_eq_true]
  intro c hc
  obtain ⟨d,hd,rfl⟩:=List.mem_map.1 hc
  have hx:=Zcg n d (List.mem_reverse.1 hd)
  unfold isDig
  rw [Zl2 hx.1 hx.2]
  simp;omega
theorem Znh (s:ByteArray) (a b:Nat):(s.extract a b).data.toList=(s.data.toList.drop a).take (b - a):=by
 rw [ByteArray.data_extract,Array.toList_extract]
def numF (v:Nat) (l:List UInt8):Nat:=l.foldl (fun n c=>n*10+(c.toNat - 48)) v
theorem Zrn (v:Nat):numF v []=v:=rfl
theorem Zi3 (v:Nat) (c:UInt8) (l:List UInt8):numF v (c :: l)=numF (v*10+(c.toNat - 48)) l:=by unfold numF;rw [List.foldl_cons]
theorem Zrm (v:Nat) (l m:List UInt8):numF v (l++m)=numF (numF v l) m:=by unfold numF;rw [List.foldl_append]
theorem Zih:∀ (l:List UInt8) (v:Nat),numF v l=v*10 ^ l.length+numF 0 l
 | [],v=>by simp [numF]
 | c :: l,v=>by
  rw [Zi3,Zi3,Zih l (v*10+_),Zih l (0*10+_),List.length_cons,Nat.pow_succ,Nat.add_mul,Nat.zero_mul,Nat.zero_add,Nat.mul_assoc v 10,Nat.mul_comm 10]
  omega
theorem Zi1 {c:UInt8}:isDig c=true ↔ 48<=c.toNat/\c.toNat<=57:=by unfold isDig;simp
theorem Zp4:∀ (l:List UInt8),l.all isDig=true->numF 0 l < 10 ^ l.length
 | [],_=>by simp [numF]
 | c :: l,h=>by
  rw [List.all_cons,Bool.and_eq_true] at h
  have h1:=Zp4 l h.2
  have h2:=Zi1.1 h.1
  rw [Zi3,Zih,List.length_cons,Nat.pow_succ]
  have := Nat.mul_le_mul_right (10 ^ l.length) (show 0*10+(c.toNat - 48)<=9 by omega)
  omega
theorem Zsd (s:ByteArray) (h:s.size<=9223372036854775807):Zcd.f s=some (bytesOf s):=by unfold Zcd.f;rw [if_pos h]
theorem Zkz (s:ByteArray) (i:Nat) (c:UInt8) (r:List UInt8) (h:s.data.toList.drop i=c :: r):(bytesOf s).getD i 0=(c.toNat:Int):=by
 unfold bytesOf
 have h2:s.data.toList[i]? = some c:=by
  have := List.getElem?_drop (xs:=s.data.toList) (i:=i) (j:=0)
  rw [h] at this
  simpa using this.symm
 rw [List.getD,List.getElem?_map,h2];rfl
theorem Znu (s:ByteArray) (hs:s.data.toList.all isDig=true) (hl:s.data.toList.length<=9):∀ (r:List UInt8) (i v:Nat),s.data.toList.drop i=r->i<=s.data.toList.length->v < 10 ^ i->Tells (fun k=>Zcj.l0 k (v:Int) (bytesOf s) ((bytesOf s).length:Int) (i:Int)) (numF v r:Int)
 | [],i,v,hr,hi,hv=>by
  have hlen:(bytesOf s).length=s.data.toList.length:=by unfold bytesOf;rw [List.length_map]
  have hge:s.data.toList.length<=i:=List.drop_eq_nil_iff.1 hr
  refine Tells.succ ?_
  simp only [Zcj.l0]
  exact Tells.ifn (by omega) (Tells.pure _)
 | c :: r,i,v,hr,hi,hv=>by
  have hlen:(bytesOf s).length=s.data.toList.length:=by unfold bytesOf;rw [List.length_map]
  have hlt:i < s.data.toList.length:=by
   have := congrArg List.length hr
   rw [List.length_drop,List.length_cons] at this
   omega
  have hc:isDig c=true:=List.all_eq_true.1 hs c (List.mem_of_mem_drop (by rw [hr];exact List.mem_cons_self))
  have hc2:=Zi1.1 hc
  have hv9:v < 100000000:=Nat.lt_of_lt_of_le hv (Nat.le_trans (Nat.pow_le_pow_right (by omega) (show i<=8 by omega)) (by decide))
  have ih:=Znu s hs hl r (i+1) (v*10+(c.toNat - 48)) (by rw [<- List.drop_drop,hr];rfl) (by omega) (by rw [Nat.pow_succ];omega)
  have c1:(i:Int) < ((bytesOf s).length:Int):=by omega
  have c2:(0:Int)<=(i:Int):=by omega
  have e1:(((v:Int)*10) % 4294967296+(((c.toNat:Int) - 48) % 256)) % 4294967296=((v*10+(c.toNat - 48):Nat):Int):=by omega
  refine Tells.succ ?_
  simp only [Zcj.l0]
  rw [rd_n,Zkz s i c r hr,e1,w64s (by omega)]
  exact Tells.ifp c1 (Tells.ifp c2 (Tells.ifp c1 ih))
theorem Zmg (s:ByteArray) (hs:s.data.toList.all isDig=true) (hl:s.data.toList.length<=9):Tells (fun k=>Zcj.f k s) (numF 0 s.data.toList:Int):=by
 unfold Zcj.f
 have hsz:s.size=s.data.toList.length:=by rw [Array.length_toList];rfl
 rw [Zsd s (by omega)]
 exact (Tells.pure _).bind (Znu s hs hl s.data.toList 0 0 rfl (by omega) (by simp))
theorem Zka:([1000000000]:List Int)=limbs 1000000000:=by decide +kernel
theorem Zr1 (n:Nat) (h:n < 4294967296):Tells (fun k=>Zz.f k [(n:Int)]) (limbs n) :=
 Zd1 (Dg.one (by omega) (by omega)) (by rw [val_one]) (by simp)
theorem Zq5 {l:List UInt8} (h:l.all isDig=true) (n:Nat):(l.drop n).all isDig=true:=List.all_eq_true.2 fun x hx=>List.all_eq_true.1 h x (List.mem_of_mem_drop hx)
theorem Zm9 {l:List UInt8} (h:l.all isDig=true) (n:Nat):(l.take n).all isDig=true:=List.all_eq_true.2 fun x hx=>List.all_eq_true.1 h x (List.mem_of_mem_take hx)
theorem Zm2:∀ (f:Nat) (s:ByteArray) (v:Nat),s.data.toList.length<=f->s.data.toList.all isDig=true->(v=0\/s.data.toList.length % 9=0)->nd v+s.data.toList.length<=100000 ->
  Tells (fun k=>Za3.l0 k s (limbs v)) (limbs (numF v s.data.toList),0)
 | f,s,v,hf,hs,hv,hl=>by
  have hsz:s.size=s.data.toList.length:=by rw [Array.length_toList];rfl
  by_cases h0:s.data.toList=[]
  ·refine Tells.succ ?_
   simp only [Za3.l0]
   refine Tells.ifp (by rw [<- h0];exact (Lib.toList_data s)) ((Tells.pure _).val ?_)
   rw [h0,Zrn]
  ·have hpos:0 < s.data.toList.length:=List.length_pos_iff.2 h0
   obtain ⟨f,rfl⟩:∃ g,f=g+1:=⟨f - 1,by omega⟩
   obtain ⟨n,hn⟩:∃ n,(s.data.toList.length - 1) % 9+1=n:=⟨_,rfl⟩
   have hn9:n<=9:=by omega
   have hnl:n<=s.data.toList.length:=by omega
   have hT:(s.extract 0 n).data.toList=s.data.toList.take n:=by rw [Znh];simp
   have hD:(s.extract n s.size).data.toList=s.data.toList.drop n:=by
    rw [Znh,hsz,List.take_of_length_le (by rw [List.length_drop];omega)]
   have hp:=Zmg (s.extract 0 n) (by rw [hT];exact Zm9 hs n) (by rw [hT,List.length_take];omega)
   rw [hT] at hp
   have hpl:=Zp4 (s.data.toList.take n) (Zm9 hs n)
   obtain ⟨p,hpp⟩:∃ p,numF 0 (s.data.toList.take n)=p:=⟨_,rfl⟩
   rw [hpp] at hp hpl
   rw [List.length_take,Nat.min_eq_left hnl] at hpl
   have hp9:p < 1000000000:=Nat.lt_of_lt_of_le hpl (Nat.le_trans (Nat.pow_le_pow_right (by omega) hn9) (by decide))
   have hv2:v*1000000000+p=numF v (s.data.toList.take n):=by
    rw [Zih,hpp,List.length_take,Nat.min_eq_left hnl]
    rcases hv with h|h
    ·rw [h];simp
    ·rw [show n=9 by omega]
   have hndv:nd (v*1000000000+p)<=nd v+9:=by
    refine Zgg ?_
    have := Zg5 v
    rw [Nat.pow_add]
    have h9:(10:Nat) ^ 9=1000000000:=by decide
    rw [h9]
    have := Nat.mul_le_mul_right 1000000000 (show v+1<=10 ^ nd v by omega)
    omega
   have hv0:v=0->nd (v*1000000000+p)<=n:=fun e=>by
    subst e
    rw [Nat.zero_mul,Nat.zero_add]
    exact Zgg hpl
   have hndb:nd 1000000000<=10:=Zgg (by decide)
   have hndp:nd p<=9:=Zgg hp9
   have hm:=Zhe (m:=v) (n:=1000000000) (by omega) (by omega)
   have ha:=Zir (m:=v*1000000000) (n:=p) (Nat.le_trans (Zcv (Nat.le_add_right _ p)) (by omega)) (by omega)
   have ih:=Zm2 f (s.extract n s.size) (v*1000000000+p) (by rw [hD,List.length_drop];omega) (by rw [hD];exact Zq5 hs n) (.inr (by rw [hD,List.length_drop];omega)) (by
    rw [hD,List.length_drop]
    rcases hv with h|h
    ·have := hv0 h;omega
    ·have:n=9:=by omega
     omega)
   rw [hD] at ih
   have ih:=ih.val (u:=(limbs (numF v s.data.toList),0)) (by rw [hv2,<- Zrm,List.take_append_drop])
   have e1:(s.size:Int) - 1=((s.data.toList.length - 1:Nat):Int):=by omega
   have e2:Int.tmod ((s.data.toList.length - 1:Nat):Int) 9=(((s.data.toList.length - 1) % 9:Nat):Int):=by rw [Int.tmod_eq_emod_of_nonneg (by omega)];omega
   have c1:(0:Int)<=(n:Int):=by omega
   have c2:(n:Int)<=(s.size:Int):=by omega
   refine Tells.succ ?_
   simp only [Za3.l0]
   rw [e1,w64c (by omega),e2,w64s (by omega),hn,Int.toNat_natCast,Zka]
   refine Tells.ifn (fun q=>h0 (by rw [<- Lib.toList_data s];exact q)) (hm.bind (Tells.ifp c1 (Tells.ifp c2 (hp.bind ((Zr1 p (by omega)).bind (ha.bind ih))))))
theorem Zob (s:ByteArray) (h:s.data.toList.all isDig=true):Zb4.f (bytesOf s)=some false:=by
 unfold Zb4.f
 rw [Zkw (fun x=>decide (x < 48) || decide (57 < x)) (bytesOf s) (fun x _=>by
  unfold Zem.f
  by_cases h1:x < 48
  ·rw [if_pos h1,decide_eq_true h1];rfl
  ·rw [if_neg h1,decide_eq_false h1];rfl)]
 congr 1
 rw [List.any_eq_false]
 intro x hx
 unfold bytesOf at hx
 obtain ⟨c,hc,rfl⟩:=List.mem_map.1 hx
 have := Zi1.1 (List.all_eq_true.1 h c hc)
 simp;omega
theorem Zly (s:ByteArray) (h:s.data.toList.all isDig=true) (h0:0 < s.size) (h1:s.size<=2400):Tells (fun k=>Za3.f k s) (limbs (numF 0 s.data.toList),0):=by
 have hsz:s.size=s.data.toList.length:=by rw [Array.length_toList];rfl
 unfold Za3.f
 rw [Zsd s (by omega)]
 refine Tells.ifn (by omega) (Tells.ifn (by omega) ((Tells.pure _).bind ?_))
 rw [Zob s h]
 exact (Tells.pure _).bind (Tells.ifn (by simp) (Zm2 _ s 0 (Nat.le_refl _) h (.inl rfl) (by rw [Zmc];omega)))
theorem Zn7 {n:Nat} (h:nd n<=2400):Tells (fun k=>Za3.f k (decT n)) (limbs n,0):=by
 have hs:=Zge n
 have hpos:0 < (decT n).size:=by
  rw [hs];split
  ·omega
  ·rename_i h0;exact Zgh h0
 have hle:(decT n).size<=2400:=by rw [hs];split <;> omega
 refine (Zly (decT n) (Zrd n) hpos hle).val ?_
 rw [show numF 0 (decT n).data.toList=n from Zp5 n]
theorem Zur (a:Bool) (n:Nat) (e:Int):Zcu.f a (limbs n) e=some (decide (n=0)):=by
 unfold Zcu.f
 congr 1
 by_cases h:n=0
 ·subst h;rfl
 ·have:0 < (limbs n).length:=List.length_pos_iff.2 (Zdu h)
  rw [decide_eq_false h]
  exact beq_eq_false_iff_ne.2 (by omega)
theorem Zh9 {n:Nat} (h:(limbs n).length<=256):Tells (fun k=>Zc1.f k (limbs n)) (nd n:Int):=by
 unfold Zc1.f
 refine (Zg2 h).bind ?_
 by_cases h0:n=0
 ·subst h0
  exact Tells.ifp rfl (Tells.pure _)
 ·have hl:0 < (limbs n).length:=List.length_pos_iff.2 (Zdu h0)
  refine Tells.ifn (by omega) ((Tells.pure _).val ?_)
  rw [Zge,if_neg h0]
theorem Zrc {n:Nat} (h:(limbs n).length<=256):(limbs (core n)).length<=256:=by
 refine Zgf (Nat.lt_of_le_of_lt (Zsz n) (Nat.lt_of_lt_of_le (Zkb n) (Nat.pow_le_pow_right (by omega) h)))
theorem Zmr (a:Bool) {n:Nat} (e:Int) (h0:n ≠ 0) (h:(limbs n).length<=256) (hd:nd n<=2400) (he1 : -1000000000<=e) (he2:e<=1000000000):Tells (fun k=>Zbw.f k a (limbs n) e) (a,limbs (core n),e+tz n):=by
 have hs:=Zge n
 have hs2:=Zge (core n)
 have hnc:=Zma h0
 rw [if_neg h0] at hs
 rw [if_neg (Zj6 h0)] at hs2
 unfold Zbw.f Zfr.f Zgs.f Zca.f
 refine (Zg2 h).bind ((Tells.pure _).bind ?_)
 rw [if_pos ⟨rfl,by show (decT n).size<=_;omega⟩]
 refine (Tells.pure _).bind ?_
 simp only [Zqv h0]
 by_cases ht:tz n=0
 ·have hc:core n=n:=by
   have := (Zmt h0).1
   rw [ht,Nat.pow_zero,Nat.mul_one] at this
   exact this.symm
  refine Tells.ifp (by rw [hc]) ((Tells.pure _).val ?_)
  rw [hc,ht];simp
 ·refine Tells.ifn (by omega) ?_
  have e1:((decT n).size:Int) - ((decT (core n)).size:Int)=(tz n:Int):=by omega
  refine (Zn7 (by omega)).bind ((Tells.pure _).bind ((Tells.pure _).val ?_))
  rw [e1,w64c (m:=tz n) (by omega),w64n (by omega) (by omega)]
theorem Zlr (a:Bool) {n:Nat} (e:Int) (h:(limbs n).length<=256) (hd:nd n<=2400) (he1 : -1000000000<=e) (he2:e<=1000000000):Tells (fun k=>Zdc.f k a (limbs n) e) (outD (settleD ⟨a,n,e⟩)):=by
 unfold Zdc.f settleD
 rw [Zur]
 refine (Tells.pure _).bind ?_
 simp only
 by_cases h0:n=0
 ·subst h0
  exact Tells.ifp rfl (Tells.pure _)
 ·rw [if_neg h0]
  have hcd:=Zma h0
  refine Tells.ifn (by simp [h0]) ((Zmr a e h0 h hd he1 he2).bind ((Zh9 (Zrc h)).bind ?_))
  dsimp only
  by_cases h3:300 < nd (core n)
  ·rw [if_pos h3]
   exact Tells.ifp (by omega) (Tells.pure _)
  ·rw [if_neg h3]
   refine Tells.ifn (by omega) ?_
   by_cases h4:e+tz n < -1000
   ·exact (Tells.ifp h4 (Tells.pure _)).val (by rw [if_pos (Or.inl h4)];rfl)
   ·refine Tells.ifn h4 ?_
    by_cases h5:1000 < e+tz n
    ·exact (Tells.ifp h5 (Tells.pure _)).val (by rw [if_pos (Or.inr h5)];rfl)
    ·exact (Tells.ifn h5 (Tells.pure _)).val (by rw [if_neg (by omega)])
theorem Zqu {n:Nat} (h:(limbs n).length<=256):Tells (fun k=>Zfl.f k (limbs n)) (limbs (n / 10),decide (n % 10=0)):=by
 unfold Zfl.f
 have h10:(limbs 10).length<=256:=by decide +kernel
 refine (Zfo 10 (by omega)).bind ((Zf8 h h10).bind ((Tells.pure _).val ?_))
 rw [if_neg (by omega)]
 dsimp only
 congr 1
 by_cases h0:n % 10=0
 ·rw [h0];rfl
 ·have:0 < (limbs (n % 10)).length:=List.length_pos_iff.2 (Zdu h0)
  rw [decide_eq_false h0]
  exact beq_eq_false_iff_ne.2 (by omega)
theorem Zes (a:Bool) (l:List Int) (e:Int) (hd:Dg 4294967296 l) (hl:l.length<=9223372036854775807):Tells (fun k=>Za6.f k a l e) (chk a l e):=by
 unfold Za6.f
 rw [Zij l hl]
 refine (Tells.pure _).bind ?_
 have bad:chk a l e=9->Tells (fun k=>Za6.j0 k true a l e) (chk a l e):=fun h=>by
  rw [h]
  refine Tells.succ ?_
  simp only [Za6.j0]
  exact Tells.ifp trivial (Tells.pure _)
 by_cases hc:chkL l=0
 ·refine Tells.ifp hc ?_
  by_cases h40:l.length<=40
  ·rw [decide_eq_false (show ¬ ((l.length:Int) > 40) by omega)]
   have hok:=(Zl1 hd).1 hc
   obtain ⟨n,hn⟩:∃ n,num l=n:=⟨_,rfl⟩
   have hln:l=limbs n:=by rw [<- hn];exact (Zle hok).symm
   have hchk:chk a l e=if okB ⟨a,n,e⟩=true then 0 else 9:=by
    unfold chk
    rw [hn]
    by_cases h:okB ⟨a,n,e⟩=true
    ·rw [if_pos ⟨hc,h40,h⟩,if_pos h]
    ·rw [if_neg (fun q=>h q.2.2),if_neg h]
   rw [hchk]
   subst hln
   have h256:(limbs n).length<=256:=by omega
   unfold okB
   simp only
   refine Tells.succ ?_
   simp only [Za6.j0]
   refine Tells.ifn (by simp) ?_
   by_cases h0:n=0
   ·subst h0
    rw [if_pos rfl]
    refine Tells.ifp rfl ?_
    cases a
    ·refine Tells.ifn (by simp) ?_
     by_cases he:e=0
     ·subst he;exact Tells.ifp rfl (Tells.pure _)
     ·refine Tells.ifn he ((Tells.pure _).val ?_)
      simp [he]
    ·exact Tells.ifp rfl (Tells.pure _)
   ·have hpos:0 < (limbs n).length:=List.length_pos_iff.2 (Zdu h0)
    rw [if_neg h0]
    refine Tells.ifn (by omega) ((Zqu h256).bind ?_)
    dsimp only
    by_cases hz:n % 10=0
    ·rw [decide_eq_false (not_not_intro hz)]
     exact Tells.ifp (decide_eq_true hz) (Tells.pure _)
    ·rw [decide_eq_true hz]
     refine Tells.ifn (by simp [hz]) ((Zh9 h256).bind ?_)
     by_cases h3:nd n<=300
     ·rw [decide_eq_true h3]
      refine Tells.ifn (by omega) ?_
      by_cases h4:e < -1000
      ·rw [decide_eq_false (show ¬ (-1000<=e) by omega)]
       exact Tells.ifp h4 (Tells.pure _)
      ·rw [decide_eq_true (show -1000<=e by omega)]
       refine Tells.ifn h4 ?_
       by_cases h5:1000 < e
       ·rw [decide_eq_false (show ¬ (e<=1000) by omega)]
        exact Tells.ifp h5 (Tells.pure _)
       ·rw [decide_eq_true (show e<=1000 by omega)]
        exact Tells.ifn h5 (Tells.pure _)
     ·rw [decide_eq_false h3]
      exact Tells.ifp (by omega) (Tells.pure _)
  ·rw [decide_eq_true (show ((l.length:Int) > 40) by omega)]
   exact bad (by unfold chk;rw [if_neg (fun q=>h40 q.2.1)])
 ·exact Tells.ifn hc (bad (by unfold chk;rw [if_neg (fun q=>hc q.1)]))
theorem DCheck (D:Dm) (h:OkD D):Tells (fun k=>Za6.f k D.neg (limbs D.n) D.e) 0:=by
 have h1:=Zgj h
 have := Zes D.neg (limbs D.n) D.e (Zdf _) (by omega)
 rw [Znd h] at this
 exact this
theorem Zcb {n:Nat} (h:nd n<=2304):(limbs n).length<=256:=Zjs (by omega)
theorem Zsv (l:List Int) (h:l.length<=10000):Zam.f l=some l:=by unfold Zam.f;rw [if_pos (by omega)]
theorem Zec (s:Bool) (n:Nat) (e:Int) (h:(limbs n).length<=256) (hd:nd n<=2400):Tells (fun k=>Zan.f k s (limbs n) e) (if e < -4000\/4000 < e then (false,[],0,52) else outD (settleD ⟨s,n,e⟩)):=by
 have bad:Tells (fun k=>Zan.j0 k s (limbs n) e true) (false,[],0,52):=by
  refine Tells.succ ?_
  simp only [Zan.j0]
  exact Tells.ifp trivial (Tells.pure _)
 unfold Zan.f
 rw [chkN h]
 refine (Tells.pure _).bind (Tells.ifp rfl ?_)
 by_cases h1:e < -4000
 ·rw [if_pos (.inl h1)]
  exact Tells.ifp h1 bad
 ·refine Tells.ifn h1 ?_
  by_cases h2:4000 < e
  ·rw [if_pos (.inr h2),decide_eq_true (show e > 4000 from h2)]
   exact bad
  ·rw [if_neg (by omega),decide_eq_false (show ¬ (e > 4000) from h2)]
   refine Tells.succ ?_
   simp only [Zan.j0]
   rw [Zsv _ (by omega)]
   exact Tells.ifn (by simp) ((Tells.pure _).bind ((Zlr s e h hd (by omega) (by omega)).bind (Tells.pure _)))
end YtjbjkmccfocikaaGreatDoor.P
end
section
namespace YtjbjkmccfocikaaGreatDoor.P.Nm
open Go.RowKit YtjbjkmccfocikaaGreatDoorW.PrintWords YtjbjkmccfocikaaGreatDoor.B YtjbjkmccfocikaaGreatDoor.P
structure RawD (l:List Int):Prop where
 dg:Dg 4294967296 l
 len:l.length<=9223372036854775807
theorem RawD.nil:RawD []:=⟨(fun x h=>absurd h (by simp)),(by simp)⟩
theorem Zfb (D:Dm) (h:nd D.n<=1000000):Tells (fun k=>Zq.f k D.neg (limbs D.n) D.e D.neg (limbs D.n) D.e) true:=(Zt5 D D h).val (decide_eq_true rfl)
end YtjbjkmccfocikaaGreatDoor.P.Nm
end
section
namespace YtjbjkmccfocikaaGreatDoor.P.Nm
theorem Zkd {n k:Nat} (h:10 ^ k<=n):k+1<=nd n:=by
 refine Nat.not_lt.1 (fun hlt=>?_)
 have h1:=Zg5 n
 have h2:=Nat.pow_le_pow_right (n:=10) (by omega) (show nd n<=k by omega)
 omega
def dl (n:Nat):Nat:=if n=0 then 1 else nd n
theorem Zjg {n:Nat} (h:n ≠ 0):dl n=nd n:=by unfold dl;rw [if_neg h]
theorem Zs2:dl 0=1:=rfl
theorem Zk9 (n:Nat):dl n<=nd n+1:=by unfold dl;split <;> omega
def cutN (q:Nat):Nat:=dl q - 40
def padN (m n:Nat):Nat:=dl n+42 - dl m
def upB (high low cut:Nat) (rest:Bool):Bool :=
 if cut=0 then false else if 5*10 ^ (cut - 1) < low then true else if low=5*10 ^ (cut - 1) then (rest || decide (high % 2=1)) else false
def upN (b:Bool) (h:Nat):Nat:=if b then h+1 else h
def divD (D E:Dm):Dm :=
 let n:=padN D.n E.n
 let q:=D.n*10 ^ n / E.n
 let cut:=cutN q
 ⟨D.neg != E.neg,upN (upB (q / 10 ^ cut) (q % 10 ^ cut) cut (decide (D.n*10 ^ n % E.n ≠ 0))) (q / 10 ^ cut),D.e - E.e - n+cut⟩
def quotD (D E:Dm):Dm × Int:=settleD (divD D E)
theorem Zmp (s:Bool) (e:Int):settleD ⟨s,0,e⟩=(zeroD,0):=by unfold settleD;rw [if_pos rfl]
theorem Zr2 (h cut:Nat) (r:Bool):upB h 0 cut r=false:=by
 have := Zbv (cut - 1)
 unfold upB
 split
 ·rfl
 ·rw [if_neg (by omega),if_neg (by omega)]
theorem Zjv {m E:Nat} (hm:m ≠ 0) (hE:E ≠ 0) :
  ∃ c,cutN (m*10 ^ padN m E / E)=c/\2<=c/\10 ^ 39<=m*10 ^ padN m E / E / 10 ^ c/\m*10 ^ padN m E / E / 10 ^ c < 10 ^ 40:=by
 have h1:10 ^ (nd E+41)<=m*10 ^ padN m E:=by
  have hk:=Zp0 hm
  have hmp:=Zgh hm
  have hpd:nd E+41<=nd m - 1+padN m E:=by unfold padN;rw [Zjg hm,Zjg hE];omega
  refine Nat.le_trans (Nat.pow_le_pow_right (by omega) hpd) ?_
  rw [Nat.pow_add]
  exact Nat.mul_le_mul_right _ hk
 have h2:10 ^ 41<=m*10 ^ padN m E / E:=by
  rw [Nat.le_div_iff_mul_le (by omega)]
  refine Nat.le_trans ?_ h1
  rw [Nat.pow_add,Nat.mul_comm (10 ^ nd E)]
  exact Nat.mul_le_mul_left _ (Nat.le_of_lt (Zg5 E))
 obtain ⟨q,hq⟩:∃ q,m*10 ^ padN m E / E=q:=⟨_,rfl⟩
 rw [hq] at h2 ⊢
 have hq0:q ≠ 0:=by have := Zbv 41;omega
 have h3:=Zkd h2
 refine ⟨nd q - 40,by unfold cutN;rw [Zjg hq0],by omega,?_,?_⟩
 ·rw [Nat.le_div_iff_mul_le (Zbv _),<- Nat.pow_add]
  have := Zp0 hq0
  rwa [show 39+(nd q - 40)=nd q - 1 by omega]
 ·rw [Nat.div_lt_iff_lt_mul (Zbv _),<- Nat.pow_add]
  have := Zg5 q
  rwa [show 40+(nd q - 40)=nd q by omega]
theorem Zpp {h:Nat} (h1:10 ^ 39<=h) (h2:h<=10 ^ 40):nd (core h)<=40/\40<=nd h:=by
 have h0:h ≠ 0:=by have := Zbv 39;omega
 refine ⟨?_,Zkd h1⟩
 by_cases he:h=10 ^ 40
 ·have := Zl3 (n:=h) (c:=1) (k:=40) (by decide) (by rw [he])
  rw [this.1];decide
 ·have := Zma h0
  have := Zgg (n:=h) (k:=40) (by omega)
  omega
theorem Zuq (b:Bool) (h:Nat):h<=upN b h/\upN b h<=h+1:=by cases b <;> simp [upN]
theorem Zuc {D E:Dm} (hd:D.n ≠ 0) (h0:E.n ≠ 0):10 ^ 39<=(divD D E).n/\(divD D E).n<=10 ^ 40:=by
 obtain ⟨c,hc,_,h1,h2⟩:=Zjv hd h0
 unfold divD
 simp only [hc]
 have := Zuq (upB (D.n*10 ^ padN D.n E.n / E.n / 10 ^ c) (D.n*10 ^ padN D.n E.n / E.n % 10 ^ c) c (decide (D.n*10 ^ padN D.n E.n % E.n ≠ 0))) (D.n*10 ^ padN D.n E.n / E.n / 10 ^ c)
 omega
theorem Zk7 {D E:Dm} (hd:D.n=0):(divD D E).n=0:=by
 unfold divD
 simp only [hd,Nat.zero_mul,Nat.zero_div,Nat.zero_mod,cutN,Zs2,Zr2];rfl
theorem Zrv (D E:Dm) (h0:E.n ≠ 0):nd (quotD D E).1.n<=40:=by
 unfold quotD
 by_cases hd:D.n=0
 ·have := Zk7 (D:=D) (E:=E) hd
  unfold settleD;rw [if_pos this];decide
 ·obtain ⟨h1,h2⟩:=Zuc hd h0
  have := (Zpp h1 h2).1
  rcases Zgn (divD D E) with ⟨e,_⟩|⟨e,_⟩|⟨e,_⟩|⟨e,_⟩ <;> rw [e]
  ·decide
  ·decide
  ·decide
  ·exact this
theorem Zki {a b:Nat} (h:a<=b):(10:Nat) ^ a<=10 ^ b:=Nat.pow_le_pow_right (by omega) h
def absD (a:Dm):Dm:=(settleD ⟨false,a.n,a.e⟩).1
theorem Zg3 {a:Dm} (h:OkD a):absD a=⟨false,a.n,a.e⟩/\OkD (absD a):=by
 have ok:OkD ⟨false,a.n,a.e⟩:=by
  refine ⟨fun e=>?_,h.last,h.len,h.low,h.high⟩
  have e':a.n=0:=e
  have := h.zero e'
  rw [this];rfl
 have e1:=Zja ok
 have e2:absD a=⟨false,a.n,a.e⟩:=by unfold absD;rw [e1]
 exact ⟨e2,by rw [e2];exact ok⟩
def padR (D:Dm):Nat:=(80 - dl D.n)+((D.e - ((80 - dl D.n:Nat):Int)) % 2).toNat
def rootD (D:Dm):Dm :=
 let rt:=root (D.n*10 ^ padR D)
 ⟨false,rt / 10 ^ cutN rt,(D.e - padR D) / 2+cutN rt⟩
def sqrtD (D:Dm):Dm × Int:=settleD (rootD D)
theorem Zhh (D:Dm):(D.e - (padR D:Int)) % 2=0/\80 - dl D.n<=padR D/\padR D<=81 - dl D.n+0\/(D.e - (padR D:Int)) % 2=0/\80 - dl D.n<=padR D/\padR D<=1+(80 - dl D.n):=by
 unfold padR;omega
theorem Zjx {m p:Nat} (hm:m ≠ 0) (hp:80 - dl m<=p) :
  ∃ c,cutN (root (m*10 ^ p))=c/\10 ^ 39<=root (m*10 ^ p) / 10 ^ c/\root (m*10 ^ p) / 10 ^ c < 10 ^ 40:=by
 have h1:10 ^ 79<=m*10 ^ p:=by
  have hk:=Zp0 hm
  have hmp:=Zgh hm
  rw [Zjg hm] at hp
  refine Nat.le_trans (Zki (show 79<=nd m - 1+p by omega)) ?_
  rw [Nat.pow_add]
  exact Nat.mul_le_mul_right _ hk
 obtain ⟨X,hX⟩:∃ X,m*10 ^ p=X:=⟨_,rfl⟩
 rw [hX] at h1 ⊢
 obtain ⟨r1,r2⟩:=Zgm X
 obtain ⟨r,hr⟩:∃ r,root X=r:=⟨_,rfl⟩
 rw [hr] at r1 r2 ⊢
 have h2:10 ^ 39<=r:=by
  refine Nat.not_lt.1 (fun hlt=>?_)
  have := Nat.mul_le_mul (show r+1<=10 ^ 39 from hlt) (show r+1<=10 ^ 39 from hlt)
  rw [<- Nat.pow_add] at this
  have := Nat.lt_of_lt_of_le r2 this
  have := Zki (show 39+39<=79 by omega)
  omega
 have hr0:r ≠ 0:=by have := Zbv 39;omega
 have h3:=Zkd h2
 refine ⟨nd r - 40,by unfold cutN;rw [Zjg hr0],?_,?_⟩
 ·rw [Nat.le_div_iff_mul_le (Zbv _),<- Nat.pow_add]
  have := Zp0 hr0
  rwa [show 39+(nd r - 40)=nd r - 1 by omega]
 ·rw [Nat.div_lt_iff_lt_mul (Zbv _),<- Nat.pow_add]
  have := Zg5 r
  by_cases h4:nd r<=40
  ·exact Nat.lt_of_lt_of_le this (Zki (by omega))
  ·rwa [show 40+(nd r - 40)=nd r by omega]
theorem Zjw {D:Dm} (h:D.n=0):(rootD D).n=0:=by
 unfold rootD
 simp only [h,Nat.zero_mul]
 have:root 0=0:=by decide
 rw [this,Nat.zero_div]
theorem Ztj {D:Dm} (h:D.n ≠ 0):10 ^ 39<=(rootD D).n/\(rootD D).n < 10 ^ 40:=by
 have hp:80 - dl D.n<=padR D:=by rcases Zhh D with h|h <;> omega
 obtain ⟨c,hc,h1,h2⟩:=Zjx h hp
 unfold rootD
 simp only [hc]
 exact ⟨h1,h2⟩
theorem Zry (D:Dm):nd (sqrtD D).1.n<=40:=by
 unfold sqrtD
 by_cases hd:D.n=0
 ·have := Zjw hd
  unfold settleD;rw [if_pos this];decide
 ·obtain ⟨h1,h2⟩:=Ztj hd
  have := (Zpp h1 (Nat.le_of_lt h2)).1
  rcases Zgn (rootD D) with ⟨e,_⟩|⟨e,_⟩|⟨e,_⟩|⟨e,_⟩ <;> rw [e]
  ·decide
  ·decide
  ·decide
  ·exact this
end YtjbjkmccfocikaaGreatDoor.P.Nm
end
section
namespace YtjbjkmccfocikaaGreatDoor.B
open Go.RowKit YtjbjkmccfocikaaGreatDoorW.PrintWords YtjbjkmccfocikaaGreatDoorW.PrintLast YtjbjkmccfocikaaGreatDoorW.PrintMore
attribute [local go_sem] Zch Zci Zc9 Zda Zb1 Zb2 Zcp Zcq
def Zep.f (k:Nat) (a0_0:Bool) (l0_1:List Int) (a0_2:Int):Option (Bool):=(Za6.f k a0_0 l0_1 a0_2).bind fun qb=>(some (qb != 0))
theorem Zep.calls (k:Nat) (a0_0:Bool) (A0_1:Option Addr) (c0_1:Nat) (l0_1:List Int) (a0_2:Int) (r:Bool) (w:World) (hr0_1:Kd.C (Kd.int .u32) w A0_1 l0_1.length l0_1) (hc0_1:l0_1.length<=c0_1) (h:Zep.f k a0_0 l0_1 a0_2=some r) :
  Calls Tryz.prog 124 #[.agg #[.bool a0_0,.slice A0_1 l0_1.length c0_1,.int .i64 a0_2]] w fun e w'=>e=.returned (.bool r)/\Below w.heap.size w w':=by
 have hu24:=Tryz.underlying24
 have HR0_1:=am hr0_1
 have HC0_1:=am hc0_1
 clear hr0_1 hc0_1
 have HB:=am (Below.refl w.heap.size w)
 have H:((Za6.f k a0_0 l0_1 a0_2).bind fun qb=>(some (qb != 0)))=some r:=h
 clear h
 obtain ⟨qb,A2,H⟩:=ob H
 obtain rfl:=Option.some.inj H
 go_enter Tryz.func124,Tryz.ntmps124
 go_wp2_with (first|((with_reducible refine gd 1 ?_);refine bx 1 #[.bool a0_0,.slice A0_1 l0_1.length c0_1,.int .i64 a0_2] 24 (h:=?_);intro qd hg w3 hbox hb;have qa:=am hbox;have qc:=gW hg;replace HB:=bS hb;clear hb hbox hg;obtain ⟨_,_,_,_,_,_⟩:=cEc qa.o)|(refine gL (some 4) Tryz.func55 #[.agg #[.bool a0_0,.slice A0_1 l0_1.length c0_1,.int .i64 a0_2]] (h:=?_);(with_reducible refine (Za6.calls k a0_0 _ _ l0_1 a0_2 qb _ ?side1 ?side2 A2.o).mono ?_);(case side1=>exact cB HR0_1 HB);(case side2=>exact HC0_1.o);rintro e w5 ⟨rfl,hb⟩;refine ⟨_,rfl,?_⟩;replace qa:=bb qa hb;replace HB:=bS hb))
 go_ret
 exact ⟨pE,pB⟩
end YtjbjkmccfocikaaGreatDoor.B
end
section
namespace YtjbjkmccfocikaaGreatDoor.B
open Go.RowKit YtjbjkmccfocikaaGreatDoorW.PrintWords YtjbjkmccfocikaaGreatDoor.P
def Zcf.f (k:Nat) (l:List S24):Option Bool:=anyO (fun x=>Zep.f k x.f0 x.f1 x.f2) l
theorem Zcf.index (k:Nat) (A0:Option Addr) (c0:Nat) (l0:List S24) (b:Bool) (w:World) (hr0:Kd.C k24 w A0 l0.length l0) (hc0:l0.length<=c0) (h:Zcf.f k l0=some b) :
  Calls Tryz.prog 154 #[.slice A0 l0.length c0,.func (.func 124) #[] #[]] w fun e w'=>IdxR b e/\Below w.heap.size w w':=by
 have hm:l0.length<=9223372036854775807:=Kd.Zto hr0
 have HR:=Aside0.mk hr0
 have HC:=Aside0.mk hc0
 unfold Zcf.f at h
 have H0:=Aside0.mk h
 obtain ⟨n,hn⟩:∃ n,l0.length=n:=⟨_,rfl⟩
 rw [hn] at hm
 have HN:=Aside0.mk hn
 clear h hr0 hc0
 rw [hn]
 clear hn
 go_enter Tryz.func154,Tryz.ntmps154
 go_wp2
 go_loopw [8] (fun i wr => ∃ k_:Nat,k_<=n/\i=.int .i64 k_/\Aside0 (anyO (fun x=>Zep.f k x.f0 x.f1 x.f2) (l0.drop k_)=some b)/\Below w.heap.size w wr) (fun i _=>n - (intOf i).toNat)
 case atStart=>exact ⟨0,Nat.zero_le _,rfl,⟨H0.out⟩,Below.refl _ _⟩
 case round =>
  obtain ⟨q,hq,rfl,HP,hb⟩:=hrel
  by_cases hlt:q < n
  ·have hlt':(q:Int) < (n:Int):=by omega
   have hdrop:l0.drop q=(l0.getD q z24) :: l0.drop (q+1):=Zng (by have := HN.out;omega)
   obtain ⟨x,hx⟩:∃ x,l0.getD q z24=x:=⟨_,rfl⟩
   have h1:=HP.out
   rw [hdrop,hx] at h1
   obtain ⟨t,ht,h2⟩:=Zkv h1
   obtain ⟨ad,c,hA,_,hK,hcc⟩:=Kd.Zor HR.out z24 (q:Int) (by omega) (by have := HN.out;omega)
   have hx':l0.getD (q:Int).toNat z24=x:=by rw [Int.toNat_natCast];exact hx
   rw [hx'] at hK
   obtain ⟨A1,c1,rfl,hl1,hg1⟩:=Znl hK
   have hcell0:=hcc 0 _ rfl
   have hcell1:=hcc 1 _ rfl
   have hcell2:=hcc 2 _ rfl
   obtain ⟨ad',c',hA',_,hK',hcc'⟩:=Kd.Zor HR.out z24 (0:Int) (by omega) (by have := HN.out;omega)
   obtain ⟨_,_,rfl,_⟩:=Znl hK'
   have hfirst:=hcc' 0 _ rfl
   obtain rfl:ad=ad':=Option.some.inj (hA.symm.trans hA')
   subst hA
   obtain ⟨b_,o_,rfl⟩:=Zm8 (show w.cell? ad=_ from hfirst)
   have hck0:wr.cell? ⟨b_,o_+q*3,none⟩=some (.bool x.f0):=by
    have h3:=Zdg hb hcell0
    rw [Zj3] at h3
    simpa [show k24.sz=3 from rfl,Nat.add_assoc] using h3
   have hck1:wr.cell? ⟨b_,o_+q*3+1,none⟩=some (.slice A1 x.f1.length c1):=by
    have h3:=Zdg hb hcell1
    rw [Zj3] at h3
    simpa [show k24.sz=3 from rfl,Nat.add_assoc] using h3
   have hck2:wr.cell? ⟨b_,o_+q*3+2,none⟩=some (.int .i64 x.f2):=by
    have h3:=Zdg hb hcell2
    rw [Zj3] at h3
    simpa [show k24.sz=3 from rfl,Nat.add_assoc] using h3
   have hgw:Kd.C (Kd.int .u32) wr A1 x.f1.length x.f1:=Kd.Zi hg1 hb
   have cF:=Zep.calls k x.f0 A1 c1 x.f1 x.f2 t wr hgw hl1 ht
   obtain ⟨y0,hy0⟩:∃ y,x.f0=y:=⟨_,rfl⟩
   obtain ⟨y1,hy1⟩:∃ y,x.f1.length=y:=⟨_,rfl⟩
   obtain ⟨y2,hy2⟩:∃ y,x.f2=y:=⟨_,rfl⟩
   rw [hy0] at hck0 cF
   rw [hy1] at hck1 cF
   rw [hy2] at hck2 cF
   have HF:=Aside0.mk h2
   clear h1 hdrop hx hx' ht hcc hcell0 hcell1 hcell2 HP h2 hK hl1 hg1 hgw hy0 hy1 hy2 hfirst hcc' hA' hK'
   cases t with
   | true =>
    have HF1:=Aside0.mk (HF.out.1 rfl)
    clear HF
    go_wp2_with (go_at_call 124;refine (cF).mono ?_;rintro e w1 ⟨rfl,hb1⟩)
    go_ret
    exact ⟨Zpt HF1.out q,hb.trans (hb1.mono hb.size)⟩
   | false =>
    have HF1:=Aside0.mk (HF.out.2 rfl)
    clear HF
    go_wp2_with (go_at_call 124;refine (cF).mono ?_;rintro e w1 ⟨rfl,hb1⟩)
    go_roundw
    case rel=>exact ⟨q+1,by omega,by go_num,HF1,hb.trans (hb1.mono hb.size)⟩
    case measure=>simp [intOf];omega
  ·obtain rfl:q=n:=by omega
   have h1:=HP.out
   rw [List.drop_of_length_le (by have := HN.out;omega)] at h1
   have h2:=Aside0.mk (Zna h1)
   clear h1
   go_wp2
   go_ret
   exact ⟨Zlb h2.out,hb⟩
theorem Zcf.calls (k:Nat) (A0:Option Addr) (c0:Nat) (l0:List S24) (r:Bool) (w:World) (hr0:Kd.C k24 w A0 l0.length l0) (hc0:l0.length<=c0) (h:Zcf.f k l0=some r) :
  Calls Tryz.prog 123 #[.slice A0 l0.length c0,.func (.func 124) #[] #[]] w fun e w'=>e=.returned (.bool r)/\Below w.heap.size w w':=by
 have cI:=Zcf.index k A0 c0 l0 r w hr0 hc0 h
 clear h hr0 hc0
 go_enter Tryz.func123,Tryz.ntmps123
 go_wp2_with (go_at_call 154;refine cI.mono ?_;rintro e w1 ⟨⟨i,rfl,hi⟩,hb1⟩)
 go_ret
 exact ⟨by rw [<- hi];first|rfl|simp,hb1⟩
end YtjbjkmccfocikaaGreatDoor.B
end
section
namespace YtjbjkmccfocikaaGreatDoor.B
open Go.RowKit YtjbjkmccfocikaaGreatDoorW.PrintWords YtjbjkmccfocikaaGreatDoorW.PrintLast YtjbjkmccfocikaaGreatDoorW.PrintMore
attribute [local go_sem] Zch Zci Zc9 Zda Zb1 Zb2 Zcp Zcq
def Zdi.f (k:Nat) (l0:List (S24)):Option (Int):=(Zcf.f k l0).bind fun qa=>(if qa=true then (some 9) else (some 0))
theorem Zdi.calls (k:Nat) (A0:Option Addr) (c0:Nat) (l0:List (S24)) (r:Int) (w:World) (hr0:Kd.C k24 w A0 l0.length l0) (hc0:l0.length<=c0) (h:Zdi.f k l0=some r) :
  Calls Tryz.prog 67 #[.slice A0 l0.length c0] w fun e w'=>e=.returned (.int .i64 r)/\Below w.heap.size w w':=by
 have HR0:=am hr0
 have HC0:=am hc0
 clear hr0 hc0
 have HB:=am (Below.refl w.heap.size w)
 have H:((Zcf.f k l0).bind fun qa=>(if qa=true then (some 9) else (some 0)))=some r:=h
 clear h
 replace H:=ob H
 obtain ⟨qa,A2,H⟩:=H
 replace H:=tI (t:=qa) H
 rcases H with ⟨rfl,H⟩|⟨rfl,H⟩
 ·obtain rfl:=Option.some.inj H
  go_enter Tryz.func67,Tryz.ntmps67
  go_wp2_with (first|(refine gL (some 4) Tryz.func123 #[.slice A0 l0.length c0,.func (.func 124) #[] #[]] (h:=?_);(with_reducible refine (Zcf.calls k _ _ l0 true _ ?side1 ?side2 A2.o).mono ?_);(case side1=>refine cp ?_;exact HR0.o);(case side2=>exact HC0.o);rintro e w4 ⟨rfl,hb⟩;refine ⟨_,rfl,?_⟩;replace HB:=bS hb))
  go_ret
  exact ⟨pE,pB⟩
 ·obtain rfl:=Option.some.inj H
  go_enter Tryz.func67,Tryz.ntmps67
  go_wp2_with (first|(refine gL (some 4) Tryz.func123 #[.slice A0 l0.length c0,.func (.func 124) #[] #[]] (h:=?_);(with_reducible refine (Zcf.calls k _ _ l0 false _ ?side1 ?side2 A2.o).mono ?_);(case side1=>refine cp ?_;exact HR0.o);(case side2=>exact HC0.o);rintro e w5 ⟨rfl,hb⟩;refine ⟨_,rfl,?_⟩;replace HB:=bS hb))
  go_ret
  exact ⟨pE,pB⟩
def Zc2.f (a0:ByteArray) (a1:Int):Option (ByteArray):=some a0
theorem Zc2.calls (a0:ByteArray) (a1:Int) (r:ByteArray) (w:World) (h:Zc2.f a0 a1=some r) :
  Calls Tryz.prog 125 #[.string a0,.int .i64 a1] w fun e w'=>e=.returned (.string r)/\Drawn0 w w':=by
 have H:(some a0)=some r:=h
 clear h
 obtain rfl:=Option.some.inj H
 go_enter Tryz.func125,Tryz.ntmps125
 go_wp2
 go_ret
 exact ⟨pR,pD⟩
def Zbo.f (k:Nat) (l0:List Int):Option (Int):=(Zax.f k l0).bind fun qa=>((Zc2.f qa.1 qa.2).bind fun qb=>(some (qb.size:Int)))
theorem Zbo.calls (k:Nat) (A0:Option Addr) (c0:Nat) (l0:List Int) (r:Int) (w:World) (hr0:Kd.C (Kd.int .u32) w A0 l0.length l0) (hc0:l0.length<=c0) (h:Zbo.f k l0=some r) :
  Calls Tryz.prog 68 #[.slice A0 l0.length c0] w fun e w'=>e=.returned (.int .i64 r)/\Below w.heap.size w w':=by
 have HR0:=am hr0
 have HC0:=am hc0
 clear hr0 hc0
 have HB:=am (Below.refl w.heap.size w)
 have H:((Zax.f k l0).bind fun qa=>((Zc2.f qa.1 qa.2).bind fun qb=>(some (qb.size:Int))))=some r:=h
 clear h
 obtain ⟨⟨qc,qd⟩,A2,H⟩:=ob H;(try dsimp only at H)
 obtain ⟨qb,A3,H⟩:=ob H
 obtain rfl:=Option.some.inj H
 go_enter Tryz.func68,Tryz.ntmps68
 go_wp2_with (first|(refine gL (some 4) Tryz.func112 #[.slice A0 l0.length c0] (h:=?_);(with_reducible refine (Zax.calls k (fun k_=>k_ < w.heap.size) _ _ l0 qc qd _ ?side1 A2.o).mono ?_);(case side1=>exact Kd.V_mk HC0.o (Kd.Ze9 (Kd.C_F (Kd.Ze4 .u32) HR0.o) pB));rintro e w4 ⟨rfl,hb⟩;refine ⟨_,rfl,?_⟩;replace HB:=bS hb)|(refine gL (some 7) Tryz.func125 #[.string qc,.int .i64 qd] (h:=?_);(with_reducible refine (Zc2.calls qc qd qb _ A3.o).mono ?_);rintro e w' ⟨rfl,⟨nd,rfl⟩⟩;refine ⟨_,rfl,?_⟩))
 go_ret
 exact ⟨pE,pB⟩
def Zs.f (l0:List Int) (a1:Int):Option (List Int):=some l0
theorem Zs.calls (P0_:Nat->Prop) (u9000_:Value) (l0:List Int) (a1:Int) (r:List Int) (w0 w:World) (hB:Below w0.heap.size w0 w) (ho0:Kd.R (Kd.int .u32) 85 w w0.heap.size P0_ u9000_ l0) (h:Zs.f l0 a1=some r) :
  Calls Tryz.prog 70 #[u9000_,.int .i64 a1] w fun e w' => ∃ v0_:Value,e=.returned (v0_)/\Kd.R (Kd.int .u32) 85 w' w0.heap.size (fun k_=>(P0_ k_\/w.heap.size<=k_)) v0_ r/\Below w0.heap.size w0 w'/\Kept w w' (fun k_=>P0_ k_):=by
 have HO0:=am (show Kd.R (Kd.int .u32) 85 w w0.heap.size (fun k_=>(P0_ k_\/w.heap.size<=k_)) u9000_ l0 from Kd.Zo ho0 (fun k_ hk=>(.inl hk)))
 have HK:=am (Kept.refl w (fun k_=>P0_ k_))
 have HW0:=am hB.size
 have HB:=am hB
 clear hB
 have H:(some l0)=some r:=h
 clear h
 obtain rfl:=Option.some.inj H
 go_enter Tryz.func70,Tryz.ntmps70
 go_wp2
 go_ret
 exact ⟨_,pE,by refine rp ?_;exact HO0.o,pB,by repeat (first|(with_reducible first|exact HK.out|apply Kept.alloc|apply Kept.drewN|apply Kept.drew)|exact HK.out)⟩
def Zbq.f (k:Nat) (a0:Int):Option (List Int):=(Zg4.f k a0).bind fun qa=>((Zs.f qa.1 qa.2).bind fun qd=>(some qd))
theorem Zbq.calls (k:Nat) (a0:Int) (r:List Int) (w:World) (h:Zbq.f k a0=some r) :
  Calls Tryz.prog 72 #[.int .i64 a0] w fun e w' => ∃ v0_:Value,e=.returned (v0_)/\Kd.R (Kd.int .u32) 85 w' w.heap.size (fun _=>True) v0_ r/\Below w.heap.size w w':=by
 have HB:=am (Below.refl w.heap.size w)
 have H:((Zg4.f k a0).bind fun qa=>((Zs.f qa.1 qa.2).bind fun qd=>(some qd)))=some r:=h
 clear h
 obtain ⟨⟨qc,qe⟩,A2,H⟩:=ob H;(try dsimp only at H)
 obtain ⟨qd,A3,H⟩:=ob H
 obtain rfl:=Option.some.inj H
 go_enter Tryz.func72,Tryz.ntmps72
 go_wp2_with (first|(refine gL (some 4) Tryz.func130 #[.int .i64 a0] (h:=?_);(with_reducible refine (Zg4.calls k a0 qc qe _ A2.o).mono ?_);rintro e w4 ⟨qg,rfl,ho0,hb⟩;refine ⟨_,rfl,?_⟩;have qb:=am (Kd.Zn ho0 (Zb pB));replace HB:=bS hb;obtain ⟨Ao5,co5,eo5⟩:=Kd.Zh qb.o;subst eo5)|(refine gL (some 7) Tryz.func70 #[.slice Ao5 qc.length co5,.int .i64 qe] (h:=?_);(with_reducible refine (Zs.calls (fun k_=>some k_=(.slice Ao5 qc.length co5:Value).ownBlock) (.slice Ao5 qc.length co5) qc qe qd w _ ?side1 ?side2 A3.o).mono ?_);(case side1=>exact pB);(case side2=>exact Kd.Zby rfl qb.o);rintro e w6 ⟨qh,rfl,ho0,hb,hkp⟩;refine ⟨_,rfl,?_⟩;have qf:=am (Kd.Zo (ok':=fun k_=>True) ho0 (fun k_ hk_=>trivial));replace HB:=am hb;clear qb))
 go_ret
 exact ⟨_,pE,by refine rp ?_;exact qf.o,pB⟩
def Zce.f (k:Nat) (l0:List Int) (a1:Int):Option (List Int × List Int × Int):=(Zbo.f k l0).bind fun qc=>((Zbq.f k (mx (wrap64 (qc - a1)) 0)).bind fun qd=>((Zcz.f k l0 qd).bind fun qa=>(some (qa.1,qa.2.1,mx (wrap64 (qc - a1)) 0))))
theorem Zce.calls (k:Nat) (A0:Option Addr) (c0:Nat) (l0:List Int) (a1:Int) (r1:List Int) (r2:List Int) (r3:Int) (w:World) (hr0:Kd.C (Kd.int .u32) w A0 l0.length l0) (hc0:l0.length<=c0) (h:Zce.f k l0 a1=some (r1,r2,r3)) :
  Calls Tryz.prog 73 #[.slice A0 l0.length c0,.int .i64 a1] w fun e w' => ∃ v0_ v1_:Value,e=.returned (.tuple #[v0_,v1_,.int .i64 r3])/\Kd.R (Kd.int .u32) 85 w' w.heap.size (fun k_=>some k_ ≠ (v1_:Value).ownBlock) v0_ r1/\Kd.R (Kd.int .u32) 85 w' w.heap.size (fun k_=>some k_ ≠ (v0_:Value).ownBlock) v1_ r2/\Below w.heap.size w w':=by
 have HR0:=am hr0
 have HC0:=am hc0
 clear hr0 hc0
 have HB:=am (Below.refl w.heap.size w)
 have H:((Zbo.f k l0).bind fun qc=>((Zbq.f k (mx (wrap64 (qc - a1)) 0)).bind fun qd=>((Zcz.f k l0 qd).bind fun qa=>(some (qa.1,qa.2.1,mx (wrap64 (qc - a1)) 0)))))=some (r1,r2,r3):=h
 clear h
 obtain ⟨qc,A3,H⟩:=ob H
 obtain ⟨ji4,hji4⟩:∃ j_:Int,(mx (wrap64 (qc - a1)) 0)=j_:=⟨_,rfl⟩
 replace H:((Zbq.f k (ji4)).bind fun qd=>((Zcz.f k l0 qd).bind fun qa=>(some (qa.1,qa.2.1,ji4))))=some (r1,r2,r3):=by first|(rw [hji4] at H;exact H)|(simp only [hji4] at H ⊢;exact H)
 (try rw [hji4] at A3)
 (try (have hji4l:0<=ji4:=by (rw [<- hji4];unfold mx;(repeat' split) <;> omega)))
 (try (have hji4m:0<=ji4:=by omega))
 have hji4_:(if (wrap64 (qc - a1)) < 0 then 0 else (wrap64 (qc - a1)))=ji4:=hji4
 obtain ⟨qd,A5,H⟩:=ob H
 obtain ⟨⟨qg,qh,qi⟩,A6,H⟩:=ob H;(try dsimp only at H)
 simp only [Option.some.injEq,Prod.mk.injEq] at H
 obtain ⟨rfl,rfl,rfl⟩:=H
 go_enter Tryz.func73,Tryz.ntmps73
 go_wp2_with (first|(refine gL (some 8) Tryz.func68 #[.slice A0 l0.length c0] (h:=?_);(with_reducible refine (Zbo.calls k _ _ l0 qc _ ?side1 ?side2 A3.o).mono ?_);(case side1=>refine cp ?_;exact HR0.o);(case side2=>exact HC0.o);rintro e w7 ⟨rfl,hb⟩;refine ⟨_,rfl,?_⟩;replace HB:=bS hb)|((with_reducible refine Zfc (f:=72) rfl ?_);refine goesL_ (some 15) rfl rfl Tryz.func72 (by kernel_rfl) rfl #[.int .i64 ji4] rfl (by (try simp only [List.map_toArray,List.map_cons,List.map_nil]);first|done|(simp only [hji4];rfl)|rfl|(simp only [List.length_drop,List.length_take];rfl)) ?_;(with_reducible refine (Zbq.calls k ji4 qd _ A5.o).mono ?_);rintro e w8 ⟨qj,rfl,ho0,hb⟩;refine ⟨_,rfl,?_⟩;have qb:=am (Kd.Zn ho0 (Zb pB));replace HB:=bS hb;obtain ⟨Ao9,co9,eo9⟩:=Kd.Zh qb.o;subst eo9)|(refine gL (some 16) Tryz.func69 #[.slice A0 l0.length c0,.slice Ao9 qd.length co9] (h:=?_);(with_reducible refine (Zcz.calls k _ _ l0 _ _ qd qg qh qi _ ?side1 ?side2 ?side3 ?side4 A6.o).mono ?_);(case side1=>exact cB HR0 HB);(case side2=>exact HC0.o);(case side3=>exact Kd.Zi (Kd.Zc qb.o).2.2 pl);(case side4=>exact (Kd.Zc qb.o).2.1);rintro e w10 ⟨qk,ql,rfl,ho0,ho1,hb⟩;refine ⟨_,rfl,?_⟩;have qe:=am (Kd.Zn (Kd.Zf ho0 (Kd.R_lt (Kd.Za qb.o pl))) (Zb pB));have qf:=am (Kd.Zn (Kd.Zf ho1 (Kd.R_lt (Kd.Za qb.o pl))) (Zb pB));replace qb:=am (Kd.Zo (Kd.Zbr (Kd.Zbr (Kd.Ze2 (Kd.Za qb.o pl) hb) (Kd.Zt ho0)) (Kd.Zt ho1)) (fun _ h_=>h_.1));replace HB:=bS hb))
 go_ret3
 exact ⟨_,_,by first|rfl|(simp [Zap,Zaq] <;> rfl)|(simp only [<- hji4];first|rfl|(simp [Zap,Zaq] <;> rfl))|(simp [*,Zap,Zaq] <;> rfl),by refine rp ?_;exact Kd.Zo qe.o (fun _ hk=>hk.1),by refine rp ?_;exact Kd.Zo qf.o (fun _ hk=>hk.1),pB⟩
def Zbf.f (k:Nat) (l0:List Int) (l1:List Int) (a2:Int) (a3:Bool):Option (Bool):=if a2=0 then (some false) else ((Zbq.f k (wrap64 (a2 - 1))).bind fun qc=>((Zcr.f k 5).bind fun qd=>((Zdb.f k qc qd).bind fun qf=>((Zs.f qf.1 qf.2).bind fun qe=>((Zc3.f k l1 qe).bind fun qb=>(if (l0.length:Int) > 0 then (if 0 < (l0.length:Int) then (if qb.1 > 0 then (some true) else (if qb.1=0 then (if a3=true then (some true) else (some ((Int.tmod (rd l0 0) 2) == 1))) else (some false))) else (none)) else (if qb.1 > 0 then (some true) else (if qb.1=0 then (if a3=true then (some true) else (some false)) else (some false)))))))))
theorem Zbf.leaf {P:Prop} (h:P:=by
 go_enter Tryz.func74,Tryz.ntmps74
 go_wp2_with (first|(refine gL (some 17) Tryz.func72 #[.int .i64 (wrap64 (a2 - 1))] (h:=?_);(with_reducible refine (Zbq.calls k (wrap64 (a2 - 1)) qc _ A6.o).mono ?_);rintro e w0z ⟨v1z,rfl,ho2z,hb⟩;refine ⟨_,rfl,?_⟩;have HO3z:=am (Kd.Zn ho2z (Zb pB));replace HB:=bS hb)|(refine gL (some 18) Tryz.func76 #[.int .u64 5] (h:=?_);(with_reducible refine (Zcr.calls k 5 qd _ A7.o).mono ?_);rintro e w4z ⟨v5z,rfl,ho2z,hb⟩;refine ⟨_,rfl,?_⟩;have HO6z:=am (Kd.Zn (Kd.Zf ho2z (Kd.R_lt (Kd.Za HO3z.o pl))) (Zb pB));replace HO3z:=reR HO3z ho2z hb;replace HB:=bS hb;obtain ⟨Ao7z,co8z,eo9z⟩:=Kd.Zh HO3z.o;subst eo9z;obtain ⟨qg,qj,qp⟩:=Kd.Zh HO6z.o;subst qp)|(refine gL (some 19) Tryz.func71 #[.slice Ao7z qc.length co8z,.slice qg qd.length qj] (h:=?_);(with_reducible refine (Zdb.calls k _ _ qc _ _ qd ql qo _ ?side1 ?side2 ?side3 ?side4 A8.o).mono ?_);(case side1=>exact Kd.Zi (Kd.Zc HO3z.o).2.2 pl);(case side2=>exact (Kd.Zc HO3z.o).2.1);(case side3=>exact Kd.Zi (Kd.Zc HO6z.o).2.2 pl);(case side4=>exact (Kd.Zc HO6z.o).2.1);rintro e w13z ⟨v14z,rfl,ho2z,hb⟩;refine ⟨_,rfl,?_⟩;have qi:=am (Kd.Zn (Kd.Zf (Kd.Zf ho2z (Kd.R_lt (Kd.Za HO3z.o pl))) (Kd.R_lt (Kd.Za HO6z.o pl))) (Zb pB));replace HO3z:=reR HO3z ho2z hb;replace HO6z:=reR HO6z ho2z hb;replace HB:=bS hb;obtain ⟨qh,qk,qq⟩:=Kd.Zh qi.o;subst qq)|(refine gL (some 22) Tryz.func70 #[.slice qh ql.length qk,.int .i64 qo] (h:=?_);(with_reducible refine (Zs.calls (fun k_=>some k_=(.slice qh ql.length qk:Value).ownBlock) (.slice qh ql.length qk) ql qo qe w _ ?side1 ?side2 A9.o).mono ?_);(case side1=>exact pB);(case side2=>exact Kd.Zby rfl qi.o);rintro e w19z ⟨v20z,rfl,ho2z,hb,hkp⟩;refine ⟨_,rfl,?_⟩;have qa:=am (Kd.Zo (ok':=fun k_=>some k_ ≠ (.slice Ao7z qc.length co8z:Value).ownBlock/\some k_ ≠ (.slice qg qd.length qj:Value).ownBlock) ho2z (fun k_ hk_=>⟨Or.elim hk_ (fun hs_=>fun e_=>(((HO3z.o).1 k_ e_.symm).2) hs_) (fun hn_=>(Kd.fresh' (Kd.R_lt (Kd.Za HO3z.o pl)) k_ hn_)),Or.elim hk_ (fun hs_=>fun e_=>(((HO6z.o).1 k_ e_.symm).2) hs_) (fun hn_=>(Kd.fresh' (Kd.R_lt (Kd.Za HO6z.o pl)) k_ hn_))⟩));replace HO3z:=am (Kd.Zo (ok':=fun k_=>some k_ ≠ (.slice qg qd.length qj:Value).ownBlock/\some k_ ≠ (v20z:Value).ownBlock) (Kd.Zcc (HO3z.o) hkp (fun k_ hk_ hs_=>(hk_.2) hs_)) (fun k_ hk_=>⟨hk_.1.1.2,fun e_=>Or.elim (ho2z.1 k_ e_.symm) (fun hs_=>hk_.2.1 hs_) (fun hn_=>Nat.not_le.2 hk_.2.2 hn_)⟩));replace HO6z:=am (Kd.Zo (ok':=fun k_=>some k_ ≠ (.slice Ao7z qc.length co8z:Value).ownBlock/\some k_ ≠ (v20z:Value).ownBlock) (Kd.Zcc (HO6z.o) hkp (fun k_ hk_ hs_=>(hk_.2) hs_)) (fun k_ hk_=>⟨hk_.1.1.2,fun e_=>Or.elim (ho2z.1 k_ e_.symm) (fun hs_=>hk_.2.1 hs_) (fun hn_=>Nat.not_le.2 hk_.2.2 hn_)⟩));replace HB:=am hb;clear qi;obtain ⟨qm,qn,qr⟩:=Kd.Zh qa.o;subst qr)|((have q_:decide (0 < l0.length)=true:=c12b1;clear q_);refine gL (some 26) Tryz.func90 #[.slice A1 l1.length c1,.slice qm qe.length qn] (h:=?_);(with_reducible refine (Zc3.calls k _ _ l1 _ _ qe qs qt _ ?side1 ?side2 ?side3 ?side4 A10.o).mono ?_);(case side1=>exact cB HR1 HB);(case side2=>exact HC1.o);(case side3=>exact Kd.Zi (Kd.Zc qa.o).2.2 pl);(case side4=>exact (Kd.Zc qa.o).2.1);rintro e w25z ⟨rfl,hb⟩;refine ⟨_,rfl,?_⟩;replace HO3z:=rbl HO3z hb;replace HO6z:=rbl HO6z hb;replace qa:=rbl qa hb;replace HB:=bS hb;have p26z:0<=(0:Int):=(by omega);have q27z:0 < (l0.length:Int):=of_decide_eq_true pQ;obtain ⟨ad28z,e29z,hx30z⟩:=Kd.Zay HR0.o 0 p26z q27z;cases e29z;have qi31z:(0 < l0.length)=True:=eq_true (by omega);(try rw [show ((0:Int)).toNat=0 from rfl] at hx30z);(try rw [Addr.add_zero'] at hx30z);replace hx30z:=(HB.o.cell (World.block_lt_of_cell? w _ hx30z)).trans hx30z;replace p26z:=eq_true p26z;replace q27z:=eq_true q27z)|((have q_:decide (0 < l0.length)=false:=c11b1;clear q_);refine gL (some 26) Tryz.func90 #[.slice A1 l1.length c1,.slice qm qe.length qn] (h:=?_);(with_reducible refine (Zc3.calls k _ _ l1 _ _ qe qs qt _ ?side1 ?side2 ?side3 ?side4 A10.o).mono ?_);(case side1=>exact cB HR1 HB);(case side2=>exact HC1.o);(case side3=>exact Kd.Zi (Kd.Zc qa.o).2.2 pl);(case side4=>exact (Kd.Zc qa.o).2.1);rintro e w25z ⟨rfl,hb⟩;refine ⟨_,rfl,?_⟩;replace HO3z:=rbl HO3z hb;replace HO6z:=rbl HO6z hb;replace qa:=rbl qa hb;replace HB:=bS hb))
 go_ret
 exact ⟨pE,pB⟩):P:=h
theorem Zbf.calls (k:Nat) (A0:Option Addr) (c0:Nat) (l0:List Int) (A1:Option Addr) (c1:Nat) (l1:List Int) (a2:Int) (a3:Bool) (r:Bool) (w:World) (hr0:Kd.C (Kd.int .u32) w A0 l0.length l0) (hc0:l0.length<=c0) (hr1:Kd.C (Kd.int .u32) w A1 l1.length l1) (hc1:l1.length<=c1) (h:Zbf.f k l0 l1 a2 a3=some r) :
  Calls Tryz.prog 74 #[.slice A0 l0.length c0,.slice A1 l1.length c1,.int .i64 a2,.bool a3] w fun e w'=>e=.returned (.bool r)/\Below w.heap.size w w':=by
 have HR0:=am hr0
 have HC0:=am hc0
 clear hr0 hc0
 have HR1:=am hr1
 have HC1:=am hc1
 clear hr1 hc1
 have HB:=am (Below.refl w.heap.size w)
 have H:(if a2=0 then (some false) else ((Zbq.f k (wrap64 (a2 - 1))).bind fun qc=>((Zcr.f k 5).bind fun qd=>((Zdb.f k qc qd).bind fun qf=>((Zs.f qf.1 qf.2).bind fun qe=>((Zc3.f k l1 qe).bind fun qb=>(if (l0.length:Int) > 0 then (if 0 < (l0.length:Int) then (if qb.1 > 0 then (some true) else (if qb.1=0 then (if a3=true then (some true) else (some ((Int.tmod (rd l0 0) 2) == 1))) else (some false))) else (none)) else (if qb.1 > 0 then (some true) else (if qb.1=0 then (if a3=true then (some true) else (some false)) else (some false))))))))))=some r:=h
 clear h
 replace H:=eI H
 rcases H with ⟨c5b0,c5b1,H⟩|⟨c5,c5b0,c5b1,H⟩
 ·obtain rfl:=Option.some.inj H
  exact Zbf.leaf
 ·replace H:=ob H
  obtain ⟨qc,A6,H⟩:=H
  replace H:=ob H
  obtain ⟨qd,A7,H⟩:=H
  replace H:=ob H
  obtain ⟨⟨ql,qo⟩,A8,H⟩:=H;(try dsimp only at H)
  replace H:=ob H
  obtain ⟨qe,A9,H⟩:=H
  replace H:=ob H
  obtain ⟨⟨qs,qt⟩,A10,H⟩:=H;(try dsimp only at H)
  by_cases c11:(l0.length:Int) > 0
  ·rw [if_pos c11] at H
   have c11b0:decide (0 < (l0.length:Int))=true:=decide_eq_true c11
   have c11b1:decide (0 < l0.length)=true:=decide_eq_true (by omega)
   clear c11
   by_cases c12:0 < (l0.length:Int)
   ·rw [if_pos c12] at H
    have c12b0:decide (0 < (l0.length:Int))=true:=decide_eq_true c12
    have c12b1:decide (0 < l0.length)=true:=decide_eq_true (by omega)
    clear c12
    replace H:=gI H
    rcases H with ⟨c13b0,H⟩|⟨c13b0,H⟩
    ·obtain rfl:=Option.some.inj H
     exact Zbf.leaf
    ·replace H:=eI H
     rcases H with ⟨c23b0,c23b1,H⟩|⟨c23,c23b0,c23b1,H⟩
     ·replace H:=tI (t:=a3) H
      rcases H with ⟨rfl,H⟩|⟨rfl,H⟩
      ·obtain rfl:=Option.some.inj H
       exact Zbf.leaf
      ·obtain rfl:=Option.some.inj H
       exact Zbf.leaf
     ·obtain rfl:=Option.some.inj H
      exact Zbf.leaf
   ·rw [if_neg c12] at H
    cases H
  ·rw [if_neg c11] at H
   have c11b0:decide (0 < (l0.length:Int))=false:=decide_eq_false c11
   have c11b1:decide (0 < l0.length)=false:=decide_eq_false (by omega)
   clear c11
   replace H:=gI H
   rcases H with ⟨c52b0,H⟩|⟨c52b0,H⟩
   ·obtain rfl:=Option.some.inj H
    exact Zbf.leaf
   ·replace H:=eI H
    rcases H with ⟨c62b0,c62b1,H⟩|⟨c62,c62b0,c62b1,H⟩
    ·replace H:=tI (t:=a3) H
     rcases H with ⟨rfl,H⟩|⟨rfl,H⟩
     ·obtain rfl:=Option.some.inj H
      exact Zbf.leaf
     ·obtain rfl:=Option.some.inj H
      exact Zbf.leaf
    ·obtain rfl:=Option.some.inj H
     exact Zbf.leaf
end YtjbjkmccfocikaaGreatDoor.B
end
end Go.Proofs
