/- QuotHalf, part 3 of 7 of its proof (no condition); names with a low line are shortened throughout. -/
import Derived.Test.YtjbjkmccfocikaaGreatDoorZQuotHalf1
import Derived.Lib.BitFns
set_option linter.unusedVariables false
set_option linter.unusedSimpArgs false
set_option maxRecDepth 100000
set_option maxHeartbeats 8000000
namespace Go.Proofs
section
namespace YtjbjkmccfocikaaGreatDoor.P
open Go.RowKit YtjbjkmccfocikaaGreatDoor.B YtjbjkmccfocikaaGreatDoorW.PrintWords YtjbjkmccfocikaaGreatDoorW.PrintLast YtjbjkmccfocikaaGreatDoorW.PrintMore YtjbjkmccfocikaaGreatDoor.P.Nm
theorem Zfv {n:Nat} (h:n < 32):2 ^ n<=2147483648:=by
 have := Nat.pow_le_pow_right (show 0 < 2 by omega) (show n<=31 by omega)
 exact Nat.le_trans this (by decide)
theorem two_pow_pos (n:Nat):0 < 2 ^ n:=Nat.pow_pos (by omega)
theorem Zg1 {n:Nat} (h:n<=32):2 ^ n*2 ^ (32 - n)=4294967296:=by rw [<- Nat.pow_add,show n+(32 - n)=32 by omega]
theorem Zk3 (n h l:Nat) (hl:l < 2 ^ n):(h*2 ^ n) ||| l=h*2 ^ n+l:=by
 rw [Nat.mul_comm,<- Nat.two_pow_add_eq_or_of_lt hl]
theorem shl32 {x n:Nat} (h:n<=32) (hx:x < 4294967296):shl .u32 (x:Int) (n:Int)=(((x*2 ^ n) % 4294967296:Nat):Int):=by
 unfold shl
 rw [Int.toNat_natCast,show IntKind.u32.bits=32 from rfl,Nat.min_eq_left h]
 have e:(x:Int)*2 ^ n=((x*2 ^ n:Nat):Int):=by rw [Int.natCast_mul,Int.natCast_pow];rfl
 rw [e]
 simp [IntKind.wrap,IntKind.bits,IntKind.signed]
theorem shl64 {x n:Nat} (h:n<=64) (hx:x*2 ^ n < 18446744073709551616):shl .u64 (x:Int) (n:Int)=((x*2 ^ n:Nat):Int):=by
 unfold shl
 rw [Int.toNat_natCast,show IntKind.u64.bits=64 from rfl,Nat.min_eq_left h]
 have e:(x:Int)*2 ^ n=((x*2 ^ n:Nat):Int):=by rw [Int.natCast_mul,Int.natCast_pow];rfl
 rw [e,u64n hx]
theorem Zpg {k:IntKind} {x n:Nat} (h:n<=k.bits):shr k (x:Int) (n:Int)=((x / 2 ^ n:Nat):Int):=by
 unfold shr
 rw [Int.toNat_natCast,Nat.min_eq_left h,Int.natCast_ediv,Int.natCast_pow];rfl
theorem Zml {x n m:Nat} (hn:n < 32) (hx:x < 4294967296) (hm:m < 2 ^ n):bits .or .u32 (((x*2 ^ n) % 4294967296:Nat):Int) (m:Int)=(((x*2 ^ n) % 4294967296+m:Nat):Int)/\(x*2 ^ n) % 4294967296+m < 4294967296/\x / 2 ^ (32 - n) < 2 ^ n/\(x*2 ^ n) % 4294967296+m+4294967296*(x / 2 ^ (32 - n))=x*2 ^ n+m:=by
 have h2:=Zfv hn
 have h3:=two_pow_pos n
 have h4:=Zg1 (n:=n) (by omega)
 have h5:=two_pow_pos (32 - n)
 obtain ⟨P,hP⟩:∃ P,2 ^ n=P:=⟨_,rfl⟩
 obtain ⟨R,hR⟩:∃ R,2 ^ (32 - n)=R:=⟨_,rfl⟩
 rw [hP] at h2 h3 h4 hm ⊢
 rw [hR] at h4 h5 ⊢
 have e1:(x*P) % 4294967296=(x % R)*P:=by rw [<- h4,Nat.mul_comm P R];exact Nat.mul_mod_mul_right P x R
 have e2:x % R < R:=Nat.mod_lt _ h5
 have e3:(x % R)*P+P<=4294967296:=by
  have := Nat.mul_le_mul_right P (show x % R+1<=R by omega)
  rw [Nat.add_mul,Nat.one_mul,Nat.mul_comm R P,h4] at this
  exact this
 have e4:x / R < P:=(Nat.div_lt_iff_lt_mul h5).2 (by rw [h4];exact hx)
 have e5:x*P=R*P*(x / R)+(x % R)*P:=by
  have := Nat.div_add_mod x R
  conv=>lhs;rw [<- this]
  rw [Nat.add_mul,Nat.mul_right_comm]
 rw [e1]
 refine ⟨?_,by omega,e4,?_⟩
 ·rw [u32_or_nat _ _ (by omega) (by omega),<- hP,Zk3 n _ _ (by rw [hP];exact hm)]
 ·rw [e5,Nat.mul_comm R P,h4];omega
structure LeftAt (a:List Int) (n i m:Nat) (o:List Int):Prop where
 len:o.length=i
 dg:Dg 4294967296 o
 m1:m < 2 ^ n
 law:val 4294967296 o+pw 4294967296 i*m=val 4294967296 (a.take i)*((2 ^ n:Nat):Int)
theorem LeftAt.step {a:List Int} {n i m:Nat} {o:List Int} (h:LeftAt a n i m o) (hn:n < 32) {x:Nat} (hx:a.getD i 0=x) (hx1:x < 4294967296) :
  LeftAt a n (i+1) (x / 2 ^ (32 - n)) (o ++ [(((x*2 ^ n) % 4294967296+m:Nat):Int)]):=by
 obtain ⟨_,s2,s3,s4⟩:=Zml hn hx1 h.m1
 refine ⟨by simp [h.len],h.dg.app (Dg.one (by omega) (by omega)),s3,?_⟩
 rw [Zb2,Zde,h.len,Zd1,hx,Int.add_mul,<- h.law]
 generalize pw 4294967296 i=M
 obtain ⟨z,hz⟩:∃ z,(x*2 ^ n) % 4294967296+m=z:=⟨_,rfl⟩
 obtain ⟨y,hy⟩:∃ y,x / 2 ^ (32 - n)=y:=⟨_,rfl⟩
 rw [hz,hy] at s4 ⊢
 have e1:M*(z:Int)+4294967296*M*(y:Int)=M*m+M*x*((2 ^ n:Nat):Int):=by
  rw [Int.mul_comm 4294967296 M,Int.mul_assoc,<- Int.mul_add,Int.mul_assoc,<- Int.mul_add,<- Int.natCast_mul]
  congr 1;omega
 omega
theorem Zoh {a:List Int} (ha:Dg 4294967296 a) (la:a.length<=1000000) (n:Nat) (hn:n < 32):∀ (d i m:Nat) (o:List Int),a.length - i=d->i<=a.length->LeftAt a n i m o ->
  ∃ R,Tells (fun k=>Za5.l0 k (n:Int) o (m:Int) a (a.length:Int) (i:Int)) R/\R.length=a.length+1/\Dg 4294967296 R/\val 4294967296 R=val 4294967296 a*((2 ^ n:Nat):Int)
 | 0,i,m,o,hd,hi,h=>by
  obtain rfl:i=a.length:=by omega
  have hlen:=h.len
  have c3:o.length < 35184372088832:=by omega
  have hm:=h.m1
  have h2:=Zfv hn
  refine ⟨o ++ [(m:Int)],?_,by simp [hlen],h.dg.app (Dg.one (by omega) (by omega)),?_⟩
  ·refine Tells.succ ?_
   simp only [Za5.l0]
   exact Tells.ifn (Int.lt_irrefl _) (Tells.ifp c3 (Tells.pure _))
  ·rw [Zde,hlen,h.law,List.take_length]
 | d+1,i,m,o,hd,hi,h=>by
  obtain ⟨x,hx,hx1⟩:=dgL ha i
  obtain ⟨s1,s2,s3,s4⟩:=Zml hn hx1 h.m1
  obtain ⟨R,h1,h2,h3,h4⟩:=Zoh ha la n hn d (i+1) _ _ (by omega) (by omega) (h.step hn hx hx1)
  refine ⟨R,?_,h2,h3,h4⟩
  have hlen:=h.len
  have hp:=Zfv hn
  have c1:(i:Int) < (a.length:Int):=by omega
  have c2:(0:Int)<=(i:Int):=by omega
  have c3:o.length < 35184372088832:=by omega
  have c4:(0:Int)<=(n:Int):=by omega
  have c5:(0:Int)<=((32 - n:Nat):Int):=by omega
  have e2:(32:Int) - (n:Int)=((32 - n:Nat):Int):=by omega
  have e3:((x / 2 ^ (32 - n):Nat):Int) % 4294967296=((x / 2 ^ (32 - n):Nat):Int):=by
   obtain ⟨y,hy⟩:∃ y,x / 2 ^ (32 - n)=y:=⟨_,rfl⟩
   rw [hy] at s3 ⊢
   omega
  refine Tells.succ ?_
  simp only [Za5.l0]
  rw [rd_n,hx,w64s (by omega),shl32 (by omega) hx1,s1,e2,w64c (m:=32 - n) (by omega),u64n (m:=x) (by omega),Zpg (k:=.u64) (by show 32 - n<=64;omega),e3]
  exact Tells.ifp c1 (Tells.ifp c2 (Tells.ifp c1 (Tells.ifp c4 (Tells.ifp c3 (Tells.ifp c5 h1)))))
theorem Zii {a:List Int} (ha:Dg 4294967296 a) (la:a.length<=1000000) (n:Nat) (hn:n < 32) :
  ∃ R,Tells (fun k=>Za5.f k a (n:Int)) R/\R.length=a.length+1/\Dg 4294967296 R/\val 4294967296 R=val 4294967296 a*((2 ^ n:Nat):Int):=by
 obtain ⟨R,h1,h2⟩:=Zoh ha la n hn a.length 0 0 [] (by omega) (by omega) ⟨rfl,Dg.nil _,two_pow_pos n,by simp [val]⟩
 refine ⟨R,?_,h2⟩
 unfold Za5.f
 rw [w64s (by omega)]
 exact Tells.ifp (by omega) (Tells.ifp (by omega) h1)
theorem Zmk {x y n:Nat} (hn:n < 32) (hx:x < 4294967296) (hy:y < 4294967296):bits .or .u32 ((x / 2 ^ n:Nat):Int) (((y*2 ^ (32 - n)) % 4294967296:Nat):Int)=((x / 2 ^ n+(y % 2 ^ n)*2 ^ (32 - n):Nat):Int)/\x / 2 ^ n+(y % 2 ^ n)*2 ^ (32 - n) < 4294967296:=by
 have h3:=two_pow_pos n
 have h4:=Zg1 (n:=n) (by omega)
 have h5:=two_pow_pos (32 - n)
 obtain ⟨P,hP⟩:∃ P,2 ^ n=P:=⟨_,rfl⟩
 obtain ⟨R,hR⟩:∃ R,2 ^ (32 - n)=R:=⟨_,rfl⟩
 rw [hP] at h3 h4 ⊢
 rw [hR] at h4 h5 ⊢
 have e1:(y*R) % 4294967296=(y % P)*R:=by rw [<- h4];exact Nat.mul_mod_mul_right R y P
 have e2:y % P < P:=Nat.mod_lt _ h3
 have e3:x / P < R:=(Nat.div_lt_iff_lt_mul h3).2 (by rw [Nat.mul_comm,h4];exact hx)
 have e4:(y % P)*R+R<=4294967296:=by
  have := Nat.mul_le_mul_right R (show y % P+1<=P by omega)
  rw [Nat.add_mul,Nat.one_mul,h4] at this
  exact this
 rw [e1]
 refine ⟨?_,by omega⟩
 rw [u32_or_nat _ _ (by omega) (by omega),Nat.or_comm,<- hR,Zk3 (32 - n) _ _ (by rw [hR];exact e3),Nat.add_comm]
structure RightAt (a:List Int) (n i:Nat) (o:List Int):Prop where
 len:o.length=a.length
 dg:Dg 4294967296 o
 law:val 4294967296 (o.take i)=(val 4294967296 a / ((2 ^ n:Nat):Int)) % pw 4294967296 i
 hi:∀ j,i<=j->o.getD j 0=0
theorem Zle {a:List Int} (ha:Dg 4294967296 a) {i n:Nat} (hn:n < 32) {x y:Nat} (hx:a.getD i 0=x) (hy:a.getD (i+1) 0=y) (hx1:x < 4294967296) (hy1:y < 4294967296) :
  (val 4294967296 a / ((2 ^ n:Nat):Int)) % pw 4294967296 (i+1)=(val 4294967296 a / ((2 ^ n:Nat):Int)) % pw 4294967296 i+pw 4294967296 i*((x / 2 ^ n+(y % 2 ^ n)*2 ^ (32 - n):Nat):Int):=by
 obtain ⟨V,hV⟩:∃ V:Nat,val 4294967296 a=V:=⟨(val 4294967296 a).toNat,by have := Zbq (b:=4294967296) (by omega) ha;omega⟩
 have hlow:∀ j,∃ L H:Nat,V=L+4294967296 ^ j*H/\L < 4294967296 ^ j/\val 4294967296 (a.drop j)=H:=fun j=>by
  by_cases hj:j<=a.length
  ·have h1:=Zh4 (b:=4294967296) a j hj
   have h2:=Zds (b:=4294967296) (by omega) (ha.take j)
   have h3:=Zbq (b:=4294967296) (by omega) (ha.take j)
   have h4:=Zbq (b:=4294967296) (by omega) (ha.drop j)
   rw [List.length_take,Nat.min_eq_left hj,pwL] at h2
   refine ⟨(val 4294967296 (a.take j)).toNat,(val 4294967296 (a.drop j)).toNat,?_,by omega,by omega⟩
   have e1:(((val 4294967296 (a.take j)).toNat:Nat):Int)=val 4294967296 (a.take j):=by omega
   have e2:(((val 4294967296 (a.drop j)).toNat:Nat):Int)=val 4294967296 (a.drop j):=by omega
   have:((V:Nat):Int)=(((val 4294967296 (a.take j)).toNat+4294967296 ^ j*(val 4294967296 (a.drop j)).toNat:Nat):Int):=by
    rw [Int.natCast_add,Int.natCast_mul,e1,e2,<- pwL,<- h1,hV]
   exact Int.ofNat.inj this
  ·refine ⟨V,0,by rw [Nat.mul_zero,Nat.add_zero],?_,by rw [List.drop_of_length_le (by omega)];rfl⟩
   have h2:=Zds (b:=4294967296) (by omega) ha
   rw [hV,pwL] at h2
   have h3:V < 4294967296 ^ a.length:=Int.ofNat_lt.1 h2
   exact Nat.lt_of_lt_of_le h3 (Nat.pow_le_pow_right (by omega) (by omega))
 obtain ⟨L,H,e1,e2,e3⟩:=hlow i
 obtain ⟨L2,H2,f1,f2,f3⟩:=hlow (i+1+1)
 have hH:H=x+4294967296*(y+4294967296*H2):=by
  have hd:∀ j,val 4294967296 (a.drop j)=a.getD j 0+4294967296*val 4294967296 (a.drop (j+1)):=fun j=>by
   by_cases hj:j < a.length
   ·rw [Zga hj,Zb1]
   ·rw [List.drop_of_length_le (by omega),List.drop_of_length_le (by omega),Ze2 (by omega)];rfl
  have h1:=hd i
  rw [hd (i+1),hx,hy,e3,f3] at h1
  omega
 rw [hV,pwL,pwL]
 have key:V / 2 ^ n % 4294967296 ^ (i+1)=V / 2 ^ n % 4294967296 ^ i+4294967296 ^ i*(x / 2 ^ n+(y % 2 ^ n)*2 ^ (32 - n)):=by
  have h3:=two_pow_pos n
  have h4:=Zg1 (n:=n) (by omega)
  rw [Nat.pow_succ,Nat.mod_mul]
  congr 2
  rw [Nat.div_div_eq_div_mul,Nat.mul_comm (2 ^ n),<- Nat.div_div_eq_div_mul]
  have hVH:V / 4294967296 ^ i=H:=by
   rw [e1,Nat.add_mul_div_left _ _ (Nat.pow_pos (by omega)),Nat.div_eq_of_lt e2,Nat.zero_add]
  rw [hVH,hH]
  obtain ⟨P,hP⟩:∃ P,2 ^ n=P:=⟨_,rfl⟩
  obtain ⟨R,hR⟩:∃ R,2 ^ (32 - n)=R:=⟨_,rfl⟩
  rw [hP] at h3 h4 ⊢
  rw [hR] at h4 ⊢
  have g1:(x+4294967296*(y+4294967296*H2)) / P=x / P+R*(y+4294967296*H2):=by
   rw [<- h4,Nat.mul_assoc,Nat.add_mul_div_left _ _ h3]
  rw [g1]
  have g2:y=P*(y / P)+y % P:=(Nat.div_add_mod y P).symm
  have e3':x / P < R:=(Nat.div_lt_iff_lt_mul h3).2 (by rw [Nat.mul_comm,h4];exact hx1)
  have e2':y % P < P:=Nat.mod_lt _ h3
  have e4':(y % P)*R+R<=4294967296:=by
   have := Nat.mul_le_mul_right R (show y % P+1<=P by omega)
   rw [Nat.add_mul,Nat.one_mul,h4] at this
   exact this
  have g3:x / P+R*(y+4294967296*H2)=(x / P+(y % P)*R)+4294967296*(y / P+R*H2):=by
   conv=>lhs;rw [g2]
   rw [Nat.mul_add R (_+_),Nat.mul_add R (P*_),<- Nat.mul_assoc R P,Nat.mul_comm R P,h4,Nat.mul_left_comm R 4294967296 H2,Nat.mul_comm R (y % P),Nat.mul_add 4294967296]
   omega
  rw [g3,Nat.add_mul_mod_self_left,Nat.mod_eq_of_lt (by omega)]
 have k2:((V / 2 ^ n % 4294967296 ^ (i+1):Nat):Int)=((V / 2 ^ n % 4294967296 ^ i+4294967296 ^ i*(x / 2 ^ n+(y % 2 ^ n)*2 ^ (32 - n)):Nat):Int):=congrArg (fun z:Nat=>(z:Int)) key
 rw [Int.natCast_add,Int.natCast_emod,Int.natCast_emod,Int.natCast_mul,Int.natCast_ediv] at k2
 exact k2
theorem RightAt.start {a:List Int} (ha:Dg 4294967296 a) (n:Nat):RightAt a n 0 (List.replicate a.length 0) :=
 ⟨by simp,Dg.zeros (by omega) _,by simp [val,pw,Int.emod_one],fun j _=>by simp [List.getD,List.getElem?_replicate];split <;> rfl⟩
theorem RightAt.step {a:List Int} {n i:Nat} {o:List Int} (h:RightAt a n i o) (ha:Dg 4294967296 a) (hn:n < 32) (hi:i < a.length) {x y:Nat} (hx:a.getD i 0=x) (hy:a.getD (i+1) 0=y) (hx1:x < 4294967296) (hy1:y < 4294967296) :
  RightAt a n (i+1) (o.set i ((x / 2 ^ n+(y % 2 ^ n)*2 ^ (32 - n):Nat):Int)):=by
 obtain ⟨_,s2⟩:=Zmk hn hx1 hy1
 have hlt:i < o.length:=by rw [h.len];exact hi
 refine ⟨by rw [List.length_set];exact h.len,Zg3 h.dg _ (Int.natCast_nonneg _) (Int.ofNat_lt.2 s2),?_,fun j hj=>?_⟩
 ·rw [Zb2,Zle ha hn hx hy hx1 hy1,<- h.law]
  congr 2
  ·rw [List.take_set_of_le (Nat.le_refl i)]
  ·rw [List.getD,List.getElem?_set_self hlt];rfl
 ·rw [getD_set_ne _ (by omega)];exact h.hi j (by omega)
theorem RightAt.done {a:List Int} {n:Nat} {o:List Int} (h:RightAt a n a.length o) (ha:Dg 4294967296 a):val 4294967296 o=((num a / 2 ^ n:Nat):Int):=by
 have hl:=h.law
 rw [List.take_of_length_le (by rw [h.len];exact Nat.le_refl _),<- Zc9 ha,pwL,<- Int.natCast_ediv,<- Int.natCast_emod,Nat.mod_eq_of_lt (Nat.lt_of_le_of_lt (Nat.div_le_self _ _) (Zoq ha))] at hl
 exact hl
theorem Zmg {a:List Int} (ha:Dg 4294967296 a) (la:a.length<=1000000) (n:Nat) (hn:n < 32):∀ (d i:Nat) (o:List Int),a.length - i=d->i<=a.length->RightAt a n i o ->
  Tells (fun k=>Zz.l0 k a (n:Int) o a (a.length:Int) (i:Int)) (limbs (num a / 2 ^ n))
 | 0,i,o,hd,hi,h=>by
  obtain rfl:i=a.length:=by omega
  have hlen:=h.len
  have hT:=Zdi h.dg (h.done ha) (by omega)
  refine Tells.succ ?_
  simp only [Zz.l0]
  exact Tells.ifn (Int.lt_irrefl _) (hT.bind (Tells.pure _))
 | d+1,i,o,hd,hi,h=>by
  have hil:i < a.length:=by omega
  obtain ⟨x,hx,hx1⟩:=dgL ha i
  obtain ⟨y,hy,hy1⟩:=dgL ha (i+1)
  obtain ⟨s1,s2⟩:=Zmk hn hx1 hy1
  have ih:=Zmg ha la n hn d (i+1) _ (by omega) (by omega) (h.step ha hn hil hx hy hx1 hy1)
  have hlen:=h.len
  have hlt:i < o.length:=by omega
  have hp:=Zfv hn
  have h3:=two_pow_pos n
  have c1:(i:Int) < (a.length:Int):=by omega
  have c2:(0:Int)<=(i:Int):=by omega
  have c3:(i:Int) < (o.length:Int):=by omega
  have c4:(0:Int)<=(n:Int):=by omega
  have c5:(0:Int)<=((32 - n:Nat):Int):=by omega
  have c6:(0:Int)<=((i+1:Nat):Int):=by omega
  have e2:(32:Int) - (n:Int)=((32 - n:Nat):Int):=by omega
  have hrd:(o.set i ((x / 2 ^ n:Nat):Int)).getD i 0=((x / 2 ^ n:Nat):Int):=by rw [List.getD,List.getElem?_set_self hlt];rfl
  have e5:y*2 ^ (32 - n) < 18446744073709551616:=by
   have h6:2 ^ (32 - n)<=4294967296:=Nat.le_trans (Nat.pow_le_pow_right (show 0 < 2 by omega) (show 32 - n<=32 by omega)) (by decide)
   have := Nat.mul_le_mul (show y<=4294967295 by omega) h6
   omega
  refine Tells.succ ?_
  simp only [Zz.l0]
  rw [rd_n,hx,w64s (by omega),Zpg (k:=.u32) (by show n<=32;omega),Int.toNat_natCast]
  refine Tells.ifp c1 (Tells.ifp c2 (Tells.ifp c1 (Tells.ifp c4 (Tells.ifp c3 ((Tells.pure _).bind ?_)))))
  rw [rd_n,rd_n,hy,hrd,e2,w64c (m:=32 - n) (by omega),u64n (m:=y) (by omega),shl64 (by omega) e5,emod32,s1,List.set_set]
  by_cases h1:i+1 < a.length
  ·exact Tells.ifp (by omega) (Tells.ifp c6 (Tells.ifp c5 ih))
  ·have hy0:y=0:=by have := Ze2 (l:=a) (i:=i+1) (by omega);omega
   rw [hy0,Nat.zero_mod,Nat.zero_mul,Nat.add_zero] at ih
   exact Tells.ifn (by omega) ih
theorem Zk9 {a:List Int} (ha:Dg 4294967296 a) (la:a.length<=1000000) (n:Nat) (hn:n < 32):Tells (fun k=>Zz.f k a (n:Int)) (limbs (num a / 2 ^ n)):=by
 have h:=Zmg ha la n hn a.length 0 _ (by omega) (by omega) (RightAt.start ha n)
 unfold Zz.f
 rw [Int.toNat_natCast]
 exact Tells.ifp (by omega) (Tells.ifp (by omega) h)
theorem Zj6 {h l:Nat} (h1:h < 4294967296) (h2:l < 4294967296):bits .or .u64 ((h*4294967296:Nat):Int) (l:Int)=((h*4294967296+l:Nat):Int):=by
 rw [u64_or_nat _ _ (by omega) (by omega)]
 have := Zk3 32 h l (by simpa using h2)
 rw [show (2:Nat) ^ 32=4294967296 from rfl] at this
 rw [this]
structure GuessAt (head low top second q r:Nat):Prop where
 law:q*top+r=head
 hi:head*4294967296+low < (q+1)*(top*4294967296+second)\/4294967296<=q+1
theorem Zgu {head low top second q r:Nat} (h:q*top+r=head):(r*4294967296+low < q*second) ↔ (head*4294967296+low < q*(top*4294967296+second)):=by
 rw [<- h,Nat.mul_add,<- Nat.mul_assoc,Nat.add_mul]
 omega
theorem Zl3 (low top second head:Nat) (hl:low < 4294967296) (ht:2147483648<=top) (ht2:top < 4294967296) (hs:second < 4294967296) (hh:head<=top*4294967296+4294967295) :
  ∀ (f q r:Nat),4294967296 - r<=f->r < 4294967296->q<=8589934592->GuessAt head low top second q r ->
  Tells (fun k=>Zbp.l0 k (low:Int) (top:Int) (second:Int) (q:Int) (r:Int)) ((min ((head*4294967296+low) / (top*4294967296+second)) 4294967295:Nat):Int)
 | 0,q,r,hf,hr,hq,h=>by omega
 | f+1,q,r,hf,hr,hq,h=>by
  have hlaw:=h.law
  have down:(4294967296<=q\/r*4294967296+low < q*second)->Tells (fun k=>Zbp.j1 k (low:Int) (top:Int) (second:Int) (q:Int) (r:Int) true) ((min ((head*4294967296+low) / (top*4294967296+second)) 4294967295:Nat):Int):=fun hbad=>by
   have hq0:0 < q:=by
    rcases hbad with hb|hb
    ·omega
    ·rcases Nat.eq_zero_or_pos q with e|e
     ·rw [e] at hb;omega
     ·exact e
   obtain ⟨p,rfl⟩:∃ p,q=p+1:=⟨q - 1,by omega⟩
   have hst:GuessAt head low top second p (r+top):=by
    refine ⟨by rw [<- hlaw,Nat.add_mul];omega,?_⟩
    rcases hbad with hb|hb
    ·exact .inr hb
    ·exact .inl ((Zgu hlaw).1 hb)
   have e1:((p+1:Nat):Int) - 1=(p:Int):=by omega
   refine Tells.succ ?_
   simp only [Zbp.j1]
   rw [e1,u64n (m:=p) (by omega),u64n (m:=top) (by omega),u64p (by omega),ediv32]
   refine Tells.ifp trivial ?_
   by_cases hbr:4294967296<=r+top
   ·refine Tells.ifp (by omega) ((Tells.pure _).val ?_)
    have hp:p < 4294967296:=by
     refine Nat.not_le.1 (fun hge=>?_)
     have := Nat.mul_le_mul_right top hge
     have := hst.law
     omega
    have hle:p*(top*4294967296+second)<=head*4294967296+low:=by
     have h0:¬ ((r+top)*4294967296+low < p*second):=by
      have := Nat.mul_le_mul (show p<=4294967295 by omega) (show second<=4294967295 by omega)
      omega
     exact Nat.not_lt.1 (fun hc=>h0 ((Zgu hst.law).2 hc))
    congr 1
    rcases hst.hi with hh2|hh2
    ·rw [Nat.div_eq_of_lt_le hle hh2,Nat.min_eq_left (by omega)]
    ·have := (Nat.le_div_iff_mul_le (show 0 < top*4294967296+second by omega)).2 hle
     rw [Nat.min_eq_right (by omega)];omega
   ·refine Tells.ifn (by omega) ?_
    exact Zl3 low top second head hl ht ht2 hs hh f p (r+top) (by omega) (by omega) (by omega) hst
  refine Tells.succ ?_
  simp only [Zbp.l0]
  rw [ediv32]
  by_cases hq1:4294967296<=q
  ·exact Tells.ifp (by omega) (down (.inl hq1))
  ·refine Tells.ifn (by omega) ?_
   obtain ⟨z,hz⟩:∃ z,q*second=z:=⟨_,rfl⟩
   have hzb:z < 18446744073709551616:=by
    have := Nat.mul_le_mul (show q<=4294967295 by omega) (show second<=4294967295 by omega)
    omega
   have e2:(r:Int)*4294967296=((r*4294967296:Nat):Int):=by omega
   rw [u64n (m:=second) (by omega),u64k hz hzb,e2,u64n (m:=r*4294967296) (by omega),u64n (m:=low) (by omega),Zj6 hr hl]
   by_cases ht3:r*4294967296+low < z
   ·have e3:decide ((z:Int) > ((r*4294967296+low:Nat):Int))=true:=decide_eq_true (by omega)
    rw [e3]
    exact down (.inr (by rw [hz];exact ht3))
   ·have e3:decide ((z:Int) > ((r*4294967296+low:Nat):Int))=false:=decide_eq_false (by omega)
    rw [e3]
    refine Tells.succ ?_
    simp only [Zbp.j1]
    refine Tells.ifn (by simp) ((Tells.pure _).val ?_)
    have hle:q*(top*4294967296+second)<=head*4294967296+low:=Nat.not_lt.1 (fun hc=>ht3 (by rw [<- hz];exact (Zgu hlaw).2 hc))
    congr 1
    rcases h.hi with hh2|hh2
    ·rw [Nat.div_eq_of_lt_le hle hh2,Nat.min_eq_left (by omega)]
    ·have := (Nat.le_div_iff_mul_le (show 0 < top*4294967296+second by omega)).2 hle
     rw [Nat.min_eq_right (by omega)];omega
theorem Zkw (high next low top second:Nat) (h1:high<=top) (h2:next < 4294967296) (hl:low < 4294967296) (ht:2147483648<=top) (ht2:top < 4294967296) (hs:second < 4294967296) :
  Tells (fun k=>Zbp.f k (high:Int) (next:Int) (low:Int) (top:Int) (second:Int)) ((min (((high*4294967296+next)*4294967296+low) / (top*4294967296+second)) 4294967295:Nat):Int):=by
 obtain ⟨head,hh⟩:∃ head,high*4294967296+next=head:=⟨_,rfl⟩
 have hhb:head<=top*4294967296+4294967295:=by omega
 have hr:head % top < top:=Nat.mod_lt _ (by omega)
 have hq:head / top<=8589934592:=by
  have:head / top < 8589934592:=(Nat.div_lt_iff_lt_mul (show 0 < top by omega)).2 (by omega)
  omega
 have hg:GuessAt head low top second (head / top) (head % top):=by
  refine ⟨by rw [Nat.mul_comm];exact Nat.div_add_mod head top,.inl ?_⟩
  have := Nat.div_add_mod head top
  have h3:head+1<=(head / top+1)*top:=by rw [Nat.add_mul,Nat.mul_comm (head / top)];omega
  have h4:=Nat.mul_le_mul_right 4294967296 h3
  rw [Nat.mul_add (head / top+1),<- Nat.mul_assoc]
  omega
 have h:=Zl3 low top second head hl ht ht2 hs hhb _ _ _ (Nat.le_refl _) (by omega) hq hg
 have e1:(high:Int)*4294967296=((high*4294967296:Nat):Int):=by omega
 have e2:Int.tdiv (head:Int) (top:Int)=((head / top:Nat):Int):=by rw [Int.tdiv_eq_ediv_of_nonneg (by omega)];exact (Int.natCast_ediv _ _).symm
 have e3:Int.tmod (head:Int) (top:Int)=((head % top:Nat):Int):=by rw [Int.tmod_eq_emod_of_nonneg (by omega)];exact (Int.natCast_emod _ _).symm
 have c1:¬ ((top:Int)=0):=by omega
 unfold Zbp.f
 rw [u64n (m:=high) (by omega),u64n (m:=next) (by omega),u64n (m:=top) (by omega),e1,u64n (m:=high*4294967296) (by omega),Zj6 (by omega) h2,hh,e2,e3,u64n (m:=head / top) (by omega)]
 exact Tells.ifn c1 h
end YtjbjkmccfocikaaGreatDoor.P
end
section
namespace YtjbjkmccfocikaaGreatDoor.B
open Go.RowKit YtjbjkmccfocikaaGreatDoorW.PrintWords YtjbjkmccfocikaaGreatDoorW.PrintLast YtjbjkmccfocikaaGreatDoorW.PrintMore
attribute [local go_sem] Zb5 Zb7 Zcs Zct Zbn Zbo Zb6 Zb8
def Za0.f (l0:List Int):Option (Int):=if (l0.length:Int) > 256 then (some 5) else (if (l0.length:Int) > 0 then (if 0<=(wrap64 ((l0.length:Int) - 1)) then (if (wrap64 ((l0.length:Int) - 1)) < (l0.length:Int) then (if (rd l0 (wrap64 ((l0.length:Int) - 1)))=0 then (some 9) else (some 0)) else (none)) else (none)) else (some 0))
theorem Za0.calls (A0:Option Addr) (c0:Nat) (l0:List Int) (r:Int) (w:World) (hr0:Kd.C (Kd.int .u32) w A0 l0.length l0) (hc0:l0.length<=c0) (h:Za0.f l0=some r) :
  Calls Tryz.prog 108 #[.slice A0 l0.length c0] w fun e w'=>e=.returned (.int .i64 r)/\Drawn0 w w':=by
 have HR0:=am hr0
 have HC0:=am hc0
 clear hr0 hc0
 have H:(if (l0.length:Int) > 256 then (some 5) else (if (l0.length:Int) > 0 then (if 0<=(wrap64 ((l0.length:Int) - 1)) then (if (wrap64 ((l0.length:Int) - 1)) < (l0.length:Int) then (if (rd l0 (wrap64 ((l0.length:Int) - 1)))=0 then (some 9) else (some 0)) else (none)) else (none)) else (some 0)))=some r:=h
 clear h
 by_cases c2:(l0.length:Int) > 256
 ·rw [if_pos c2] at H
  have c2b0:decide (256 < (l0.length:Int))=true:=decide_eq_true c2
  have c2b1:decide (256 < l0.length)=true:=decide_eq_true (by omega)
  clear c2
  obtain rfl:=Option.some.inj H
  go_enter Tryz.func108,Tryz.ntmps108
  go_wp2
  go_ret
  exact ⟨pR,pD⟩
 ·rw [if_neg c2] at H
  have c2b0:decide (256 < (l0.length:Int))=false:=decide_eq_false c2
  have c2b1:decide (256 < l0.length)=false:=decide_eq_false (by omega)
  clear c2
  by_cases c3:(l0.length:Int) > 0
  ·rw [if_pos c3] at H
   have c3b0:decide (0 < (l0.length:Int))=true:=decide_eq_true c3
   have c3b1:decide (0 < l0.length)=true:=decide_eq_true (by omega)
   clear c3
   obtain ⟨ji4,hji4⟩:∃ j_:Int,(wrap64 ((l0.length:Int) - 1))=j_:=⟨_,rfl⟩
   replace H:(if 0<=(ji4) then (if (ji4) < (l0.length:Int) then (if (rd l0 (ji4))=0 then (some 9) else (some 0)) else (none)) else (none))=some r:=by first|(rw [hji4] at H;exact H)|(simp only [hji4] at H ⊢;exact H)
   have hji4w:(IntKind.i64.wrap ((l0.length:Int) - 1))=ji4:=(Zcd _).trans hji4
   by_cases c5:0<=(ji4)
   ·rw [if_pos c5] at H
    have c5b0:decide (0<=(ji4))=true:=decide_eq_true c5
    clear c5
    by_cases c6:(ji4) < (l0.length:Int)
    ·rw [if_pos c6] at H
     have c6b0:decide ((ji4) < (l0.length:Int))=true:=decide_eq_true c6
     clear c6
     by_cases c7:(rd l0 (ji4))=0
     ·rw [if_pos c7] at H
      have c7b0:((rd l0 (ji4)) == 0)=true:=beq_iff_eq.mpr c7
      have c7b1:((rd l0 (ji4)) != 0)=false:=bne_eq_false_iff_eq.mpr c7
      clear c7
      obtain rfl:=Option.some.inj H
      have p101:0<=((ji4):Int):=of_decide_eq_true pQ
      have q101:(ji4) < (l0.length:Int):=of_decide_eq_true pQ
      obtain ⟨ad101,e101,hx101_0⟩:=Kd.Za4 HR0.o (ji4) p101 q101
      cases e101
      replace p101:=eq_true p101
      replace q101:=eq_true q101
      go_enter Tryz.func108,Tryz.ntmps108
      go_wp2
      go_ret
      exact ⟨by first|rfl|(simp;done)|(simp only [<- hji4] <;> (first|rfl|simp))|(simp [*];done),pD⟩
     ·rw [if_neg c7] at H
      have c7b0:((rd l0 (ji4)) == 0)=false:=beq_eq_false_iff_ne.mpr c7
      have c7b1:((rd l0 (ji4)) != 0)=true:=bne_iff_ne.mpr c7
      obtain rfl:=Option.some.inj H
      have p101:0<=((ji4):Int):=of_decide_eq_true pQ
      have q101:(ji4) < (l0.length:Int):=of_decide_eq_true pQ
      obtain ⟨ad101,e101,hx101_0⟩:=Kd.Za4 HR0.o (ji4) p101 q101
      cases e101
      replace p101:=eq_true p101
      replace q101:=eq_true q101
      go_enter Tryz.func108,Tryz.ntmps108
      go_wp2
      go_ret
      exact ⟨by first|rfl|(simp;done)|(simp only [<- hji4] <;> (first|rfl|simp))|(simp [*];done),pD⟩
    ·rw [if_neg c6] at H
     exact absurd H (by simp)
   ·rw [if_neg c5] at H
    exact absurd H (by simp)
  ·rw [if_neg c3] at H
   have c3b0:decide (0 < (l0.length:Int))=false:=decide_eq_false c3
   have c3b1:decide (0 < l0.length)=false:=decide_eq_false (by omega)
   clear c3
   obtain rfl:=Option.some.inj H
   go_enter Tryz.func108,Tryz.ntmps108
   go_wp2
   go_ret
   exact ⟨pR,pD⟩
def Zbr.l0:Nat->Int->List Int->Int->Int->Option (Int)
 | 0,_,_,_,_=>none
 | k+1,x3,x6,x7,x8=>if x8 < x7 then (if 0<=x8 then (if x8 < (x6.length:Int) then (if (rd x6 x8)=x3 then (Zbr.l0 k x3 x6 x7 (wrap64 (x8+1))) else (some (rd x6 x8))) else (none)) else (none)) else (some x3)
def Zbr.f (k:Nat) (l0:List Int):Option (Int):=Zbr.l0 k 0 l0 (l0.length:Int) 0
theorem Zbr.calls (k:Nat) (A0:Option Addr) (c0:Nat) (l0:List Int) (r:Int) (w:World) (hr0:Kd.C (Kd.int .i64) w A0 l0.length l0) (hc0:l0.length<=c0) (h:Zbr.f k l0=some r) :
  Calls Tryz.prog 137 #[.slice A0 l0.length c0] w fun e w'=>e=.returned (.int .i64 r)/\Drawn0 w w':=by
 have HR0:=am hr0
 have HC0:=am hc0
 clear hr0 hc0
 have H:(Zbr.l0 k 0 l0 (l0.length:Int) 0)=some r:=h
 clear h
 have H':=am H
 clear H
 go_enter Tryz.func137,Tryz.ntmps137
 go_wp2
 go_loopg [8] k (fun kq v8 w' => ∃ (x8_1:Int),v8=.int .i64 x8_1/\Aside0 (Zbr.l0 kq 0 l0 (l0.length:Int) x8_1=some r)/\Aside0 (kq<=k)/\Drawn0 w w')
 case atStart=>exact ⟨(0),pR,H',⟨Nat.le_refl _⟩,pD⟩
 case round =>
  clear H'
  obtain ⟨x8_1,rfl,HA,HK1,⟨m1,rfl⟩⟩:=hrel
  cases gk with
  | zero=>exact absurd HA.out (by simp [Zbr.l0])
  | succ k1 =>
   have H:=HA.out
   clear HA
   simp only [Zbr.l0] at H
   by_cases c2:x8_1 < (l0.length:Int)
   ·rw [if_pos c2] at H
    have c2b0:decide (x8_1 < (l0.length:Int))=true:=decide_eq_true c2
    clear c2
    by_cases c3:0<=x8_1
    ·rw [if_pos c3] at H
     have c3b0:decide (0<=x8_1)=true:=decide_eq_true c3
     clear c3
     by_cases c4:x8_1 < (l0.length:Int)
     ·rw [if_pos c4] at H
      have c4b0:decide (x8_1 < (l0.length:Int))=true:=decide_eq_true c4
      clear c4
      by_cases c5:(rd l0 x8_1)=0
      ·rw [if_pos c5] at H
       have c5b0:((rd l0 x8_1) == 0)=true:=beq_iff_eq.mpr c5
       have c5b1:((rd l0 x8_1) != 0)=false:=bne_eq_false_iff_eq.mpr c5
       clear c5
       have H':=am H
       clear H
       have p102:0<=(x8_1:Int):=of_decide_eq_true pQ
       have q102:x8_1 < (l0.length:Int):=of_decide_eq_true pQ
       obtain ⟨ad102,e102,hx102_0⟩:=Kd.Za4 HR0.o x8_1 p102 q102
       cases e102
       replace p102:=eq_true p102
       replace q102:=eq_true q102
       go_wp2
       go_roundg k1
       case measure=>have := HK1.out;omega
       case rel=>exact ⟨(wrap64 (x8_1+1)),pR,H',⟨by have := HK1.out;omega⟩,pD⟩
      ·rw [if_neg c5] at H
       have c5b0:((rd l0 x8_1) == 0)=false:=beq_eq_false_iff_ne.mpr c5
       have c5b1:((rd l0 x8_1) != 0)=true:=bne_iff_ne.mpr c5
       obtain rfl:=Option.some.inj H
       have p102:0<=(x8_1:Int):=of_decide_eq_true pQ
       have q102:x8_1 < (l0.length:Int):=of_decide_eq_true pQ
       obtain ⟨ad102,e102,hx102_0⟩:=Kd.Za4 HR0.o x8_1 p102 q102
       cases e102
       replace p102:=eq_true p102
       replace q102:=eq_true q102
       go_wp2
       go_ret
       exact ⟨pR,pD⟩
     ·rw [if_neg c4] at H
      exact absurd H (by simp)
    ·rw [if_neg c3] at H
     exact absurd H (by simp)
   ·rw [if_neg c2] at H
    have c2b0:decide (x8_1 < (l0.length:Int))=false:=decide_eq_false c2
    clear c2
    obtain rfl:=Option.some.inj H
    go_wp2
    go_ret
    exact ⟨pR,pD⟩
def Zdh.f (k:Nat) (l0:List Int) (l1:List Int):Option (Int):=(Za0.f l0).bind fun t103=>((Za0.f l1).bind fun t104=>((Zbr.f k (([t103,t104]:List Int))).bind fun t108=>(some t108)))
theorem Zdh.calls (k:Nat) (A0:Option Addr) (c0:Nat) (l0:List Int) (A1:Option Addr) (c1:Nat) (l1:List Int) (r:Int) (w:World) (hr0:Kd.C (Kd.int .u32) w A0 l0.length l0) (hc0:l0.length<=c0) (hr1:Kd.C (Kd.int .u32) w A1 l1.length l1) (hc1:l1.length<=c1) (h:Zdh.f k l0 l1=some r) :
  Calls Tryz.prog 126 #[.slice A0 l0.length c0,.slice A1 l1.length c1] w fun e w'=>e=.returned (.int .i64 r)/\Below w.heap.size w w':=by
 have HR0:=am hr0
 have HC0:=am hc0
 clear hr0 hc0
 have HR1:=am hr1
 have HC1:=am hc1
 clear hr1 hc1
 have HB:=am (Below.refl w.heap.size w)
 have H:((Za0.f l0).bind fun t103=>((Za0.f l1).bind fun t104=>((Zbr.f k (([t103,t104]:List Int))).bind fun t108=>(some t108))))=some r:=h
 clear h
 obtain ⟨t103,A3,H⟩:=ob H
 obtain ⟨t104,A4,H⟩:=ob H
 obtain ⟨y105,hy105⟩:∃ y_:List Int,y_=(([t103,t104]:List Int)):=⟨_,rfl⟩
 replace H:((Zbr.f k y105).bind fun t108=>(some t108))=some r:=by have hy_:=hy105;exact pH
 have Ny105:=am hy105
 clear hy105
 obtain ⟨t108,A5,H⟩:=ob H
 obtain rfl:=Option.some.inj H
 go_enter Tryz.func126,Tryz.ntmps126
 go_wp2_with (first|(refine gL (some 6) Tryz.func108 #[.slice A0 l0.length c0] (h:=?_);(with_reducible refine (Za0.calls _ _ l0 t103 _ ?side1 ?side2 A3.o).mono ?_);(case side1=>refine cp ?_;exact HR0.o);(case side2=>exact HC0.o);rintro e w' ⟨rfl,⟨nd,rfl⟩⟩;refine ⟨_,rfl,?_⟩)|(refine gL (some 8) Tryz.func108 #[.slice A1 l1.length c1] (h:=?_);(with_reducible refine (Za0.calls _ _ l1 t104 _ ?side1 ?side2 A4.o).mono ?_);(case side1=>refine cp ?_;exact HR1.o);(case side2=>exact HC1.o);rintro e w' ⟨rfl,⟨nd,rfl⟩⟩;refine ⟨_,rfl,?_⟩)|((with_reducible refine gd 9 ?_);refine Kd.Zg8 (Kd.int .i64) _ 32 ?hg (N:=9) ?hd (xs:=([t103,t104]:List Int)) (inner:=[.int .i64 t103,.int .i64 t104]) (ok:=fun _=>True) (okp:=fun _=>True) ?hr ?hp (fun _ hk=>hk) trivial (Below.refl _ _) (Nat.le_refl _) (by simp) ?_;(case hd=>rfl);(case hg=>rfl);(case hr=>first|(go_simp;done)|(go_simp;rfl));(case hp=>exact (Reps.one (show Kd.M (Kd.int .i64) _ _ _ t103 [.int .i64 t103] from rfl) (Reps.one (show Kd.M (Kd.int .i64) _ _ _ t104 [.int .i64 t104] from rfl) (Reps.none _ _))));intro v106 w6 ho7 hb hg_ hnew_;clear hg_ hnew_;(first|rw [<- Ny105.out] at ho7|(simp only [Int.reduceToNat] at ho7;rw [<- Ny105.out] at ho7));have HO107:=am (Kd.Zq ho7 (Zb pB));replace HB:=bS hb;clear hb ho7;obtain ⟨Ao8,co8,eo8⟩:=Kd.Zj HO107.o;subst eo8)|(refine gL (some 10) Tryz.func137 #[.slice Ao8 y105.length co8] (h:=?_);(with_reducible refine (Zbr.calls k _ _ y105 t108 _ ?side1 ?side2 A5.o).mono ?_);(case side1=>exact Kd.Zx (Kd.Zd HO107.o).2.2 pl);(case side2=>exact (Kd.Zd HO107.o).2.1);rintro e w' ⟨rfl,⟨nd,rfl⟩⟩;refine ⟨_,rfl,?_⟩))
 go_ret
 exact ⟨pE,pB⟩
def cmp_isNaN_int.f (a0:Int):Option (Bool):=some (a0 != a0)
theorem cmp_isNaN_int.calls (a0:Int) (r:Bool) (w:World) (h:cmp_isNaN_int.f a0=some r) :
  Calls Tryz.prog 186 #[.int .i64 a0] w fun e w'=>e=.returned (.bool r)/\Drawn0 w w':=by
 have H:(some (a0 != a0))=some r:=h
 clear h
 obtain rfl:=Option.some.inj H
 go_enter Tryz.func186,Tryz.ntmps186
 go_wp2
 go_ret
 exact ⟨pR,pD⟩
def cmp_Compare_int.f (a0:Int) (a1:Int):Option (Int):=(cmp_isNaN_int.f a0).bind fun t345=>((cmp_isNaN_int.f a1).bind fun t346=>(if t345=true then (if t346=true then (some 0) else (some (-1))) else (if t346=true then (some 1) else (if a0 < a1 then (some (-1)) else (if a0 > a1 then (some 1) else (some 0))))))
theorem cmp_Compare_int.calls (a0:Int) (a1:Int) (r:Int) (w:World) (h:cmp_Compare_int.f a0 a1=some r) :
  Calls Tryz.prog 165 #[.int .i64 a0,.int .i64 a1] w fun e w'=>e=.returned (.int .i64 r)/\Drawn0 w w':=by
 have H:((cmp_isNaN_int.f a0).bind fun t345=>((cmp_isNaN_int.f a1).bind fun t346=>(if t345=true then (if t346=true then (some 0) else (some (-1))) else (if t346=true then (some 1) else (if a0 < a1 then (some (-1)) else (if a0 > a1 then (some 1) else (some 0)))))))=some r:=h
 clear h
 obtain ⟨t345,A3,H⟩:=ob H
 obtain ⟨t346,A4,H⟩:=ob H
 by_cases c5:t345=true
 ·subst c5
  rw [if_pos rfl] at H
  by_cases c6:t346=true
  ·subst c6
   rw [if_pos rfl] at H
   obtain rfl:=Option.some.inj H
   go_enter Tryz.func165,Tryz.ntmps165
   go_wp2_with (first|(refine gL (some 8) Tryz.func186 #[.int .i64 a0] (h:=?_);(with_reducible refine (cmp_isNaN_int.calls a0 true _ A3.o).mono ?_);rintro e w' ⟨rfl,⟨nd,rfl⟩⟩;refine ⟨_,rfl,?_⟩)|(refine gL (some 10) Tryz.func186 #[.int .i64 a1] (h:=?_);(with_reducible refine (cmp_isNaN_int.calls a1 true _ A4.o).mono ?_);rintro e w' ⟨rfl,⟨nd,rfl⟩⟩;refine ⟨_,rfl,?_⟩))
   go_ret
   exact ⟨pR,pD⟩
  ·replace c6:=Bool.eq_false_iff.mpr c6
   subst c6
   rw [if_neg (show ¬ (false=true) by decide)] at H
   obtain rfl:=Option.some.inj H
   go_enter Tryz.func165,Tryz.ntmps165
   go_wp2_with (first|(refine gL (some 8) Tryz.func186 #[.int .i64 a0] (h:=?_);(with_reducible refine (cmp_isNaN_int.calls a0 true _ A3.o).mono ?_);rintro e w' ⟨rfl,⟨nd,rfl⟩⟩;refine ⟨_,rfl,?_⟩)|(refine gL (some 10) Tryz.func186 #[.int .i64 a1] (h:=?_);(with_reducible refine (cmp_isNaN_int.calls a1 false _ A4.o).mono ?_);rintro e w' ⟨rfl,⟨nd,rfl⟩⟩;refine ⟨_,rfl,?_⟩))
   go_ret
   exact ⟨pR,pD⟩
 ·replace c5:=Bool.eq_false_iff.mpr c5
  subst c5
  rw [if_neg (show ¬ (false=true) by decide)] at H
  by_cases c7:t346=true
  ·subst c7
   rw [if_pos rfl] at H
   obtain rfl:=Option.some.inj H
   go_enter Tryz.func165,Tryz.ntmps165
   go_wp2_with (first|(refine gL (some 8) Tryz.func186 #[.int .i64 a0] (h:=?_);(with_reducible refine (cmp_isNaN_int.calls a0 false _ A3.o).mono ?_);rintro e w' ⟨rfl,⟨nd,rfl⟩⟩;refine ⟨_,rfl,?_⟩)|(refine gL (some 10) Tryz.func186 #[.int .i64 a1] (h:=?_);(with_reducible refine (cmp_isNaN_int.calls a1 true _ A4.o).mono ?_);rintro e w' ⟨rfl,⟨nd,rfl⟩⟩;refine ⟨_,rfl,?_⟩))
   go_ret
   exact ⟨pR,pD⟩
  ·replace c7:=Bool.eq_false_iff.mpr c7
   subst c7
   rw [if_neg (show ¬ (false=true) by decide)] at H
   by_cases c8:a0 < a1
   ·rw [if_pos c8] at H
    have c8b0:decide (a0 < a1)=true:=decide_eq_true c8
    clear c8
    obtain rfl:=Option.some.inj H
    go_enter Tryz.func165,Tryz.ntmps165
    go_wp2_with (first|(refine gL (some 8) Tryz.func186 #[.int .i64 a0] (h:=?_);(with_reducible refine (cmp_isNaN_int.calls a0 false _ A3.o).mono ?_);rintro e w' ⟨rfl,⟨nd,rfl⟩⟩;refine ⟨_,rfl,?_⟩)|(refine gL (some 10) Tryz.func186 #[.int .i64 a1] (h:=?_);(with_reducible refine (cmp_isNaN_int.calls a1 false _ A4.o).mono ?_);rintro e w' ⟨rfl,⟨nd,rfl⟩⟩;refine ⟨_,rfl,?_⟩))
    go_ret
    exact ⟨pR,pD⟩
   ·rw [if_neg c8] at H
    have c8b0:decide (a0 < a1)=false:=decide_eq_false c8
    clear c8
    by_cases c9:a0 > a1
    ·rw [if_pos c9] at H
     have c9b0:decide (a1 < a0)=true:=decide_eq_true c9
     clear c9
     obtain rfl:=Option.some.inj H
     go_enter Tryz.func165,Tryz.ntmps165
     go_wp2_with (first|(refine gL (some 8) Tryz.func186 #[.int .i64 a0] (h:=?_);(with_reducible refine (cmp_isNaN_int.calls a0 false _ A3.o).mono ?_);rintro e w' ⟨rfl,⟨nd,rfl⟩⟩;refine ⟨_,rfl,?_⟩)|(refine gL (some 10) Tryz.func186 #[.int .i64 a1] (h:=?_);(with_reducible refine (cmp_isNaN_int.calls a1 false _ A4.o).mono ?_);rintro e w' ⟨rfl,⟨nd,rfl⟩⟩;refine ⟨_,rfl,?_⟩))
     go_ret
     exact ⟨pR,pD⟩
    ·rw [if_neg c9] at H
     have c9b0:decide (a1 < a0)=false:=decide_eq_false c9
     clear c9
     obtain rfl:=Option.some.inj H
     go_enter Tryz.func165,Tryz.ntmps165
     go_wp2_with (first|(refine gL (some 8) Tryz.func186 #[.int .i64 a0] (h:=?_);(with_reducible refine (cmp_isNaN_int.calls a0 false _ A3.o).mono ?_);rintro e w' ⟨rfl,⟨nd,rfl⟩⟩;refine ⟨_,rfl,?_⟩)|(refine gL (some 10) Tryz.func186 #[.int .i64 a1] (h:=?_);(with_reducible refine (cmp_isNaN_int.calls a1 false _ A4.o).mono ?_);rintro e w' ⟨rfl,⟨nd,rfl⟩⟩;refine ⟨_,rfl,?_⟩))
     go_ret
     exact ⟨pR,pD⟩
def Zaq.f (a0:Int):Option (Bool):=some (a0 != a0)
theorem Zaq.calls (a0:Int) (r:Bool) (w:World) (h:Zaq.f a0=some r) :
  Calls Tryz.prog 187 #[.int .u32 a0] w fun e w'=>e=.returned (.bool r)/\Drawn0 w w':=by
 have H:(some (a0 != a0))=some r:=h
 clear h
 obtain rfl:=Option.some.inj H
 go_enter Tryz.func187,Tryz.ntmps187
 go_wp2
 go_ret
 exact ⟨pR,pD⟩
def Zc2.f (a0:Int) (a1:Int):Option (Int):=(Zaq.f a0).bind fun t347=>((Zaq.f a1).bind fun t348=>(if t347=true then (if t348=true then (some 0) else (some (-1))) else (if t348=true then (some 1) else (if a0 < a1 then (some (-1)) else (if a0 > a1 then (some 1) else (some 0))))))
theorem Zc2.calls (a0:Int) (a1:Int) (r:Int) (w:World) (h:Zc2.f a0 a1=some r) :
  Calls Tryz.prog 166 #[.int .u32 a0,.int .u32 a1] w fun e w'=>e=.returned (.int .i64 r)/\Drawn0 w w':=by
 have H:((Zaq.f a0).bind fun t347=>((Zaq.f a1).bind fun t348=>(if t347=true then (if t348=true then (some 0) else (some (-1))) else (if t348=true then (some 1) else (if a0 < a1 then (some (-1)) else (if a0 > a1 then (some 1) else (some 0)))))))=some r:=h
 clear h
 obtain ⟨t347,A3,H⟩:=ob H
 obtain ⟨t348,A4,H⟩:=ob H
 by_cases c5:t347=true
 ·subst c5
  rw [if_pos rfl] at H
  by_cases c6:t348=true
  ·subst c6
   rw [if_pos rfl] at H
   obtain rfl:=Option.some.inj H
   go_enter Tryz.func166,Tryz.ntmps166
   go_wp2_with (first|(refine gL (some 8) Tryz.func187 #[.int .u32 a0] (h:=?_);(with_reducible refine (Zaq.calls a0 true _ A3.o).mono ?_);rintro e w' ⟨rfl,⟨nd,rfl⟩⟩;refine ⟨_,rfl,?_⟩)|(refine gL (some 10) Tryz.func187 #[.int .u32 a1] (h:=?_);(with_reducible refine (Zaq.calls a1 true _ A4.o).mono ?_);rintro e w' ⟨rfl,⟨nd,rfl⟩⟩;refine ⟨_,rfl,?_⟩))
   go_ret
   exact ⟨pR,pD⟩
  ·replace c6:=Bool.eq_false_iff.mpr c6
   subst c6
   rw [if_neg (show ¬ (false=true) by decide)] at H
   obtain rfl:=Option.some.inj H
   go_enter Tryz.func166,Tryz.ntmps166
   go_wp2_with (first|(refine gL (some 8) Tryz.func187 #[.int .u32 a0] (h:=?_);(with_reducible refine (Zaq.calls a0 true _ A3.o).mono ?_);rintro e w' ⟨rfl,⟨nd,rfl⟩⟩;refine ⟨_,rfl,?_⟩)|(refine gL (some 10) Tryz.func187 #[.int .u32 a1] (h:=?_);(with_reducible refine (Zaq.calls a1 false _ A4.o).mono ?_);rintro e w' ⟨rfl,⟨nd,rfl⟩⟩;refine ⟨_,rfl,?_⟩))
   go_ret
   exact ⟨pR,pD⟩
 ·replace c5:=Bool.eq_false_iff.mpr c5
  subst c5
  rw [if_neg (show ¬ (false=true) by decide)] at H
  by_cases c7:t348=true
  ·subst c7
   rw [if_pos rfl] at H
   obtain rfl:=Option.some.inj H
   go_enter Tryz.func166,Tryz.ntmps166
   go_wp2_with (first|(refine gL (some 8) Tryz.func187 #[.int .u32 a0] (h:=?_);(with_reducible refine (Zaq.calls a0 false _ A3.o).mono ?_);rintro e w' ⟨rfl,⟨nd,rfl⟩⟩;refine ⟨_,rfl,?_⟩)|(refine gL (some 10) Tryz.func187 #[.int .u32 a1] (h:=?_);(with_reducible refine (Zaq.calls a1 true _ A4.o).mono ?_);rintro e w' ⟨rfl,⟨nd,rfl⟩⟩;refine ⟨_,rfl,?_⟩))
   go_ret
   exact ⟨pR,pD⟩
  ·replace c7:=Bool.eq_false_iff.mpr c7
   subst c7
   rw [if_neg (show ¬ (false=true) by decide)] at H
   by_cases c8:a0 < a1
   ·rw [if_pos c8] at H
    have c8b0:decide (a0 < a1)=true:=decide_eq_true c8
    clear c8
    obtain rfl:=Option.some.inj H
    go_enter Tryz.func166,Tryz.ntmps166
    go_wp2_with (first|(refine gL (some 8) Tryz.func187 #[.int .u32 a0] (h:=?_);(with_reducible refine (Zaq.calls a0 false _ A3.o).mono ?_);rintro e w' ⟨rfl,⟨nd,rfl⟩⟩;refine ⟨_,rfl,?_⟩)|(refine gL (some 10) Tryz.func187 #[.int .u32 a1] (h:=?_);(with_reducible refine (Zaq.calls a1 false _ A4.o).mono ?_);rintro e w' ⟨rfl,⟨nd,rfl⟩⟩;refine ⟨_,rfl,?_⟩))
    go_ret
    exact ⟨pR,pD⟩
   ·rw [if_neg c8] at H
    have c8b0:decide (a0 < a1)=false:=decide_eq_false c8
    clear c8
    by_cases c9:a0 > a1
    ·rw [if_pos c9] at H
     have c9b0:decide (a1 < a0)=true:=decide_eq_true c9
     clear c9
     obtain rfl:=Option.some.inj H
     go_enter Tryz.func166,Tryz.ntmps166
     go_wp2_with (first|(refine gL (some 8) Tryz.func187 #[.int .u32 a0] (h:=?_);(with_reducible refine (Zaq.calls a0 false _ A3.o).mono ?_);rintro e w' ⟨rfl,⟨nd,rfl⟩⟩;refine ⟨_,rfl,?_⟩)|(refine gL (some 10) Tryz.func187 #[.int .u32 a1] (h:=?_);(with_reducible refine (Zaq.calls a1 false _ A4.o).mono ?_);rintro e w' ⟨rfl,⟨nd,rfl⟩⟩;refine ⟨_,rfl,?_⟩))
     go_ret
     exact ⟨pR,pD⟩
    ·rw [if_neg c9] at H
     have c9b0:decide (a1 < a0)=false:=decide_eq_false c9
     clear c9
     obtain rfl:=Option.some.inj H
     go_enter Tryz.func166,Tryz.ntmps166
     go_wp2_with (first|(refine gL (some 8) Tryz.func187 #[.int .u32 a0] (h:=?_);(with_reducible refine (Zaq.calls a0 false _ A3.o).mono ?_);rintro e w' ⟨rfl,⟨nd,rfl⟩⟩;refine ⟨_,rfl,?_⟩)|(refine gL (some 10) Tryz.func187 #[.int .u32 a1] (h:=?_);(with_reducible refine (Zaq.calls a1 false _ A4.o).mono ?_);rintro e w' ⟨rfl,⟨nd,rfl⟩⟩;refine ⟨_,rfl,?_⟩))
     go_ret
     exact ⟨pR,pD⟩
end YtjbjkmccfocikaaGreatDoor.B
end
section
namespace YtjbjkmccfocikaaGreatDoor.B
open Go.RowKit Go.Shelf YtjbjkmccfocikaaGreatDoorW.PrintWords YtjbjkmccfocikaaGreatDoor.P.Nm
attribute [local go_sem] Oper.semAt_some
def cmpI (x y:Int):Int:=if x < y then -1 else if y < x then 1 else 0
theorem Zhp (x:Int):cmpI x x=0:=by simp [cmpI]
theorem Zrs (x y:Int):cmp_Compare_int.f x y=some (cmpI x y):=by
 unfold cmp_Compare_int.f cmp_isNaN_int.f cmpI
 simp
 split
 ·rfl
 ·split <;> rfl
theorem Zru (x y:Int):Zc2.f x y=some (cmpI x y):=by
 unfold Zc2.f Zaq.f cmpI
 simp
 split
 ·rfl
 ·split <;> rfl
theorem Zlv {i:Nat} {a b:List Int} (ha:Dg 4294967296 a) (hb:Dg 4294967296 b) (hl:a.length=b.length) (hi:i < a.length) (hd:a.drop (i+1)=b.drop (i+1)) (h:a.getD i 0 < b.getD i 0):val 4294967296 a < val 4294967296 b:=by
 have e:∀ (l:List Int),i < l.length->val 4294967296 l=val 4294967296 (l.take i)+pw 4294967296 i*(l.getD i 0+4294967296*val 4294967296 (l.drop (i+1))):=fun l hl=>by
  conv=>lhs;rw [<- List.take_append_drop i l,List.drop_eq_getElem_cons hl]
  rw [Zf5,Zb1,List.length_take,Nat.min_eq_left (by omega)]
  simp [List.getD,List.getElem?_eq_getElem hl]
 rw [e a hi,e b (by omega),hd]
 have h1:=Zds (b:=4294967296) (by omega) (ha.take i)
 have h2:=Zbq (b:=4294967296) (by omega) (hb.take i)
 rw [List.length_take,Nat.min_eq_left (by omega)] at h1
 have hp:=Zen (b:=4294967296) (by omega) i
 obtain ⟨T,hT⟩:∃ T,4294967296*val 4294967296 (b.drop (i+1))=T:=⟨_,rfl⟩
 rw [hT]
 have h3:=Int.mul_le_mul_of_nonneg_left (show a.getD i 0+T+1<=b.getD i 0+T by omega) (Int.le_of_lt hp)
 rw [Int.mul_add] at h3
 omega
theorem Zpu {a b:List Int} (hl:a.length=b.length) (h:∀ i,i < a.length->a.getD i 0=b.getD i 0):a=b:=by
 apply List.ext_getElem hl
 intro i h1 h2
 have := h i h1
 simpa [List.getD,List.getElem?_eq_getElem h1,List.getElem?_eq_getElem h2] using this
theorem Zpt {a b:List Int} {k:Nat} (hl:a.length=b.length) (h:∀ i,k<=i->i < a.length->a.getD i 0=b.getD i 0):a.drop k=b.drop k:=by
 apply List.ext_getElem (by simp [hl])
 intro i h1 h2
 rw [List.length_drop] at h1 h2
 have := h (k+i) (by omega) (by omega)
 simpa [List.getD,List.getElem?_eq_getElem (show k+i < a.length by omega),List.getElem?_eq_getElem (show k+i < b.length by omega)] using this
theorem Zs2 {i:Nat} {a b:List Int} (ha:Dg 4294967296 a) (hb:Dg 4294967296 b) (hl:a.length=b.length) (hi:i < a.length) (hd:∀ j,i+1<=j->j < a.length->a.getD j 0=b.getD j 0) (h:a.getD i 0 ≠ b.getD i 0):cmpI (a.getD i 0) (b.getD i 0)=cmpI (num a) (num b):=by
 have hd':=Zpt hl hd
 rw [Zc9 ha,Zc9 hb]
 unfold cmpI
 rcases Int.lt_trichotomy (a.getD i 0) (b.getD i 0) with h1|h1|h1
 ·have := Zlv ha hb hl hi hd' h1
  rw [if_pos h1,if_pos this]
 ·exact absurd h1 h
 ·have := Zlv hb ha hl.symm (by omega) hd'.symm h1
  rw [if_neg (by omega),if_pos h1,if_neg (by omega),if_pos this]
theorem Zrt {a b:List Int} (ha:Dg 4294967296 a) (hb:Dg 4294967296 b) (na:Nz a) (nb:Nz b) (h:a.length ≠ b.length):cmpI a.length b.length=cmpI (num a) (num b):=by
 rw [Zc9 ha,Zc9 hb]
 unfold cmpI
 rcases Nat.lt_trichotomy a.length b.length with h1|h1|h1
 ·have := Zef (b:=4294967296) (by omega) ha hb nb h1
  rw [if_pos (by omega),if_pos this]
 ·exact absurd h1 h
 ·have := Zef (b:=4294967296) (by omega) hb ha na h1
  rw [if_neg (by omega),if_pos (by omega),if_neg (by omega),if_pos this]
theorem Zft {w:World} {A:Option Addr} {l:List Int} (h:Kd.C (Kd.int .u32) w A l.length l):RdW A l.length (fun j x=>x=l.getD j 0) w:=by
 have hR:ReadsOf (Value.int .u32) 0 w A l.length l:=Kd.Zfu h
 rcases Nat.eq_zero_or_pos l.length with h0|h0
 ·exact .inl h0
 ·obtain ⟨ad,rfl,hc⟩:=hR.2.2 h0
  obtain ⟨b,o,rfl⟩:=Zix (show w.cell? ad=_ from hc 0 h0)
  refine .inr ⟨b,o,rfl,fun j hj=>⟨_,?_,rfl⟩⟩
  have := hc j hj
  rwa [Zs0] at this
structure CmpI (w:World) (A0 A1:Option Addr) (m c0 c1:Nat) (l0 l1:List Int) (pre:List (Nat × Int)) (W:World):Prop where
 a:Boxed W w.heap.size 134 (.slice A0 m c0)
 b:Boxed W (w.heap.size+1) 134 (.slice A1 m c1)
 r:Boxed W (w.heap.size+1+1) 3 (.int .i64 0)
 s:∃ u,Boxed W (w.heap.size+1+1+1) 134 u
 low:Below w.heap.size w W
 same:∀ x ∈ pre,l0.getD x.1 0=l1.getD x.1 0
structure CmpX (w:World) (R:Int) (c:Code) (pre:List (Nat × Int)) (W:World):Prop where
 c:c=.ret
 r:Boxed W (w.heap.size+1+1) 3 (.int .i64 R)
 low:Below w.heap.size w W
theorem not_row {A:World} {row:Option Nat} {n:Nat} (hr:∀ r,row=some r->n<=r /\ ∃ o:Obj,A.heap[r]? = some o/\o.isCells=false) {k t:Nat} {u:Value} (hk:Boxed A k t u):some k ≠ row:=fun e=>by
 obtain ⟨_,o,ho,hc⟩:=hr k e.symm
 rw [show A.heap[k]? = _ from hk] at ho
 obtain rfl:=Option.some.inj ho
 cases hc
theorem CmpI.own {w:World} {A0 A1:Option Addr} {m c0 c1:Nat} {l0 l1:List Int} {n:Nat} (hn:w.heap.size<=n):OwnFrom n (CmpI w A0 A1 m c0 c1 l0 l1):=by
 rintro pre A W row ⟨a,b,r,⟨u,s⟩,hb,hs⟩ hg hr
 exact ⟨a.kept hg (not_row hr a),b.kept hg (not_row hr b),r.kept hg (not_row hr r),⟨u,s.kept hg (not_row hr s)⟩,(ownFrom_below (Nat.le_refl _) hn:OwnFrom _ (fun _:List (Nat × Int)=>Below w.heap.size w)) pre A W row hb hg hr,hs⟩
theorem CmpX.own {w:World} {R:Int} {n:Nat} (hn:w.heap.size<=n) (c:Code):OwnFrom n (CmpX w R c):=by
 rintro pre A W row ⟨hc,r,hb⟩ hg hr
 exact ⟨hc,r.kept hg (not_row hr r),(ownFrom_below (Nat.le_refl _) hn:OwnFrom _ (fun _:List (Nat × Int)=>Below w.heap.size w)) pre A W row hb hg hr⟩
theorem CmpI.minds {w:World} {A0 A1:Option Addr} {m c0 c1:Nat} {l0 l1:List Int}:Minds (w.heap.size+1+1+1) (CmpI w A0 A1 m c0 c1 l0 l1):=by
 rintro pre W u ⟨a,b,r,⟨v,s⟩,hb,hs⟩
 exact ⟨(Zbk W _ u _ (by omega)).trans a,(Zbk W _ u _ (by omega)).trans b,(Zbk W _ u _ (by omega)).trans r,⟨u,s.set u⟩,hb.setCell (p:=⟨w.heap.size+1+1+1,0,none⟩) (by simp;omega) u,hs⟩
theorem Zk1 (A0:Option Addr) (c0:Nat) (l0:List Int) (A1:Option Addr) (c1:Nat) (l1:List Int) (w:World) (hr0:Kd.C (Kd.int .u32) w A0 l0.length l0) (hc0:l0.length<=c0) (hr1:Kd.C (Kd.int .u32) w A1 l1.length l1) (hc1:l1.length<=c1)
  (hd0:Dg 4294967296 l0) (hd1:Dg 4294967296 l1) (hn0:Nz l0) (hn1:Nz l1) (hz0:l0.length<=1000000) (hz1:l1.length<=1000000) :
  Calls Tryz.prog 138 #[.slice A0 l0.length c0,.slice A1 l1.length c1] w fun e w'=>e=.returned (.int .i64 (cmpI (num l0) (num l1)))/\Below w.heap.size w w':=by
 have cI:=fun W:World=>cmp_Compare_int.calls l0.length l1.length _ W (Zrs _ _)
 obtain ⟨R,hR⟩:∃ R,cmpI (num l0) (num l1)=R:=⟨_,rfl⟩
 have HRes:=Lib.hid hR
 rw [hR]
 clear hR
 refine (callsIn_wide (n:=4)).1 ?_
 refine callsIn_of_wp_marks Tryz.func138 rfl trivial ?_ rfl
 simp only [Tryz.ntmps138,List.size_toArray,List.length_cons,List.length_nil,Nat.reduceAdd,Nat.reduceSub,Array.replicate_succ,Array.replicate_zero,List.push_toArray,List.append_toArray,List.nil_append,List.cons_append]
 have e0:=Zft hr0
 have e1:=Zft hr1
 have E0:=Lib.hid e0
 have E1:=Lib.hid e1
 clear e0 e1 hr0 hr1
 obtain ⟨q,hq⟩:∃ q,cmpI l0.length l1.length=q:=⟨_,rfl⟩
 rw [hq] at cI
 have HQ:=Lib.hid hq
 clear hq
 by_cases hlen:l0.length=l1.length
 ·have hq0:q=0:=by rw [<- HQ.out,hlen,Zhp]
  subst hq0
  obtain ⟨m,hm⟩:∃ m,l0.length=m:=⟨_,rfl⟩
  have hm1:l1.length=m:=by omega
  rw [hm] at E0 hz0 hc0 cI ⊢
  rw [hm1] at E1 hz1 hc1 cI ⊢
  have HM:=Lib.hid hm
  have HM1:=Lib.hid hm1
  clear hm hm1 hlen
  gi_wp2_with (first|(refine ⟨trivial,?_⟩;gi_at_call 165;refine (callsIn_wide.2 (cI _)).mono ?_;rintro e w' ⟨rfl,nq,rfl⟩)|(refine ⟨trivial,?_⟩;gi_at_call 158;refine (Zkq _ _ _ _ _).mono ?_;rintro e w' ⟨rfl,rfl⟩))
  have bA:=(Zps (((Boxed.new w 134 (.slice A0 m c0)).alloc (.cells #[.slice A1 m c1] 134)).alloc (.cells #[.int .i64 0] 3)) nq).alloc (.cells #[.slice A0 m c0] 134)
  have bB:=(Zps ((Boxed.new (w.alloc (.cells #[.slice A0 m c0] 134)) 134 (.slice A1 m c1)).alloc (.cells #[.int .i64 0] 3)) nq).alloc (.cells #[.slice A0 m c0] 134)
  have bR:=(Zps (Boxed.new ((w.alloc (.cells #[.slice A0 m c0] 134)).alloc (.cells #[.slice A1 m c1] 134)) 3 (.int .i64 0)) nq).alloc (.cells #[.slice A0 m c0] 134)
  have bS:=Boxed.new ((((w.alloc (.cells #[.slice A0 m c0] 134)).alloc (.cells #[.slice A1 m c1] 134)).alloc (.cells #[.int .i64 0] 3)).drewN nq) 134 (.slice A0 m c0)
  have hB0:Below w.heap.size w (((((w.alloc (.cells #[.slice A0 m c0] 134)).alloc (.cells #[.slice A1 m c1] 134)).alloc (.cells #[.int .i64 0] 3)).drewN nq).alloc (.cells #[.slice A0 m c0] 134)) :=
   (Zay ((((Below.refl _ w).alloc (Nat.le_refl _) _).alloc (by simp) _).alloc (by simp;omega) _) nq).alloc (by simp;omega) _
  simp only [World.size_alloc,Zlc] at bB bR bS
  have hle:c0=c0:=rfl
  obtain ⟨B,hB⟩:∃ B,w.heap.size=B:=⟨_,rfl⟩
  rw [hB] at bA bB bR bS ⊢
  refine Zdr (b:=B+1+1+1) rfl (by decide) (gf:=184) (lb:=#[.pointer (some ⟨B+1+1+1,0,none⟩)]) rfl trivial (enters_of Tryz.func184 (by kernel_rfl) rfl)
   (Zgq 3 (by omega) (B+1+1+1) A0 m c0 (fun j x=>x=l0.getD j 0) (by omega) _ bS (E0.out.below hB0)) (by simp [Zlc];omega) (fun h k=>h.trans k)
   (fun W l o o' hl ho hc hw=>KpB.put (by simp [Zlc] at hl;omega) ho hc) (Below.refl _ _) (fun _=>rfl)
   (CmpI w A0 A1 m c0 c1 l0 l1) (CmpX w R) (CmpI.own (by simp [Zlc];omega)) (CmpX.own (by simp [Zlc];omega)) (by rw [<- hB];exact CmpI.minds) ?start
   (fun x=>{ tmps:=#[.slice A0 m c0,.slice A1 m c1,.pointer (some ⟨B,0,none⟩),.pointer (some ⟨B+1,0,none⟩),.pointer (some ⟨B+1+1,0,none⟩),.int .i64 0,.int .i64 x.1,undef,.slice A0 m c0,.int .i64 m,.slice A1 m c1,.int .i64 m,.int .i64 0,.int .i64 0,.bool false,undef,.slice A0 m c0,
    .func (.func 184) #[] #[.pointer (some ⟨B+1+1+1,0,none⟩)],.int .i64 x.1,.int .u32 x.2,undef,undef,undef,undef,undef,undef,undef,undef,undef,undef,undef,undef],defers:=[] }) ?assign ?body ?done ?stop
  case start=>exact ⟨by rw [hB];exact bA,by rw [hB];exact bB,by rw [hB];exact bR,⟨_,by rw [hB];exact bS⟩,hB0,fun x h=>by cases h⟩
  case assign =>
   intro l x W K hK
   gi_wp2
   exact hK
  case body =>
   rintro l pre x W ⟨a,b,r,⟨u,s⟩,hb,hs⟩ hlen hsp
   obtain ⟨hx1,hx2⟩:=hsp.2 pre.length x (by simp)
   obtain ⟨i,y⟩:=x
   simp only at hx1 hx2
   have hi:i < m:=by omega
   obtain ⟨b0,o0,x0,hA0,hc0',hx0⟩:=(E0.out.below hb).at hi
   obtain ⟨b1,o1,x1,hA1,hc1',hx1'⟩:=(E1.out.below hb).at hi
   subst hA0 hA1
   rw [hB] at a b r s
   have ha:=a.cell
   have hbc:=b.cell
   have hi0:(0:Int)<=(i:Int):=by omega
   have hi1:(i:Int) < (m:Int):=by omega
   have cU:=fun W:World=>Zc2.calls x0 x1 _ W (Zru _ _)
   obtain ⟨q,hq⟩:∃ q,cmpI x0 x1=q:=⟨_,rfl⟩
   rw [hq] at cU
   have HQx:=Lib.hid hq
   have HX0:=Lib.hid hx0
   have HX1:=Lib.hid hx1'
   have HRb:=Lib.hid r
   have HSb:=Lib.hid s
   have HAb:=Lib.hid a
   have HBb:=Lib.hid b
   have HB:=Lib.hid hb
   have HS:=Lib.hid hs
   have HI:=Lib.hid hx1
   have HP:=Lib.hid (show BkP (fun j x=>x=l0.getD j 0) m (pre ++ [(i,y)]) from hsp)
   have hrc:=r.cell
   have hrf:=r.frozen
   clear hq hx0 hx1' r s a b hb hs hx1 hx2 hsp
   by_cases hq0:q=0
   ·subst hq0
    gi_wp2
    rename_i K hK
    refine Zea (by kernel_rfl) (by kernel_rfl) (fun h=>by obtain ⟨_,_,h⟩:=h;exact h) (by kernel_rfl) ?_
    repeat (go_big_quiet_step ((go_at_call 166;exact Zf3 (cU _))))
    refine wpQuiet_nil ?_
    rintro _ ⟨nq2,rfl⟩
    refine hK _ _ ?_
    gi_wp2
    have hxx:x0=x1:=by
     have := HQx.out;unfold cmpI at this
     split at this
     ·cases this
     ·split at this
      ·cases this
      ·omega
    exact ⟨⟨Nat.le_refl _,fun k o _ h _=>h⟩,⟨rfl,fun h=>h⟩,⟨by rw [hB];exact HAb.out,by rw [hB];exact HBb.out,by rw [hB];exact HRb.out,⟨u,by rw [hB];exact HSb.out⟩,Zay HB.out nq2,fun z hz=>by
     rcases List.mem_append.1 hz with h|h
     ·exact HS.out z h
     ·rw [List.mem_singleton.1 h];exact HX0.out.symm.trans (hxx.trans HX1.out)⟩⟩
   ·have hqt:(q != 0)=true:=by rw [bne_iff_ne];exact hq0
    clear hq0
    gi_wp2
    rename_i K hK
    refine Zea (by kernel_rfl) (by kernel_rfl) (fun h=>by obtain ⟨_,_,h⟩:=h;exact h) (by kernel_rfl) ?_
    repeat (go_big_quiet_step ((go_at_call 166;exact Zf3 (cU _))))
    refine wpQuiet_nil ?_
    rintro _ ⟨nq2,rfl⟩
    refine hK _ _ ?_
    gi_wp2
    have hne:x0 ≠ x1:=fun e=>by
     have := HQx.out;rw [e,Zhp] at this
     rw [<- this] at hqt;cases hqt
    have hqR:q=R:=by
     rw [<- HQx.out,<- HRes.out,HX0.out,HX1.out]
     refine Zs2 hd0 hd1 (by have := HM.out;have := HM1.out;omega) (by have := HM.out;omega) (fun j hj hj2=>?_) (by rw [<- HX0.out,<- HX1.out];exact hne)
     have hjm:j < m:=by have := HM.out;omega
     have hk:m - 1 - j < pre.length:=by have := HI.out;omega
     have h2:=HP.out.2 (m - 1 - j) (pre[m - 1 - j]'hk) (by rw [List.getElem?_append_left hk];exact List.getElem?_eq_getElem hk)
     have h3:=HS.out _ (List.getElem_mem hk)
     rw [h2.1,show m - 1 - (m - 1 - j)=j by omega] at h3
     exact h3
    subst hqR
    refine ⟨(KeepsOthers.trans (A:=W) (B:=W.drewN nq2) ⟨Nat.le_refl _,fun k o h _=>h⟩ (KeepsOthers.setCell (W.drewN nq2) _ _)).from _,⟨rfl,?_,?_⟩⟩
    ·rw [hB];exact Boxed.set _ HRb.out
    ·exact (Zay HB.out nq2).setCell (p:=⟨B+1+1,0,none⟩) (by simp;omega) _
  case done =>
   rintro D ys W hD ⟨hp,hpl⟩ ⟨a,b,r,_,hb,hs⟩ hK
   have hR0:R=0:=by
    rw [<- HRes.out,Zpu (a:=l0) (b:=l1) (by have := HM.out;have := HM1.out;omega) (fun i hi=>by
     have him:i < m:=by have := HM.out;omega
     have hk:m - 1 - i < ys.length:=by omega
     have h2:=hp.2 (m - 1 - i) (ys[m - 1 - i]'hk) (List.getElem?_eq_getElem hk)
     have h3:=hs _ (List.getElem_mem hk)
     rw [h2.1,show m - 1 - (m - 1 - i)=i by omega] at h3
     exact h3),Zhp]
   subst hR0
   rw [hB] at r
   have hrc:=r.cell
   have hrf:=r.frozen
   have HRb:=Lib.hid r
   have HB:=Lib.hid hb
   have HK:=Lib.hid hK
   clear hp hpl a b r hb hs hK
   gi_wp2
   have hK':=(KeepsOthers.setCell W ⟨B+1+1,0,none⟩ (.int .i64 0)).same D _ HK.out rfl
   refine ⟨by simp,.inl ⟨_,_,rfl,run_takeDeferred hK',?_⟩⟩
   have hc5:=cell_kept (Boxed.set (.int .i64 0) HRb.out).cell (grownBy_putObj' _ D (.deferred none)) (fun r e=>by cases e;exact ⟨_,hK',rfl⟩)
   exact ⟨.int .i64 0,by simp [results,Tryz.f138,go_sem,hc5],rfl,hB ▸ ((HB.out.setCell (p:=⟨w.heap.size+1+1,0,none⟩) (by simp;omega) _).trans (belowK_b (w:=w) (Nat.le_refl _) _ D _ _ (by simp [Zlc] at hD;omega) (by rw [hB];exact hK') rfl rfl))⟩
  case stop =>
   rintro D c pre W hD hpre ⟨rfl,r,hb⟩ hK
   rw [hB] at r
   gi_wp2
   refine ⟨by simp,.inl ⟨_,_,rfl,run_takeDeferred hK,?_⟩⟩
   have hc5:=cell_kept r.cell (grownBy_putObj' _ D (.deferred none)) (fun r e=>by cases e;exact ⟨_,hK,rfl⟩)
   exact ⟨.int .i64 R,by simp [results,Tryz.f138,go_sem,hc5],rfl,hB ▸ (hb.trans (belowK_b (w:=w) (Nat.le_refl _) W D _ _ (by simp [Zlc] at hD;omega) hK rfl rfl))⟩
 ·have hq0:(q != 0)=true:=by
   rw [bne_iff_ne];intro e;subst e
   have := HQ.out;unfold cmpI at this;split at this
   ·cases this
   ·split at this
    ·cases this
    ·omega
  have hqR:q=R:=by rw [<- HQ.out,<- HRes.out];exact Zrt hd0 hd1 hn0 hn1 hlen
  subst hqR
  clear hlen
  gi_wp2_with (refine ⟨trivial,?_⟩;gi_at_call 165;refine (callsIn_wide.2 (cI _)).mono ?_;rintro e w' ⟨rfl,nq,rfl⟩)
  have hbx:=Zps (Boxed.new ((w.alloc (.cells #[.slice A0 l0.length c0] 134)).alloc (.cells #[.slice A1 l1.length c1] 134)) 3 (.int .i64 0)) nq
  simp only [World.size_alloc] at hbx
  have hc5:=(Boxed.set (.int .i64 q) hbx).cell
  exact ⟨.int .i64 q,by simp [results,Tryz.f138,go_sem,hc5],rfl,(Zay ((((Below.refl _ w).alloc (Nat.le_refl _) _).alloc (by simp) _).alloc (by simp;omega) _) nq).setCell (p:=⟨w.heap.size+1+1,0,none⟩) (by simp;omega) _⟩
def Zax.f (l0 l1:List Int):Option Int:=if okW l0 && okW l1 then some (cmpI (num l0) (num l1)) else none
theorem Zax.calls (A0:Option Addr) (c0:Nat) (l0:List Int) (A1:Option Addr) (c1:Nat) (l1:List Int) (r:Int) (w:World) (hr0:Kd.C (Kd.int .u32) w A0 l0.length l0) (hc0:l0.length<=c0) (hr1:Kd.C (Kd.int .u32) w A1 l1.length l1) (hc1:l1.length<=c1) (h:Zax.f l0 l1=some r) :
  Calls Tryz.prog 138 #[.slice A0 l0.length c0,.slice A1 l1.length c1] w fun e w'=>e=.returned (.int .i64 r)/\Below w.heap.size w w':=by
 unfold Zax.f at h
 split at h
 case isFalse=>cases h
 case isTrue hk =>
 rw [Bool.and_eq_true,Zd9,Zd9] at hk
 obtain rfl:=Option.some.inj h
 exact Zk1 A0 c0 l0 A1 c1 l1 w hr0 hc0 hr1 hc1 hk.1.dg hk.2.dg hk.1.nz hk.2.nz hk.1.len hk.2.len
end YtjbjkmccfocikaaGreatDoor.B
end
section
namespace YtjbjkmccfocikaaGreatDoor.B
open Go.RowKit YtjbjkmccfocikaaGreatDoorW.PrintWords YtjbjkmccfocikaaGreatDoorW.PrintLast YtjbjkmccfocikaaGreatDoorW.PrintMore
attribute [local go_sem] Zb5 Zb7 Zcs Zct Zbn Zbo Zb6 Zb8
def Zk.l0:Nat->List Int->Int->Int->Option (List Int)
 | 0,_,_,_=>none
 | k+1,x0,x2,x3=>if x2 < x3 then (if 0<=x3 then (if x3 < (x0.length:Int) then (if 0<=x2 then (if x2 < (x0.length:Int) then (Zk.l0 k ((x0.set (x2:Int).toNat (rd x0 x3)).set (x3:Int).toNat (rd x0 x2)) (wrap64 (x2+1)) (wrap64 (x3 - 1))) else (none)) else (none)) else (none)) else (none)) else (some x0)
def Zk.f (k:Nat) (l0:List Int):Option (List Int):=Zk.l0 k l0 0 (wrap64 ((l0.length:Int) - 1))
def Zk.T3:Bool × List (List Nat × List Nat):=(true,[([],[]),([],[]),([],[]),([],[]),([],[]),([],[]),([4,5],[4,5]),([6],[6]),([],[]),([],[]),([8,9],[8,9]),([10],[10]),([0,1,0,1,4,5,6,7,11],[0,1]),([12,7,0,1,4,5,6,7,11],[7,12]),([2,3,0,1,2,3,4,5,6,7,8,9,10,11,12,13],[2,3]),([14,11,13,0,1,2,3,4,5,6,7,8,9,10,11,12,13],[11,14])])
def Zk.B3:List Nat:=[0,0,0,0,0,0,48,112,0,0,768,1792,4083,8179,16383,32767]
theorem Zk.tab3:rtab .any (opsOf Tryz.f144 3)=Zk.T3:=by kernel_rfl
theorem Zk.bits3:waitsOk Zk.T3.2 Zk.B3=true:=by kernel_rfl
theorem Zk.calls (k:Nat) (P0_:Nat->Prop) (u9000_:Value) (l0:List Int) (r:List Int) (w0 w:World) (hB:Below w0.heap.size w0 w) (ho0:Kd.R (Kd.int .u8) 5 w w0.heap.size P0_ u9000_ l0) (h:Zk.f k l0=some r) :
  Calls Tryz.prog 144 #[u9000_] w fun e w'=>e=.returned (.tuple #[])/\Kd.R (Kd.int .u8) 5 w' w0.heap.size (fun k_=>(P0_ k_\/w.heap.size<=k_)) u9000_ r/\Below w0.heap.size w0 w'/\Kept w w' (fun k_=>P0_ k_):=by
 have HO0:=am (show Kd.R (Kd.int .u8) 5 w w0.heap.size (fun k_=>(P0_ k_\/w.heap.size<=k_)) u9000_ l0 from Kd.Zi ho0 (fun k_ hk=>(.inl hk)))
 have HK:=am (Kept.refl w (fun k_=>P0_ k_))
 have HW0:=am hB.size
 have HB:=am hB
 clear hB
 have H:(Zk.l0 k l0 0 (wrap64 ((l0.length:Int) - 1)))=some r:=h
 clear h
 have H':=am H
 clear H
 obtain ⟨Ao2,co2,eo2⟩:=Kd.Zj HO0.o
 subst eo2
 go_enter Tryz.func144,Tryz.ntmps144
 go_wp2
 go_loopg [2,3] k (fun kq v2 v3 w' => ∃ (x0_1:List Int) (x2_1:Int) (x3_1:Int),v2=.int .i64 x2_1/\v3=.int .i64 x3_1/\Aside0 (Zk.l0 kq x0_1 x2_1 x3_1=some r)/\Aside0 (kq<=k)/\Aside0 (Kd.R (Kd.int .u8) 5 w' w0.heap.size (fun k_=>(P0_ k_\/w.heap.size<=k_)) (.slice Ao2 l0.length co2) x0_1)/\Aside0 (Kept w w' (fun k_=>P0_ k_))/\Aside0 (Below w0.heap.size w0 w'))
 case atStart=>exact ⟨(l0),(0),(wrap64 ((l0.length:Int) - 1)),pR,pR,H',⟨Nat.le_refl _⟩,⟨by refine rp ?_;exact HO0.o⟩,⟨by repeat (first|(with_reducible first|exact HK.out|apply Kept.alloc|apply Kept.drewN|apply Kept.drew)|exact HK.out)⟩,⟨pB⟩⟩
 case round =>
  clear H'
  obtain ⟨x0_1,x2_1,x3_1,rfl,rfl,HA,HK1,HO_0,HK,HB⟩:=hrel
  have hl0_1:=(Kd.Zd HO_0.o).1
  rw [hl0_1] at HO_0
  (try simp only [hl0_1])
  cases gk with
  | zero=>exact absurd HA.out (by simp [Zk.l0])
  | succ k1 =>
   have H:=HA.out
   clear HA
   simp only [Zk.l0] at H
   by_cases c3:x2_1 < x3_1
   ·rw [if_pos c3] at H
    have c3b0:decide (x2_1 < x3_1)=true:=decide_eq_true c3
    clear c3
    by_cases c4:0<=x3_1
    ·rw [if_pos c4] at H
     have c4b0:decide (0<=x3_1)=true:=decide_eq_true c4
     clear c4
     by_cases c5:x3_1 < (x0_1.length:Int)
     ·rw [if_pos c5] at H
      have c5b0:decide (x3_1 < (x0_1.length:Int))=true:=decide_eq_true c5
      clear c5
      by_cases c6:0<=x2_1
      ·rw [if_pos c6] at H
       have c6b0:decide (0<=x2_1)=true:=decide_eq_true c6
       clear c6
       by_cases c7:x2_1 < (x0_1.length:Int)
       ·rw [if_pos c7] at H
        have c7b0:decide (x2_1 < (x0_1.length:Int))=true:=decide_eq_true c7
        clear c7
        obtain ⟨y159,hy159⟩:∃ y_:List Int,y_=(x0_1.set (x2_1:Int).toNat (rd x0_1 x3_1)):=⟨_,rfl⟩
        replace H:(Zk.l0 k1 (y159.set (x3_1:Int).toNat (rd x0_1 x2_1)) (wrap64 (x2_1+1)) (wrap64 (x3_1 - 1)))=some r:=by have hy_:=hy159;exact pH
        have Ny159:=am hy159
        clear hy159
        obtain ⟨y160,hy160⟩:∃ y_:List Int,y_=(y159.set (x3_1:Int).toNat (rd x0_1 x2_1)):=⟨_,rfl⟩
        replace H:(Zk.l0 k1 y160 (wrap64 (x2_1+1)) (wrap64 (x3_1 - 1)))=some r:=by have hy_:=hy160;exact pH
        have Ny160:=am hy160
        clear hy160
        have H':=am H
        clear H
        try go_wp2
        replace HO_0:=am (Kd.Zem HO_0.o)
        replace HK:=am (Kept.drew HK.out)
        replace HB:=am (Zaz HB.o)
        have p157:0<=(x3_1:Int):=of_decide_eq_true pQ
        have q157:x3_1 < (x0_1.length:Int):=of_decide_eq_true pQ
        obtain ⟨ad157,e157,hx157_0⟩:=Kd.Za4 (Kd.Zd HO_0.o).2.2 x3_1 p157 q157
        cases e157
        replace p157:=eq_true p157
        replace q157:=eq_true q157
        have p158:0<=(x2_1:Int):=of_decide_eq_true pQ
        have q158:x2_1 < (x0_1.length:Int):=of_decide_eq_true pQ
        obtain ⟨ad158,e158,hx158_0⟩:=Kd.Za4 (Kd.Zd HO_0.o).2.2 x2_1 p158 q158
        obtain rfl:ad157=ad158:=(by injection e158)
        replace p158:=eq_true p158
        replace q158:=eq_true q158
        have p8:0<=(x2_1:Int):=of_decide_eq_true pQ
        have q8:(x2_1:Int) < ((x0_1.length:Int):Int):=of_decide_eq_true pQ
        obtain ⟨go8,co8,eo8,gb8,gl8,cl8,HG8⟩:=Kd.Zhh HO_0.o (by omega)
        (first|cases eo8|(injection eo8 with ea_ en_ ec_;(first|subst ea_|(injection ea_ with ea_;subst ea_));subst ec_;clear en_))
        have GB8:=am gb8
        have GG8:=am HG8
        clear gb8 gl8 HG8
        have HMgo8:=am (show (P0_ go8\/w.heap.size<=go8) from (HO_0.o.1 _ rfl))
        (first|simp only [add_plain] at hx157_0|skip)
        (first|simp only [add_plain] at hx158_0|skip)
        obtain ⟨hx8_0,hf8_0⟩:=Kd.Ze1 0 HO_0.o (x2_1:Int) p8 q8
        replace p8:=eq_true p8
        replace q8:=eq_true q8
        have HP11:=Kd.Zlo HO_0.o (x2_1:Int) (rd x0_1 x3_1)
        rw [<- Ny159.out] at HP11
        have HQ11:=am HP11
        clear HP11
        have p9:0<=(x3_1:Int):=of_decide_eq_true pQ
        have q9:(x3_1:Int) < ((x0_1.length:Int):Int):=of_decide_eq_true pQ
        obtain ⟨hx9_0,hf9_0⟩:=Kd.Ze1 0 HQ11.out (x3_1:Int) p9 q9
        replace p9:=eq_true p9
        replace q9:=eq_true q9
        have HP12:=Kd.Zlo HQ11.out (x3_1:Int) (rd x0_1 x2_1)
        rw [<- Ny160.out] at HP12
        have HQ12:=am HP12
        clear HP12
        refine start_ (n:=16) (S:=fun w'=>w'.cell? ⟨go8,(x3_1).toNat,none⟩=some (.int .u8 (rd x0_1 x3_1))/\w'.cell? ⟨go8,(x2_1).toNat,none⟩=some (.int .u8 (rd x0_1 x2_1))) (ds:=[13,15]) #[false,false,false,false,false,false,false,false,false,false,false,false,false,false,false,false] (by kernel_rfl) rfl rfl ⟨hx157_0,hx158_0⟩ (fun hHeld=>?_);refine Zcq Zk.tab3 Zk.bits3 (fun HT_ HW_=>?_)
        generalize wr.drew=w10 at HO_0 HK HB GG8 HQ11 HQ12 hf8_0 hf9_0 hx157_0 hx158_0 hx8_0 hx9_0 hHeld ⊢
        refine pu 0 (some 14) #[true,false,false,false,false,false,false,false,false,false,false,false,false,false,false,false] (h:=?_)
        refine pu 1 (some 15) #[true,true,false,false,false,false,false,false,false,false,false,false,false,false,false,false] (h:=?_)
        refine pu 2 (some 16) #[true,true,true,false,false,false,false,false,false,false,false,false,false,false,false,false] (h:=?_)
        refine pu 3 (some 17) #[true,true,true,true,false,false,false,false,false,false,false,false,false,false,false,false] (h:=?_)
        refine pu 4 (some 18) #[true,true,true,true,true,false,false,false,false,false,false,false,false,false,false,false] (h:=?_)
        refine pu 5 (some 19) #[true,true,true,true,true,true,false,false,false,false,false,false,false,false,false,false] (h:=?_)
        refine pu 6 (some 20) #[true,true,true,true,true,true,true,false,false,false,false,false,false,false,false,false] (h:=?_)
        refine pu 8 (some 22) #[true,true,true,true,true,true,true,false,true,false,false,false,false,false,false,false] (h:=?_)
        refine pu 9 (some 23) #[true,true,true,true,true,true,true,false,true,true,false,false,false,false,false,false] (h:=?_)
        refine pu 10 (some 24) #[true,true,true,true,true,true,true,false,true,true,true,false,false,false,false,false] (h:=?_)
        refine take_ (i:=7) (N:=some 21) (v:=?_) (a':=?_) #[true,true,true,true,true,true,true,true,true,true,true,false,false,false,false,false] rfl rfl (Zbi HT_.out HW_.out (by kernel_rfl)) (fun _ _ _ h=>h) (Or.inl ⟨by rfl,?_⟩) hHeld ?_ ?_
        rotate_left
        ·rintro w' ⟨s0,s1⟩
         go_simp
         with_reducible rfl
        rotate_left
        ·exact pP
        refine take_ (i:=11) (N:=some 25) (v:=?_) (a':=?_) #[true,true,true,true,true,true,true,true,true,true,true,true,false,false,false,false] rfl rfl (Zbi HT_.out HW_.out (by kernel_rfl)) (fun _ _ _ h=>h) (Or.inl ⟨by rfl,?_⟩) hHeld ?_ ?_
        rotate_left
        ·rintro w' ⟨s0,s1⟩
         go_simp
         with_reducible rfl
        rotate_left
        ·exact pP
        refine pu 12 (some 26) #[true,true,true,true,true,true,true,true,true,true,true,true,true,false,false,false] (h:=?_)
        refine last_ (i:=13) (N:=none) #[true,true,true,true,true,true,true,true,true,true,true,true,true,true,false,false] rfl rfl (Zbw HT_.out (by kernel_rfl)) (by decide) (fun K hK=>?_)
        refine skip_ (w1:=?_) (by rfl) rfl ?_ ?_
        rotate_left
        ·go_simp
         rfl
        refine hK.out _ _ ?_
        clear hK K
        refine pu 14 (some 27) #[true,true,true,true,true,true,true,true,true,true,true,true,true,true,true,false] (h:=?_)
        refine last_ (i:=15) (N:=none) #[true,true,true,true,true,true,true,true,true,true,true,true,true,true,true,true] rfl rfl (Zbw HT_.out (by kernel_rfl)) (by decide) (fun K hK=>?_)
        refine skip_ (w1:=?_) (by rfl) rfl ?_ ?_
        rotate_left
        ·go_simp
         rfl
        refine hK.out _ _ ?_
        clear hK K
        refine done_ (Zdl HT_.out (by kernel_rfl)) ?_
        try go_wp2
        (try simp only [<- hl0_1])
        go_roundg k1
        case measure=>have := HK1.out;omega
        case rel=>exact ⟨(y160),(wrap64 (x2_1+1)),(wrap64 (x3_1 - 1)),pR,pR,H',⟨by have := HK1.out;omega⟩,⟨by (try simp only [hl0_1]);refine rp ?_;exact HQ12.out⟩,⟨by repeat (first|(with_reducible first|exact HK.out|apply Kept.alloc|apply Kept.drewN|apply Kept.drew|refine Kept.setCell ?_ HMgo8.out _|refine Kept.setCell ?_ HMgo8.out _)|exact HK.out)⟩,⟨by repeat (first|(with_reducible first|exact HB.o|apply Zco|apply Zay|apply Zaz|refine Zda ?_ GB8.out|refine Zda ?_ GB8.out)|exact HB.o)⟩⟩
       ·rw [if_neg c7] at H
        exact absurd H (by simp)
      ·rw [if_neg c6] at H
       exact absurd H (by simp)
     ·rw [if_neg c5] at H
      exact absurd H (by simp)
    ·rw [if_neg c4] at H
     exact absurd H (by simp)
   ·rw [if_neg c3] at H
    have c3b0:decide (x2_1 < x3_1)=false:=decide_eq_false c3
    clear c3
    obtain rfl:=Option.some.inj H
    go_wp2
    first|go_end0|((try simp only [Exit.inBlock,Exit.then]);refine bodyPost_ret (results_none rfl _ _ _) rfl ?_)
    exact ⟨pE,(by first|exact (Kd.Za HO_0.o pl)|(simp only [hl0_1];exact (Kd.Za HO_0.o pl))),pB,by repeat (first|(with_reducible first|exact HK.out|apply Kept.alloc|apply Kept.drewN|apply Kept.drew)|exact HK.out)⟩
end YtjbjkmccfocikaaGreatDoor.B
end
section
namespace YtjbjkmccfocikaaGreatDoor.B
open Go.RowKit YtjbjkmccfocikaaGreatDoorW.PrintWords YtjbjkmccfocikaaGreatDoor.P.Nm
attribute [local go_sem] Oper.semAt_some
theorem Zsb (h l:Int) (h1:0<=h) (h2:h < 4294967296) (h3:0<=l) (h4:l < 4294967296):bits .or .u64 (h*4294967296) l=h*4294967296+l:=by
 obtain ⟨A,rfl⟩:=Int.eq_ofNat_of_zero_le h1
 obtain ⟨B,rfl⟩:=Int.eq_ofNat_of_zero_le h3
 have e:(A:Int)*4294967296=((A*4294967296:Nat):Int):=by omega
 rw [e,bits_or_u64_nat (A*4294967296) B (by omega) (by omega),show A*4294967296=2 ^ 32*A by omega,<- Nat.two_pow_add_eq_or_of_lt (by omega:B < 2 ^ 32)]
 omega
theorem div32 (a0 a1 a2:Int) (w:World) (h1:0<=a0) (h2:a0 < a2) (h3:0<=a1) (h4:a1 < 4294967296) (h5:a2 < 4294967296) :
  Calls Tryz.prog 169 #[.int .u32 a0,.int .u32 a1,.int .u32 a2] w fun e w'=>e=.returned (.tuple #[.int .u32 ((a0*4294967296+a1) / a2),.int .u32 ((a0*4294967296+a1) % a2)])/\Drawn0 w w':=by
 have b1:(a2 != 0)=true:=bne_iff_ne.2 (by omega)
 have b1':decide (a2 ≠ 0)=true:=decide_eq_true (by omega)
 have b2:decide (a2<=a0)=false:=decide_eq_false (by omega)
 have b3:¬ a2=0:=by omega
 have e1:a0*4294967296 % 18446744073709551616=a0*4294967296:=by omega
 have e2:=Zsb a0 a1 h1 (by omega) h3 h4
 have e3:(a0*4294967296+a1) / a2 % 4294967296=(a0*4294967296+a1) / a2:=by
  have:(a0*4294967296+a1) / a2 < 4294967296:=Int.ediv_lt_of_lt_mul (by omega) (by
   have := Int.mul_le_mul_of_nonneg_right (show a0+1<=a2 by omega) (show (0:Int)<=4294967296 by omega)
   omega)
  have:0<=(a0*4294967296+a1) / a2:=Int.ediv_nonneg (by omega) (by omega)
  omega
 have e4:(a0*4294967296+a1) % a2 % 4294967296=(a0*4294967296+a1) % a2:=by
  have := Int.emod_lt_of_pos (a0*4294967296+a1) (show 0 < a2 by omega)
  have := Int.emod_nonneg (a0*4294967296+a1) (show a2 ≠ 0 by omega)
  omega
 go_enter Tryz.func169,Tryz.ntmps169
 go_wp2
 repeat (go_quiet (fail);try go_wp2)
 go_ret2
 exact ⟨rfl,⟨_,rfl⟩⟩
theorem Zsf (l:List Int) (x:Int):rd (l ++ [x]) (l.length:Int)=x:=by
 unfold rd
 rw [Int.toNat_natCast]
 simp [List.getD]
theorem Zh2:∀ (n:Nat) (l:List Int) (k:Nat),l.length=n->n < k->n<=4611686018427387904->Zv.l0 k l=some (trimL l)
 | n,l,0,_,h,_=>by omega
 | 0,l,k+1,hn,_,_=>by
  obtain rfl:=List.eq_nil_of_length_eq_zero hn
  rfl
 | n+1,l,k+1,hn,hk,hb=>by
  obtain ⟨l',x,rfl⟩:=Ze7 (l:=l) (by intro e;subst e;simp at hn)
  have hl':l'.length=n:=by simpa using hn
  have e:wrap64 (((l' ++ [x]).length:Int) - 1)=(l'.length:Int):=by rw [hn];unfold wrap64;omega
  simp only [Zv.l0]
  rw [e,if_pos (by rw [hn];omega),if_pos (by omega),if_pos (by rw [hn];omega),Zsf]
  by_cases hx:x=0
  ·subst hx
   rw [if_pos rfl,if_pos (by rw [hn];omega),Int.toNat_natCast,List.take_left,Zee]
   exact Zh2 n l' k hl' (by omega) (by omega)
  ·rw [if_neg hx,if_neg (by rw [hn];omega),Ze0 _ hx]
theorem Zti (l:List Int) {k:Nat} (h:l.length < k) (hb:l.length<=4611686018427387904):Zv.f k l=some (trimL l):=Zh2 _ l k rfl h hb
structure SmallAt (by_:Int) (l:List Int) (j:Nat) (xs:List Int) (rest:Int):Prop where
 len:xs.length=l.length
 dg:Dg 4294967296 xs
 r0:0<=rest
 r1:rest < by_
 law:val 4294967296 (l.drop (l.length - j))=val 4294967296 (xs.drop (l.length - j))*by_+rest
theorem Zi3 {xs:List Int} {i:Nat} (h:i < xs.length) (q:Int):(xs.set i q).drop i=q :: xs.drop (i+1):=by
 rw [List.drop_eq_getElem_cons (by simpa using h)]
 simp [List.drop_set]
theorem SmallAt.start {by_:Int} {l:List Int} (h:0 < by_):SmallAt by_ l 0 (List.replicate l.length 0) 0 :=
 ⟨by simp,Dg.zeros (by omega) _,by omega,h,by simp [val]⟩
theorem SmallAt.step {by_:Int} {l:List Int} {j:Nat} {xs:List Int} {rest:Int} (h:SmallAt by_ l j xs rest) (hb:0 < by_) (hb2:by_ < 4294967296) (hd:Dg 4294967296 l) (hj:j < l.length) :
  SmallAt by_ l (j+1) (xs.set (l.length - 1 - j) ((rest*4294967296+l.getD (l.length - 1 - j) 0) / by_)) ((rest*4294967296+l.getD (l.length - 1 - j) 0) % by_):=by
 have hi:l.length - 1 - j < l.length:=by omega
 obtain ⟨i,hiE⟩:∃ i,l.length - 1 - j=i:=⟨_,rfl⟩
 rw [hiE] at hi ⊢
 have hx:=hd _ (List.getElem_mem hi)
 obtain ⟨x,hxE⟩:∃ x,l[i]=x:=⟨_,rfl⟩
 have hg:l.getD i 0=x:=by rw [List.getD,List.getElem?_eq_getElem hi];exact hxE
 rw [hxE] at hx
 rw [hg]
 obtain ⟨z,hz⟩:∃ z,rest*4294967296+x=z:=⟨_,rfl⟩
 rw [hz]
 have hr0:=h.r0
 have hr1:=h.r1
 have hq:z / by_ < 4294967296:=Int.ediv_lt_of_lt_mul hb (by
  have := Int.mul_le_mul_of_nonneg_right (show rest+1<=by_ by omega) (show (0:Int)<=4294967296 by omega)
  omega)
 have hq0:0<=z / by_:=Int.ediv_nonneg (by omega) (by omega)
 refine ⟨by rw [List.length_set];exact h.len,fun y hy=>?_,Int.emod_nonneg _ (by omega),Int.emod_lt_of_pos _ hb,?_⟩
 ·rcases List.mem_or_eq_of_mem_set hy with hy|rfl
  ·exact h.dg y hy
  ·exact ⟨hq0,hq⟩
 ·have e1:l.length - (j+1)=i:=by omega
  have e2:l.length - j=i+1:=by omega
  have hlaw:=h.law
  rw [e2] at hlaw
  rw [e1,Zi3 (by rw [h.len];exact hi),List.drop_eq_getElem_cons hi,hxE,Zb1,Zb1,hlaw]
  have := Int.mul_ediv_add_emod z by_
  rw [Int.add_mul,Int.mul_assoc,Int.mul_comm (z / by_)]
  generalize val 4294967296 (List.drop (i+1) xs)*by_=V at *
  omega
theorem SmallAt.done {by_:Int} {l:List Int} {xs:List Int} {rest:Int} (h:SmallAt by_ l l.length xs rest) (hd:Dg 4294967296 l):trimL xs=limbs (num l / by_.toNat)/\rest=((num l % by_.toNat:Nat):Int):=by
 have hlaw:=h.law
 rw [Nat.sub_self,List.drop_zero,List.drop_zero,<- Zc9 hd] at hlaw
 have hr0:=h.r0
 have hr1:=h.r1
 have hv:=Zc9 h.dg
 obtain ⟨b,rfl⟩:=Int.eq_ofNat_of_zero_le (show 0<=by_ by omega)
 obtain ⟨r,rfl⟩:=Int.eq_ofNat_of_zero_le hr0
 rw [Int.toNat_natCast]
 rw [<- hv] at hlaw
 have e:num l=num xs*b+r:=by exact_mod_cast hlaw
 have hrb:r < b:=by omega
 have hb0:0 < b:=by omega
 have e1:num l / b=num xs:=by rw [e,Nat.mul_comm,Nat.mul_add_div hb0,Nat.div_eq_of_lt hrb,Nat.add_zero]
 have e2:num l % b=r:=by rw [e,Nat.mul_comm,Nat.mul_add_mod,Nat.mod_eq_of_lt hrb]
 exact ⟨by rw [e1];exact Zik h.dg hv.symm,by rw [e2]⟩
theorem KpB.set {Bs:Nat} {A:Option Addr} {m:Nat} {Rd:Nat->Int->Prop} {W:World} {p:Addr} (u:Value) (hp:Bs ≠ p.block) (ha:m=0 \/ ∃ b o,A=some ⟨b,o,none⟩/\b ≠ p.block):KpB Bs A m Rd W (W.setCell p u) :=
 ⟨Below.heap_setCell W p u Bs hp,fun h=>by
  rcases h with h|⟨b,o,rfl,h⟩
  ·exact .inl h
  ·rcases ha with h0|⟨b',o',e,hne⟩
   ·exact .inl h0
   ·cases e
    exact .inr ⟨b,o,rfl,fun j hj=>by
     obtain ⟨x,hx,hR⟩:=h j hj
     exact ⟨x,(World.cell?_of_block (a:=⟨b,o+j,none⟩) (Below.heap_setCell W p u b hne)).trans hx,hR⟩⟩⟩
structure SmI (w:World) (A0:Option Addr) (m c0:Nat) (by_:Int) (l0:List Int) (pre:List (Nat × Int)) (W:World):Prop where
 a:Boxed W w.heap.size 134 (.slice A0 m c0)
 d:Boxed W (w.heap.size+1) 85 (.int .u32 by_)
 o:Boxed W (w.heap.size+1+1+1) 134 (.slice (some ⟨w.heap.size+1+1,0,none⟩) m m)
 s:∃ u,Boxed W (w.heap.size+1+1+1+1+1) 134 u
 st:∃ xs rest,SmallAt by_ l0 pre.length xs rest/\Boxed W (w.heap.size+1+1+1+1) 85 (.int .u32 rest)/\W.ownsRow w.heap.size 85 1 (.slice (some ⟨w.heap.size+1+1,0,none⟩) m m) m (nums .u32 xs)
 low:Below w.heap.size w W
theorem Zfs {A W:World} {base e size n:Nat} {v:Value} {xs:List Value} {row:Option Nat} {k:Nat} (h:A.ownsRow base e size v n xs) (hg:A.grownBy W row) (hr:∀ r,row=some r->k<=r /\ ∃ o:Obj,A.heap[r]? = some o/\o.isCells=false):W.ownsRow base e size v n xs:=by
 refine h.kept hg ?_
 rcases hb:v.ownBlock with _|b
 ·exact .inl rfl
 ·refine .inr (fun e=>?_)
  obtain ⟨_,o,ho,hc⟩:=hr b e.symm
  obtain ⟨cells,hcell⟩:=Zez h b hb
  rw [hcell] at ho
  obtain rfl:=Option.some.inj ho
  cases hc
theorem SmI.own {w:World} {A0:Option Addr} {m c0:Nat} {by_:Int} {l0:List Int} {n:Nat} (hn:w.heap.size<=n):OwnFrom n (SmI w A0 m c0 by_ l0):=by
 rintro pre A W row ⟨a,d,o,⟨u,s⟩,⟨xs,rest,h1,h2,h3⟩,hb⟩ hg hr
 exact ⟨a.kept hg (not_row hr a),d.kept hg (not_row hr d),o.kept hg (not_row hr o),⟨u,s.kept hg (not_row hr s)⟩,⟨xs,rest,h1,h2.kept hg (not_row hr h2),Zfs h3 hg hr⟩,(ownFrom_below (Nat.le_refl _) hn:OwnFrom _ (fun _:List (Nat × Int)=>Below w.heap.size w)) pre A W row hb hg hr⟩
theorem SmI.minds {w:World} {A0:Option Addr} {m c0:Nat} {by_:Int} {l0:List Int}:Minds (w.heap.size+1+1+1+1+1) (SmI w A0 m c0 by_ l0):=by
 rintro pre W u ⟨a,d,o,⟨v,s⟩,⟨xs,rest,h1,h2,h3⟩,hb⟩
 exact ⟨(Zbk W _ u _ (by omega)).trans a,(Zbk W _ u _ (by omega)).trans d,(Zbk W _ u _ (by omega)).trans o,⟨u,s.set u⟩,⟨xs,rest,h1,(Zbk W _ u _ (by omega)).trans h2,Zhy h3 (by simp [Value.ownBlock];omega) u⟩,hb.setCell (p:=⟨w.heap.size+1+1+1+1+1,0,none⟩) (by simp;omega) u⟩
theorem Zor (A0:Option Addr) (c0:Nat) (l0:List Int) (by_:Int) (w:World) (hr0:Kd.C (Kd.int .u32) w A0 l0.length l0) (hc0:l0.length<=c0) (hd0:Dg 4294967296 l0) (hz0:l0.length<=1000000) (hb1:0 < by_) (hb2:by_ < 4294967296) :
  Calls Tryz.prog 143 #[.slice A0 l0.length c0,.int .u32 by_] w fun e w' => ∃ v0_:Value,e=.returned (.tuple #[v0_,.int .u32 ((num l0 % by_.toNat:Nat):Int)])/\Kd.R (Kd.int .u32) 85 w' w.heap.size (fun _=>True) v0_ (limbs (num l0 / by_.toNat))/\Below w.heap.size w w':=by
 obtain ⟨RR,hRR⟩:∃ RR:Int,((num l0 % by_.toNat:Nat):Int)=RR:=⟨_,rfl⟩
 obtain ⟨QL,hQL⟩:∃ QL:List Int,limbs (num l0 / by_.toNat)=QL:=⟨_,rfl⟩
 rw [hRR,hQL]
 have HRR:=Lib.hid hRR
 have HQL:=Lib.hid hQL
 clear hRR hQL
 refine (callsIn_wide (n:=4)).1 ?_
 refine callsIn_of_wp_marks Tryz.func143 rfl trivial ?_ rfl
 simp only [Tryz.ntmps143,List.size_toArray,List.length_cons,List.length_nil,Nat.reduceAdd,Nat.reduceSub,Array.replicate_succ,Array.replicate_zero,List.push_toArray,List.append_toArray,List.nil_append,List.cons_append]
 have e0:=Zft hr0
 have E0:=Lib.hid e0
 clear e0 hr0
 obtain ⟨m,hm⟩:∃ m,l0.length=m:=⟨_,rfl⟩
 rw [hm] at E0 hz0 hc0 ⊢
 have HM:=Lib.hid hm
 clear hm
 obtain ⟨i0,hi,hzz⟩:=Option.map_eq_some_iff.1 info85
 simp only [Prod.mk.injEq] at hzz
 obtain ⟨hz1,hz2,hz3⟩:=hzz
 have hmk:∀ W:World,(Instr.makeSlice 134 (.int .i64 m) (.int .i64 m)).run Tryz.prog W=.ok (.slice (some ⟨W.heap.size,0,none⟩) m m) (W.alloc (.cells (madeCells #[.int .u32 0] m) 85)):=fun W=>by
  have := run_make (P:=Tryz.prog) W 134 85 i0 (.int .u32 0) Tryz.underlying134 hi hz1 .i64 .i64 (m:Int) (m:Int) (by omega) (by omega) (by rw [hz3];omega) (by omega)
  simp only [Int.toNat_natCast,hz2,Nat.mul_one] at this
  exact this
 gi_wp2_with (refine ⟨trivial,?_⟩;gi_at_call 158;refine (Zkq _ _ _ _ _).mono ?_;rintro e w' ⟨rfl,rfl⟩)
 have bA:=((((((Boxed.new w 134 (.slice A0 m c0)).alloc (.cells #[.int .u32 by_] 85)).alloc (.cells (madeCells #[.int .u32 0] m) 85)).alloc (.cells #[.slice (some ⟨w.heap.size+1+1,0,none⟩) m m] 134)).alloc (.cells #[.int .u32 0] 85)).alloc (.cells #[.slice A0 m c0] 134))
 have bD:=(((((Boxed.new (w.alloc (.cells #[.slice A0 m c0] 134)) 85 (.int .u32 by_)).alloc (.cells (madeCells #[.int .u32 0] m) 85)).alloc (.cells #[.slice (some ⟨w.heap.size+1+1,0,none⟩) m m] 134)).alloc (.cells #[.int .u32 0] 85)).alloc (.cells #[.slice A0 m c0] 134))
 have bW:=Zcm (Zcm (Zcm (Zmc ((w.alloc (.cells #[.slice A0 m c0] 134)).alloc (.cells #[.int .u32 by_] 85)) w.heap.size 85 .u32 m (by simp;omega) (by omega)) (.cells #[.slice (some ⟨w.heap.size+1+1,0,none⟩) m m] 134)) (.cells #[.int .u32 0] 85)) (.cells #[.slice A0 m c0] 134)
 have bO:=(((Boxed.new (((w.alloc (.cells #[.slice A0 m c0] 134)).alloc (.cells #[.int .u32 by_] 85)).alloc (.cells (madeCells #[.int .u32 0] m) 85)) 134 (.slice (some ⟨w.heap.size+1+1,0,none⟩) m m)).alloc (.cells #[.int .u32 0] 85)).alloc (.cells #[.slice A0 m c0] 134))
 have bR:=((Boxed.new ((((w.alloc (.cells #[.slice A0 m c0] 134)).alloc (.cells #[.int .u32 by_] 85)).alloc (.cells (madeCells #[.int .u32 0] m) 85)).alloc (.cells #[.slice (some ⟨w.heap.size+1+1,0,none⟩) m m] 134)) 85 (.int .u32 0)).alloc (.cells #[.slice A0 m c0] 134))
 have bS:=(Boxed.new (((((w.alloc (.cells #[.slice A0 m c0] 134)).alloc (.cells #[.int .u32 by_] 85)).alloc (.cells (madeCells #[.int .u32 0] m) 85)).alloc (.cells #[.slice (some ⟨w.heap.size+1+1,0,none⟩) m m] 134)).alloc (.cells #[.int .u32 0] 85)) 134 (.slice A0 m c0))
 have hB0:Below w.heap.size w ((((((w.alloc (.cells #[.slice A0 m c0] 134)).alloc (.cells #[.int .u32 by_] 85)).alloc (.cells (madeCells #[.int .u32 0] m) 85)).alloc (.cells #[.slice (some ⟨w.heap.size+1+1,0,none⟩) m m] 134)).alloc (.cells #[.int .u32 0] 85)).alloc (.cells #[.slice A0 m c0] 134)) :=
  ((((((Below.refl _ w).alloc (Nat.le_refl _) _).alloc (by simp) _).alloc (by simp;omega) _).alloc (by simp;omega) _).alloc (by simp;omega) _).alloc (by simp;omega) _
 simp only [World.size_alloc] at bA bD bW bO bR bS
 have hSt:SmallAt by_ l0 0 (List.replicate m 0) 0:=HM.out ▸ SmallAt.start hb1
 have HSt:=Lib.hid hSt
 clear hSt hmk
 obtain ⟨B,hB⟩:∃ B,w.heap.size=B:=⟨_,rfl⟩
 rw [hB] at bA bD bW bO bR bS ⊢
 have HBw:=Lib.hid bW
 clear bW
 have hA0:m=0 \/ ∃ b o,A0=some ⟨b,o,none⟩/\b < B:=by
  rcases Nat.eq_zero_or_pos m with h|h
  ·exact .inl h
  ·obtain ⟨b,o,x,hA,hc,_⟩:=E0.out.at h
   exact .inr ⟨b,o,hA,by have := World.block_lt_of_cell? w _ hc;simp at this;omega⟩
 have HA0:=Lib.hid hA0
 clear hA0
 refine Zdr (b:=B+1+1+1+1+1) rfl (by decide) (gf:=184) (lb:=#[.pointer (some ⟨B+1+1+1+1+1,0,none⟩)]) rfl trivial (enters_of Tryz.func184 (by kernel_rfl) rfl)
  (Zgq 3 (by omega) (B+1+1+1+1+1) A0 m c0 (fun j x=>x=l0.getD j 0) (by omega) _ bS (E0.out.below (by rw [<- hB];exact hB0))) (by simp;omega) (fun h k=>h.trans k)
  (fun W l o o' hl ho hc hw=>KpB.put (by simp at hl;omega) ho hc) (Below.refl _ _) (fun _=>rfl)
  (SmI w A0 m c0 by_ l0) (fun _ _ _=>False) (SmI.own (by simp;omega)) (fun _=>by rintro pre A W row h;exact h.elim) (by rw [<- hB];exact SmI.minds) ?start
  (fun x=>{ tmps:=#[.slice A0 m c0,.int .u32 by_,.pointer (some ⟨B,0,none⟩),.pointer (some ⟨B+1,0,none⟩),.slice none 0 0,.int .u32 0,.pointer (some ⟨B+1+1+1,0,none⟩),.pointer (some ⟨B+1+1+1+1,0,none⟩),.int .i64 x.1,.slice A0 m c0,
   .int .i64 m,.slice (some ⟨B+1+1,0,none⟩) m m,.slice A0 m c0,.func (.func 184) #[] #[.pointer (some ⟨B+1+1+1+1+1,0,none⟩)],.int .i64 x.1,.int .u32 x.2,
   undef,undef,undef,undef,undef,undef,undef,undef,undef,undef,undef,undef,undef,undef,undef,undef],defers:=[] }) ?assign ?body ?done ?stop
 case start=>exact ⟨by rw [hB];exact bA,by rw [hB];exact bD,by rw [hB];exact bO,⟨_,by rw [hB];exact bS⟩,⟨_,_,HSt.out,by rw [hB];exact bR,by rw [hB];exact HBw.out⟩,by rw [<- hB];exact hB0⟩
 case assign =>
  intro l x W K hK
  gi_wp2
  exact hK
 case body =>
  rintro l pre x W ⟨a,d,o,⟨u,s⟩,⟨xs,rest,hst,r,hrow⟩,hb⟩ hlen hsp
  obtain ⟨hx1,hx2⟩:=hsp.2 pre.length x (by simp)
  obtain ⟨i,y⟩:=x
  simp only at hx1 hx2
  have hi':i < m:=by omega
  obtain ⟨b0,o0,x0,hA0',hc0',hx0⟩:=(E0.out.below hb).at hi'
  subst hA0'
  rw [hB] at a d o r s hrow
  have hac:=a.cell
  have hdc:=d.cell
  have hoc:=o.cell
  have hrc:=r.cell
  have hrf:=r.frozen
  have hi0:(0:Int)<=(i:Int):=by omega
  have hi1:(i:Int) < (m:Int):=by omega
  have hcw:=Zfe hrow (i:Int) hi0 hi1
  rw [Int.toNat_natCast] at hcw
  have hcc:=hcw.1
  have hcf:=hcw.2
  have hlm:=HM.out
  have hxE:l0.getD (l0.length - 1 - pre.length) 0=x0:=by rw [hlm,<- hx1];exact hx0.symm
  have hst':=hst.step hb1 hb2 hd0 (by omega)
  rw [hxE,hlm,<- hx1] at hst'
  have hx0r:0<=x0/\x0 < 4294967296:=by
   have hin:i < l0.length:=by omega
   rw [hx0,List.getD,List.getElem?_eq_getElem hin]
   exact hd0 _ (List.getElem_mem hin)
  have cD:=fun W:World=>div32 rest x0 by_ W hst.r0 hst.r1 hx0r.1 hx0r.2 hb2
  obtain ⟨q,hq⟩:∃ q,(rest*4294967296+x0) / by_=q:=⟨_,rfl⟩
  obtain ⟨z,hz⟩:∃ z,(rest*4294967296+x0) % by_=z:=⟨_,rfl⟩
  rw [hq,hz] at cD hst'
  have HST:=Lib.hid hst'
  have HRb:=Lib.hid r
  have HSb:=Lib.hid s
  have HAb:=Lib.hid a
  have HDb:=Lib.hid d
  have HOb:=Lib.hid o
  have HRow:=Lib.hid hrow
  have HB:=Lib.hid hb
  clear hq hz hst hst' hxE hx0r hlm hcw r s a d o hrow hb hsp hx2 hx0
  have HX1:=Lib.hid hx1
  clear hx1
  gi_wp2
  rename_i K hK
  have hS0:∀ W':World,W'.heap=W.heap->W'.cell? ⟨B+1+1+1,0,none⟩=some (.slice (some ⟨B+1+1,0,none⟩) m m)/\W'.cell? ⟨B,0,none⟩=some (.slice (some ⟨b0,o0,none⟩) m c0)/\W'.cell? ⟨B+1,0,none⟩=some (.int .u32 by_)/\W'.cell? ⟨b0,o0+i,none⟩=some (.int .u32 x0):=fun W' hW'=>⟨(World.cell?_of_block (by rw [hW'])).trans hoc,(World.cell?_of_block (by rw [hW'])).trans hac,(World.cell?_of_block (by rw [hW'])).trans hdc,(World.cell?_of_block (by rw [hW'])).trans hc0'⟩
  have hb0B:b0 < B:=by
   rcases HA0.out with h|⟨b,o,hA,hlt⟩
   ·omega
   ·cases hA;exact hlt
  have hS1:∀ (W':World) (p:Addr) (u:Value),(p.block=B+1+1\/p.block=B+1+1+1+1)->(W'.cell? ⟨B+1+1+1,0,none⟩=some (.slice (some ⟨B+1+1,0,none⟩) m m)/\W'.cell? ⟨B,0,none⟩=some (.slice (some ⟨b0,o0,none⟩) m c0)/\W'.cell? ⟨B+1,0,none⟩=some (.int .u32 by_)/\W'.cell? ⟨b0,o0+i,none⟩=some (.int .u32 x0)) ->
    ((W'.setCell p u).cell? ⟨B+1+1+1,0,none⟩=some (.slice (some ⟨B+1+1,0,none⟩) m m)/\(W'.setCell p u).cell? ⟨B,0,none⟩=some (.slice (some ⟨b0,o0,none⟩) m c0)/\(W'.setCell p u).cell? ⟨B+1,0,none⟩=some (.int .u32 by_)/\(W'.setCell p u).cell? ⟨b0,o0+i,none⟩=some (.int .u32 x0)):=fun W' p u hp hs =>
   ⟨(World.cell?_of_block (Below.heap_setCell W' p u (B+1+1+1) (by omega))).trans hs.1,(World.cell?_of_block (Below.heap_setCell W' p u B (by omega))).trans hs.2.1,(World.cell?_of_block (Below.heap_setCell W' p u (B+1) (by omega))).trans hs.2.2.1,(World.cell?_of_block (Below.heap_setCell W' p u b0 (by omega))).trans hs.2.2.2⟩
  refine wpIn_region_any (by kernel_rfl) (Zed (by kernel_rfl) (fun h=>by obtain ⟨_,_,h⟩:=h;exact h) _ _ _ _ (wpAny_of_held (S:=fun W':World=>W'.cell? ⟨B+1+1+1,0,none⟩=some (.slice (some ⟨B+1+1,0,none⟩) m m)/\W'.cell? ⟨B,0,none⟩=some (.slice (some ⟨b0,o0,none⟩) m c0)/\W'.cell? ⟨B+1,0,none⟩=some (.int .u32 by_)/\W'.cell? ⟨b0,o0+i,none⟩=some (.int .u32 x0)) _ _ _ _ ?_))
  refine wpAnyH_take (i:=0) rfl (by kernel_rfl) (by kernel_rfl) (by kernel_rfl) (fun _ _ _ h=>h) (v:=.slice (some ⟨B+1+1,0,none⟩) m m) (.inl ⟨by kernel_rfl,fun w hw=>?_⟩) (hS0 _ rfl) ?_
  ·obtain ⟨h1,h2,h3,h4⟩:=hw
   simp [execOp,Act.eval,go_sem,h1]
  refine wpAnyH_take (i:=1) rfl (by kernel_rfl) (by kernel_rfl) (by kernel_rfl) (fun _ _ _ h=>h) (.inl ⟨rfl,fun w hw=>rfl⟩) (hS0 _ rfl) ?_
  refine wpAnyH_take (i:=3) rfl (by kernel_rfl) (by kernel_rfl) (by kernel_rfl) (fun _ _ _ h=>h) (v:=.slice (some ⟨b0,o0,none⟩) m c0) (.inl ⟨by kernel_rfl,fun w hw=>?_⟩) (hS0 _ rfl) ?_
  ·obtain ⟨h1,h2,h3,h4⟩:=hw
   simp [execOp,Act.eval,go_sem,h2]
  refine wpAnyH_take (i:=4) rfl (by kernel_rfl) (by kernel_rfl) (by kernel_rfl) (fun _ _ _ h=>h) (.inl ⟨rfl,fun w hw=>rfl⟩) (hS0 _ rfl) ?_
  refine wpAnyH_take (i:=5) rfl (by kernel_rfl) (by kernel_rfl) (by kernel_rfl) (fun _ _ _ h=>h) (v:=.pointer (some ⟨b0,o0+i,none⟩)) (.inl ⟨by kernel_rfl,fun w hw=>?_⟩) (hS0 _ rfl) ?_
  ·simp [execOp,Act.eval,go_sem,hi0,hi1]
  refine wpAnyH_take (i:=6) rfl (by kernel_rfl) (by kernel_rfl) (by kernel_rfl) (fun _ _ _ h=>h) (v:=.int .u32 x0) (.inl ⟨by kernel_rfl,fun w hw=>?_⟩) (hS0 _ rfl) ?_
  ·obtain ⟨h1,h2,h3,h4⟩:=hw
   simp [execOp,Act.eval,go_sem,h4]
  refine wpAnyH_take (i:=7) rfl (by kernel_rfl) (by kernel_rfl) (by kernel_rfl) (fun _ _ _ h=>h) (v:=.int .u32 by_) (.inl ⟨by kernel_rfl,fun w hw=>?_⟩) (hS0 _ rfl) ?_
  ·obtain ⟨h1,h2,h3,h4⟩:=hw
   simp [execOp,Act.eval,go_sem,h3]
  have hrc':W.drew.cell? ⟨B+1+1+1+1,0,none⟩=some (.int .u32 rest):=hrc
  refine Zow (i:=2) (by kernel_rfl) rfl (by kernel_rfl) (v:=.int .u32 rest) (w':=W.drew) ?_ (hS0 _ rfl) ?_
  ·simp [execOp,Act.eval,go_sem,hrc']
  have e169:=enters_of Tryz.func169 (by kernel_rfl) rfl
  refine Zgf (i:=8) (by kernel_rfl) rfl (by kernel_rfl) (f:=169) (args:=#[.int .u32 rest,.int .u32 x0,.int .u32 by_]) ?_ (cD _) ?_
  ·simp [execOp,Act.eval,go_sem,e169]
  rintro e w' ⟨rfl,nq,rfl⟩
  refine ⟨_,rfl,hS0 _ rfl,?_⟩
  simp only [Act.put,List.setIfInBounds_toArray,List.set_cons_zero,List.set_cons_succ]
  refine wpAnyH_take (i:=9) rfl (by kernel_rfl) (by kernel_rfl) (by kernel_rfl) (fun _ _ _ h=>h) (.inl ⟨rfl,fun w hw=>rfl⟩) (hS0 _ rfl) ?_
  refine wpAnyH_take (i:=10) rfl (by kernel_rfl) (by kernel_rfl) (by kernel_rfl) (fun _ _ _ h=>h) (v:=.int .u32 q) (.inl ⟨by kernel_rfl,fun w hw=>?_⟩) (hS0 _ rfl) ?_
  ·simp [execOp,Act.eval,go_sem]
  refine wpAnyH_take (i:=11) rfl (by kernel_rfl) (by kernel_rfl) (by kernel_rfl) (fun _ _ _ h=>h) (v:=.int .u32 z) (.inl ⟨by kernel_rfl,fun w hw=>?_⟩) (hS0 _ rfl) ?_
  ·simp [execOp,Act.eval,go_sem]
  refine wpAnyH_take (i:=12) rfl (by kernel_rfl) (by kernel_rfl) (by kernel_rfl) (fun _ _ _ h=>h) (v:=.pointer (some ⟨B+1+1,i,none⟩)) (.inl ⟨by kernel_rfl,fun w hw=>?_⟩) (hS0 _ rfl) ?_
  ·simp [execOp,Act.eval,go_sem,hi0,hi1]
  obtain ⟨W1,hW1⟩:∃ W1,W.drew.drewN nq=W1:=⟨_,rfl⟩
  rw [hW1]
  have hS2:=hS0 W1 (by rw [<- hW1];rfl)
  have hcc':W1.cell? ⟨B+1+1,i,none⟩=some (.int .u32 (rd xs i)):=hW1 ▸ hcc
  have hcf':W1.frozen? ⟨B+1+1,i,none⟩=false:=hW1 ▸ hcf
  refine Zma (i:=13) (by kernel_rfl) rfl (by kernel_rfl) (w':=W1.setCell ⟨B+1+1,i,none⟩ (.int .u32 q)) ?_ (hS1 _ _ _ (.inl rfl) hS2) ?_
  ·simp [execOp,Act.eval,go_sem,hcc',hcf']
  have hne:(W1.setCell ⟨B+1+1,i,none⟩ (.int .u32 q)).heap[B+1+1+1+1]? = W1.heap[B+1+1+1+1]?:=Below.heap_setCell _ ⟨B+1+1,i,none⟩ _ _ (by show B+1+1+1+1 ≠ B+1+1;omega)
  have hrc1:W1.cell? ⟨B+1+1+1+1,0,none⟩=some (.int .u32 rest):=hW1 ▸ hrc
  have hrf1:W1.frozen? ⟨B+1+1+1+1,0,none⟩=false:=hW1 ▸ hrf
  have hrc2:(W1.setCell ⟨B+1+1,i,none⟩ (.int .u32 q)).cell? ⟨B+1+1+1+1,0,none⟩=some (.int .u32 rest):=(World.cell?_of_block (a:=⟨B+1+1+1+1,0,none⟩) hne).trans hrc1
  have hrf2:(W1.setCell ⟨B+1+1,i,none⟩ (.int .u32 q)).frozen? ⟨B+1+1+1+1,0,none⟩=false:=by
   rw [<- hrf1]
   simp only [World.frozen?,hne]
  have hS3:=hS1 _ ⟨B+1+1,i,none⟩ (.int .u32 q) (.inl rfl) hS2
  obtain ⟨W2,hW2⟩:∃ W2,W1.setCell ⟨B+1+1,i,none⟩ (.int .u32 q)=W2:=⟨_,rfl⟩
  rw [hW2] at hrc2 hrf2 hS3 ⊢
  refine Zma (i:=14) (by kernel_rfl) rfl (by kernel_rfl) (w':=W2.setCell ⟨B+1+1+1+1,0,none⟩ (.int .u32 z)) ?_ (hS1 _ _ _ (.inr rfl) hS3) ?_
  ·simp [execOp,Act.eval,go_sem,hrc2,hrf2]
  refine wpAnyH_done (by kernel_rfl) ?_ _
  have hWW:W1.heap=W.heap:=by rw [<- hW1];rfl
  have hK1:KeepsOthers W W1:=by rw [<- hW1];exact ⟨Nat.le_refl _,fun k o h _=>h⟩
  have hKp1:KpB (B+1+1+1+1+1) (some ⟨b0,o0,none⟩) m (fun j x=>x=l0.getD j 0) W W1:=by rw [<- hW1];exact ⟨rfl,fun h=>h⟩
  have hb1':Below w.heap.size w W1:=by rw [<- hW1];exact Zay (Zaz HB.out) nq
  have hrow1:W1.ownsRow B 85 1 (.slice (some ⟨B+1+1,0,none⟩) m m) m (nums .u32 xs):=by rw [<- hW1];exact HRow.out
  have far:∀ {k t:Nat} {v:Value},k ≠ B+1+1->k ≠ B+1+1+1+1->Boxed W k t v->Boxed (W2.setCell ⟨B+1+1+1+1,0,none⟩ (.int .u32 z)) k t v:=fun {k t v} h1 h2 hv =>
   (Below.heap_setCell W2 ⟨B+1+1+1+1,0,none⟩ _ k h2).trans (by rw [<- hW2];exact (Below.heap_setCell W1 ⟨B+1+1,i,none⟩ _ k h1).trans (by rw [hWW];exact hv))
  have hst1:=Zey hrow1 (i:Int) q
  rw [Int.toNat_natCast,hW2] at hst1
  refine ⟨?_,?_,?_⟩
  ·rw [<- hW2]
   exact ((hK1.trans (KeepsOthers.setCell W1 ⟨B+1+1,i,none⟩ (.int .u32 q))).trans (KeepsOthers.setCell _ ⟨B+1+1+1+1,0,none⟩ (.int .u32 z))).from _
  ·rw [<- hW2]
   exact hKp1.trans ((KpB.set (p:=⟨B+1+1,i,none⟩) _ (by show B+1+1+1+1+1 ≠ B+1+1;omega) (.inr ⟨b0,o0,rfl,by show b0 ≠ B+1+1;omega⟩)).trans (KpB.set (p:=⟨B+1+1+1+1,0,none⟩) _ (by show B+1+1+1+1+1 ≠ B+1+1+1+1;omega) (.inr ⟨b0,o0,rfl,by show b0 ≠ B+1+1+1+1;omega⟩)))
  ·refine ⟨by rw [hB];exact far (by omega) (by omega) HAb.out,by rw [hB];exact far (by omega) (by omega) HDb.out,by rw [hB];exact far (by omega) (by omega) HOb.out,⟨_,by rw [hB];exact far (by omega) (by omega) HSb.out⟩,⟨xs.set i q,z,by rw [List.length_append];exact HST.out,?_,?_⟩,?_⟩
   ·rw [hB]
    refine Boxed.set (v:=.int .u32 rest) (.int .u32 z) ?_
    show W2.heap[B+1+1+1+1]? = _
    rw [<- hW2,hne,hWW]
    exact HRb.out
   ·rw [hB]
    exact Zhy hst1.1 (by simp [Value.ownBlock];omega) _
   ·rw [<- hW2]
    exact (hb1'.setCell (p:=⟨B+1+1,i,none⟩) (by simp;omega) _).setCell (p:=⟨B+1+1+1+1,0,none⟩) (by simp;omega) _
 case done =>
  rintro D ys W hD ⟨hp,hpl⟩ ⟨a,d,o,_,⟨xs,rest,hst,r,hrow⟩,hb⟩ hK
  rw [hB] at a d o r hrow
  have hlm:=HM.out
  have hlen:xs.length=m:=hst.len.trans hlm
  have hyl:ys.length=l0.length:=by omega
  rw [hyl] at hst
  obtain ⟨hq,hr2⟩:=hst.done hd0
  rw [hr2,HRR.out] at r
  rw [HQL.out] at hq
  have hrow':W.ownsRow w.heap.size 85 1 (.slice (some ⟨B+1+1,0,none⟩) m m) xs.length (encs (Value.int .u32) xs):=by rw [hlen,hB];exact hrow
  have hR:Kd.R (Kd.int .u32) 85 W w.heap.size (fun k=>k=B+1+1) (.slice (some ⟨B+1+1,0,none⟩) m m) xs:=Kd.Zdd (enc:=Value.int .u32) hrow' (fun k hk=>by simp [Value.ownBlock] at hk;exact hk.symm)
  have hDlt:D < W.heap.size:=by
   have := (Array.getElem?_eq_some_iff.1 hK).1
   exact this
  have hD2:B+1+1 < D:=by simp at hD;omega
  have hoc:=o.cell
  have hrc:=r.cell
  have hsz:B+1+1+1+1 < W.heap.size:=World.block_lt_of_cell? W _ hrc
  have cT:=Zv.calls (xs.length+1) (fun k=>k=B+1+1) _ xs (trimL xs) w W.drew (Zaz hb) (Kd.Zem hR) (Zti xs (Nat.lt_succ_self _) (by omega))
  rw [hq] at cT
  have HK:=Lib.hid hK
  have HBb:=Lib.hid hb
  clear hK hb hR hrow' hrow hst hq hr2 a d hp hpl hyl hlm
  gi_wp2
  rename_i K1 hK1
  have e132:=enters_of Tryz.func132 (by kernel_rfl) rfl
  have hS0:∀ W':World,(∀ k,k < W.heap.size->k ≠ B+1+1->W'.heap[k]? = W.heap[k]?)->W'.cell? ⟨B+1+1+1,0,none⟩=some (.slice (some ⟨B+1+1,0,none⟩) m m)/\W'.cell? ⟨B+1+1+1+1,0,none⟩=some (.int .u32 RR):=fun W' hW' =>
   ⟨(World.cell?_of_block (hW' (B+1+1+1) (by omega) (by omega))).trans hoc,(World.cell?_of_block (hW' (B+1+1+1+1) (by omega) (by omega))).trans hrc⟩
  refine Zfy (fun W':World=>W'.cell? ⟨B+1+1+1,0,none⟩=some (.slice (some ⟨B+1+1,0,none⟩) m m)/\W'.cell? ⟨B+1+1+1+1,0,none⟩=some (.int .u32 RR)) (by kernel_rfl) ?_
  refine wpAnyH_take (i:=0) rfl (by kernel_rfl) (by kernel_rfl) (by kernel_rfl) (fun _ _ _ h=>h) (v:=.slice (some ⟨B+1+1,0,none⟩) m m) (.inl ⟨by kernel_rfl,fun w hw=>?_⟩) (hS0 _ (fun _ _ _=>rfl)) ?_
  ·simp [execOp,Act.eval,go_sem,hw.1]
  refine wpAnyH_take (i:=2) rfl (by kernel_rfl) (by kernel_rfl) (by kernel_rfl) (fun _ _ _ h=>h) (v:=.int .u32 RR) (.inl ⟨by kernel_rfl,fun w hw=>?_⟩) (hS0 _ (fun _ _ _=>rfl)) ?_
  ·simp [execOp,Act.eval,go_sem,hw.2]
  refine Zgf (i:=1) (by kernel_rfl) rfl (by kernel_rfl) (f:=132) (args:=#[.slice (some ⟨B+1+1,0,none⟩) m m]) ?_ cT ?_
  ·simp [execOp,Act.eval,go_sem,e132]
  rintro e w' ⟨v0,rfl,hRv,hbv,hkp⟩
  have hS2:=hS0 w' (fun k h1 h2=>hkp.2 k h1 h2)
  refine ⟨_,rfl,hS2,?_⟩
  refine wpAnyH_take (i:=3) rfl (by kernel_rfl) (by kernel_rfl) (by kernel_rfl) (fun _ _ _ h=>h) (v:=v0) (.inl ⟨by kernel_rfl,fun w hw=>?_⟩) hS2 ?_
  ·simp [execOp,Act.eval,go_sem]
  refine wpAnyH_take (i:=4) rfl (by kernel_rfl) (by kernel_rfl) (by kernel_rfl) (fun _ _ _ h=>h) (v:=.int .u32 RR) (.inl ⟨by kernel_rfl,fun w hw=>?_⟩) hS2 ?_
  ·simp [execOp,Act.eval,go_sem]
  refine wpAnyH_done (by kernel_rfl) ?_ _
  refine NoPanic.normal ?_
  refine hK1 _ _ ?_
  show Code.wpIn _ _ _ _ _ { tmps:=#[.slice A0 m c0,.int .u32 by_,.pointer (some ⟨B,0,none⟩),.pointer (some ⟨B+1,0,none⟩),v0,.int .u32 RR,.pointer (some ⟨B+1+1+1,0,none⟩),.pointer (some ⟨B+1+1+1+1,0,none⟩),undef,.slice A0 m c0,
   .int .i64 m,.slice (some ⟨B+1+1,0,none⟩) m m,.slice A0 m c0,.func (.func 184) #[] #[.pointer (some ⟨B+1+1+1+1+1,0,none⟩)],undef,undef,
   undef,undef,undef,undef,undef,undef,undef,undef,undef,undef,undef,undef,undef,.slice (some ⟨B+1+1,0,none⟩) m m,v0,.int .u32 RR],defers:=[{ target:=.collected D,args:=#[] }] } _
  clear hK1
  gi_wp2
  have hDn:∀ k,k < W.heap.size->k ≠ B+1+1->w'.heap[k]? = W.heap[k]?:=fun k h1 h2=>hkp.2 k h1 h2
  have hK':w'.heap[D]? = some (.deferred (some [])):=(hDn D hDlt (by omega)).trans HK.out
  refine ⟨by simp,.inl ⟨_,_,rfl,run_takeDeferred hK',?_⟩⟩
  refine ⟨_,by simp [results,Tryz.f143,go_sem],v0,rfl,?_,?_⟩
  ·refine Kd.Zi (Kd.Zkp hRv (grownBy_putObj' _ D (.deferred none)) (fun k hk e=>?_)) (fun _ _=>trivial)
   cases e
   rcases hk with h|h
   ·omega
   ·exact absurd hDlt (by simp at h;omega)
  ·exact hbv.trans (belowK_b (w:=w) (Nat.le_refl _) _ D _ _ (by omega) hK' rfl rfl)
 case stop =>
  rintro D c pre W hD hpre h hK
  exact h.elim
def Zcu.f (l0:List Int) (a1:Int):Option (List Int × Int):=if okW l0 && (decide (0 < a1) && decide (a1 < 4294967296)) then some (limbs (num l0 / a1.toNat),((num l0 % a1.toNat:Nat):Int)) else none
theorem Zcu.calls (A0:Option Addr) (c0:Nat) (l0:List Int) (a1:Int) (r1:List Int) (r2:Int) (w:World) (hr0:Kd.C (Kd.int .u32) w A0 l0.length l0) (hc0:l0.length<=c0) (h:Zcu.f l0 a1=some (r1,r2)) :
  Calls Tryz.prog 143 #[.slice A0 l0.length c0,.int .u32 a1] w fun e w' => ∃ v0_:Value,e=.returned (.tuple #[v0_,.int .u32 r2])/\Kd.R (Kd.int .u32) 85 w' w.heap.size (fun _=>True) v0_ r1/\Below w.heap.size w w':=by
 unfold Zcu.f at h
 split at h
 case isFalse=>cases h
 case isTrue hk =>
 simp only [Bool.and_eq_true,Zd9,decide_eq_true_eq] at hk
 obtain ⟨rfl,rfl⟩:=Prod.mk.inj (Option.some.inj h)
 exact Zor A0 c0 l0 a1 w hr0 hc0 hk.1.dg hk.1.len hk.2.1 hk.2.2
end YtjbjkmccfocikaaGreatDoor.B
end
section
namespace YtjbjkmccfocikaaGreatDoor.B
open Go.RowKit YtjbjkmccfocikaaGreatDoorW.PrintWords YtjbjkmccfocikaaGreatDoorW.PrintLast YtjbjkmccfocikaaGreatDoorW.PrintMore
attribute [local go_sem] Zb5 Zb7 Zcs Zct Zbn Zbo Zb6 Zb8
mutual
def Zat.l0:Nat->List Int->List Int->Option (ByteArray × Int)
 | 0,_,_=>none
 | k+1,x5,x6=>if (x6.length:Int) > 0 then ((Zcu.f x6 1000000000).bind fun bt163=>(Zat.l1 k x5 bt163.1 bt163.2 0)) else (if (x5.length:Int)=0 then (some ((⟨#[48]⟩:ByteArray),0)) else ((Zk.f k x5).bind fun t162=>(some (strOfNums t162,0))))
def Zat.l1:Nat->List Int->List Int->Int->Int->Option (ByteArray × Int)
 | 0,_,_,_,_=>none
 | k+1,x5,x7,x8,x9=>if x9 < 9 then (if (x7.length:Int) > 0 then (if x5.length < 140737488355328 then (Zat.l1 k (x5 ++ [(48+(Int.tmod x8 10)) % 256]) x7 ((Int.tdiv x8 10) % 4294967296) (wrap64 (x9+1))) else (none)) else (if x8 > 0 then (if x5.length < 140737488355328 then (Zat.l1 k (x5 ++ [(48+(Int.tmod x8 10)) % 256]) x7 ((Int.tdiv x8 10) % 4294967296) (wrap64 (x9+1))) else (none)) else (Zat.l0 k x5 x7))) else (Zat.l0 k x5 x7)
end
def Zat.f (k:Nat) (l0:List Int):Option (ByteArray × Int):=(Za0.f l0).bind fun t161=>(if t161=0 then (Zat.l0 k ([]:List Int) l0) else (some ((⟨#[]⟩:ByteArray),t161)))
theorem Zat.calls (k:Nat) (P0_:Nat->Prop) (A0:Option Addr) (c0:Nat) (l0:List Int) (r1:ByteArray) (r2:Int) (w:World) (hs0:Kd.V (Kd.int .u32) 85 w w.heap.size (fun k_=>P0_ k_) (.slice A0 l0.length c0) l0) (h:Zat.f k l0=some (r1,r2)) :
  Calls Tryz.prog 112 #[.slice A0 l0.length c0] w fun e w'=>e=.returned (.tuple #[.string r1,.int .i64 r2])/\Below w.heap.size w w':=by
 have HO0:=am (show Kd.V (Kd.int .u32) 85 w w.heap.size (fun k_=>(P0_ k_\/w.heap.size<=k_)) (.slice A0 l0.length c0) l0 from Kd.Zdj hs0 (fun k_ hk=>.inl hk))
 have HB:=am (Below.refl w.heap.size w)
 have H:((Za0.f l0).bind fun t161=>(if t161=0 then (Zat.l0 k ([]:List Int) l0) else (some ((⟨#[]⟩:ByteArray),t161))))=some (r1,r2):=h
 clear h
 obtain ⟨t161,A2,H⟩:=ob H
 by_cases c3:t161=0
 ·rw [if_pos c3] at H
  have c3b0:(t161 == 0)=true:=beq_iff_eq.mpr c3
  have c3b1:(t161 != 0)=false:=bne_eq_false_iff_eq.mpr c3
  clear c3
  have H':=am H
  clear H
  go_enter Tryz.func112,Tryz.ntmps112
  go_wp2_with (first|(refine gL (some 11) Tryz.func108 #[.slice A0 l0.length c0] (h:=?_);(with_reducible refine (Za0.calls _ _ l0 t161 _ ?side1 ?side2 A2.o).mono ?_);(case side1=>exact Kd.Zx (Kd.Zck HO0.o).2.2 pl);(case side2=>exact (Kd.Zck HO0.o).2.1);rintro e w' ⟨rfl,⟨nd,rfl⟩⟩;refine ⟨_,rfl,?_⟩))
  go_loopg [5,6] k (fun kq v5 v6 w' => ∃ (x5_1:List Int) (x6_1:List Int),Aside0 (Zat.l0 kq x5_1 x6_1=some (r1,r2))/\Aside0 (kq<=k)/\Aside0 (Kd.R (Kd.int .u8) 5 w' w.heap.size (fun k_=>(w.heap.size<=k_)) v5 x5_1)/\Aside0 (Kd.V (Kd.int .u32) 85 w' w.heap.size (fun k_=>(P0_ k_\/w.heap.size<=k_)/\some k_ ≠ (v5:Value).ownBlock) v6 x6_1)/\Aside0 (Below w.heap.size w w'))
  case atStart=>exact ⟨(([]:List Int)),(l0),H',⟨Nat.le_refl _⟩,⟨pN⟩,⟨by refine vp ?_;exact Kd.Zdj HO0.o (fun _ hk=>⟨hk,(by simp [Value.ownBlock])⟩)⟩,⟨pB⟩⟩
  case round =>
   clear H'
   obtain ⟨x5_1,x6_1,HA,HK1,HO_5,HO_6,HB⟩:=hrel
   cases gk with
   | zero=>exact absurd HA.out (by simp [Zat.l0])
   | succ k1 =>
    have H:=HA.out
    clear HA
    simp only [Zat.l0] at H
    by_cases c4:(x6_1.length:Int) > 0
    ·rw [if_pos c4] at H
     have c4b0:decide (0 < (x6_1.length:Int))=true:=decide_eq_true c4
     have c4b1:decide (0 < x6_1.length)=true:=decide_eq_true (by omega)
     clear c4
     obtain ⟨⟨t163,t164⟩,A5,H⟩:=ob H;(try dsimp only at H)
     have H':=am H
     clear H
     obtain ⟨Ao6,co6,eo6⟩:=Kd.Zhm HO_6.o
     subst eo6
     go_wp2_with (first|(refine gL (some 21) Tryz.func143 #[.slice Ao6 x6_1.length co6,.int .u32 1000000000] (h:=?_);(with_reducible refine (Zcu.calls _ _ x6_1 1000000000 t163 t164 _ ?side1 ?side2 A5.o).mono ?_);(case side1=>exact Kd.Zx (Kd.Zck HO_6.o).2.2 pl);(case side2=>exact (Kd.Zck HO_6.o).2.1);rintro e w7 ⟨v165,rfl,ho0,hb⟩;refine ⟨_,rfl,?_⟩;replace HO_5:=rbl HO_5 hb;replace HO_6:=am (Kd.Zc8 (Kd.Zcr HO_6.o pl) (Kd.Zap ho0) hb);have HO166:=am (Kd.Zq (Kd.Zet (M:=fun k_=>(w.heap.size<=k_)) ho0 (Zb pB) (fun k_ h_=>h_)) (Zb pB));replace HB:=bS hb))
     go_loopg [5,8,9] k1 (fun kq v5 v8 v9 w' => ∃ (x5_2:List Int) (x8_2:Int) (x9_2:Int),v8=.int .u32 x8_2/\v9=.int .i64 x9_2/\Aside0 (Zat.l1 kq x5_2 t163 x8_2 x9_2=some (r1,r2))/\Aside0 (kq<=k1)/\Aside0 (Kd.R (Kd.int .u8) 5 w' w.heap.size (fun k_=>(w.heap.size<=k_)) v5 x5_2)/\Aside0 (Kd.R (Kd.int .u32) 85 w' w.heap.size (fun k_=>(w.heap.size<=k_)) v165 t163)/\Aside0 (Below w.heap.size w w'))
     case atStart=>exact ⟨(x5_1),(t164),(0),pR,pR,H',⟨Nat.le_refl _⟩,⟨by refine rp ?_;exact HO_5.o⟩,⟨by refine rp ?_;exact Kd.Zi HO166.o (fun _ hk=>hk.1)⟩,⟨pB⟩⟩
     case round =>
      clear H'
      obtain ⟨x5_2,x8_2,x9_2,rfl,rfl,HA,HK2,HO_5,HO_7,HB⟩:=hrel
      cases gk with
      | zero=>exact absurd HA.out (by simp [Zat.l1])
      | succ k2 =>
       have H:=HA.out
       clear HA
       simp only [Zat.l1] at H
       by_cases c8:x9_2 < 9
       ·rw [if_pos c8] at H
        have c8b0:decide (x9_2 < 9)=true:=decide_eq_true c8
        clear c8
        by_cases c9:(t163.length:Int) > 0
        ·rw [if_pos c9] at H
         have c9b0:decide (0 < (t163.length:Int))=true:=decide_eq_true c9
         have c9b1:decide (0 < t163.length)=true:=decide_eq_true (by omega)
         clear c9
         by_cases c10:x5_2.length < 140737488355328
         ·rw [if_pos c10] at H
          have LMc10:=am c10
          clear c10
          obtain ⟨y167,hy167⟩:∃ y_:List Int,y_=(x5_2 ++ [(48+(Int.tmod x8_2 10)) % 256]):=⟨_,rfl⟩
          replace H:(Zat.l1 k2 y167 t163 ((Int.tdiv x8_2 10) % 4294967296) (wrap64 (x9_2+1)))=some (r1,r2):=by have hy_:=hy167;exact pH
          have Ny167:=am hy167
          clear hy167
          have H':=am H
          clear H
          obtain ⟨Ao11,co11,eo11⟩:=Kd.Zj HO_7.o
          subst eo11
          go_wp2_with (first|((with_reducible refine Zan (b:=.append) (xs:=#[.tmp 37,.tmp 42]) rfl ?_);(try (refine Zao (by rfl) ?_;dsimp only));at_builtin;refine Kd.Zbz (Kd.int .u8) (w0:=w) w.heap.size rfl (.tmp 37) (.tmp 42) 146 5 (.int .u8 0) 1 rfl Tryz.underlying146 info5 rfl (by decide) (by omega) u5 x5_2 ((48+(Int.tmod x8_2 10)) % 256) [.int .u8 ((48+(Int.tmod x8_2 10)) % 256)] (fun k_=>(w.heap.size<=k_)) (fun _=>False) rfl rfl ?aP (fun _ hk=>hk.elim) ?aF ?aO ?aB ?aS ?aL ?_;(case aP=>exact rfl);(case aB=>exact pB);(case aF=>exact (fun k_ hk=>(Nat.le_trans (Zb pB) hk)));(case aO=>exact (Kd.Za HO_5.o pl));(case aS=>exact (Zb pB));(case aL=>have := LMc10.o;omega);intro v168 w12 ho hb hg hat;rw [<- Ny167.out] at ho;have HO169:=am ho;replace HO_7:=am (Kd.Zit (Kd.Za HO_7.o pl) (Kd.Zd8 (Kd.Za HO_5.o pl)) (by decide) hg);replace HB:=am hb;clear HO_5 ho hb hg hat))
          go_roundg k2
          case measure=>have := HK1.out;have := HK2.out;omega
          case rel=>exact ⟨(y167),((Int.tdiv x8_2 10) % 4294967296),(wrap64 (x9_2+1)),pR,pR,H',⟨by have := HK1.out;have := HK2.out;omega⟩,⟨by refine rp ?_;exact HO169.o⟩,⟨by refine rp ?_;exact HO_7.o⟩,⟨pB⟩⟩
         ·rw [if_neg c10] at H
          exact absurd H (by simp)
        ·rw [if_neg c9] at H
         have c9b0:decide (0 < (t163.length:Int))=false:=decide_eq_false c9
         have c9b1:decide (0 < t163.length)=false:=decide_eq_false (by omega)
         clear c9
         by_cases c13:x8_2 > 0
         ·rw [if_pos c13] at H
          have c13b0:decide (0 < x8_2)=true:=decide_eq_true c13
          clear c13
          by_cases c14:x5_2.length < 140737488355328
          ·rw [if_pos c14] at H
           have LMc14:=am c14
           clear c14
           obtain ⟨y170,hy170⟩:∃ y_:List Int,y_=(x5_2 ++ [(48+(Int.tmod x8_2 10)) % 256]):=⟨_,rfl⟩
           replace H:(Zat.l1 k2 y170 t163 ((Int.tdiv x8_2 10) % 4294967296) (wrap64 (x9_2+1)))=some (r1,r2):=by have hy_:=hy170;exact pH
           have Ny170:=am hy170
           clear hy170
           have H':=am H
           clear H
           obtain ⟨Ao15,co15,eo15⟩:=Kd.Zj HO_7.o
           subst eo15
           go_wp2_with (first|((with_reducible refine Zan (b:=.append) (xs:=#[.tmp 37,.tmp 42]) rfl ?_);(try (refine Zao (by rfl) ?_;dsimp only));at_builtin;refine Kd.Zbz (Kd.int .u8) (w0:=w) w.heap.size rfl (.tmp 37) (.tmp 42) 146 5 (.int .u8 0) 1 rfl Tryz.underlying146 info5 rfl (by decide) (by omega) u5 x5_2 ((48+(Int.tmod x8_2 10)) % 256) [.int .u8 ((48+(Int.tmod x8_2 10)) % 256)] (fun k_=>(w.heap.size<=k_)) (fun _=>False) rfl rfl ?aP (fun _ hk=>hk.elim) ?aF ?aO ?aB ?aS ?aL ?_;(case aP=>exact rfl);(case aB=>exact pB);(case aF=>exact (fun k_ hk=>(Nat.le_trans (Zb pB) hk)));(case aO=>exact (Kd.Za HO_5.o pl));(case aS=>exact (Zb pB));(case aL=>have := LMc14.o;omega);intro v171 w16 ho hb hg hat;rw [<- Ny170.out] at ho;have HO172:=am ho;replace HO_7:=am (Kd.Zit (Kd.Za HO_7.o pl) (Kd.Zd8 (Kd.Za HO_5.o pl)) (by decide) hg);replace HB:=am hb;clear HO_5 ho hb hg hat))
           go_roundg k2
           case measure=>have := HK1.out;have := HK2.out;omega
           case rel=>exact ⟨(y170),((Int.tdiv x8_2 10) % 4294967296),(wrap64 (x9_2+1)),pR,pR,H',⟨by have := HK1.out;have := HK2.out;omega⟩,⟨by refine rp ?_;exact HO172.o⟩,⟨by refine rp ?_;exact HO_7.o⟩,⟨pB⟩⟩
          ·rw [if_neg c14] at H
           exact absurd H (by simp)
         ·rw [if_neg c13] at H
          have c13b0:decide (0 < x8_2)=false:=decide_eq_false c13
          clear c13
          have H':=am H
          clear H
          obtain ⟨Ao17,co17,eo17⟩:=Kd.Zj HO_7.o
          subst eo17
          go_wp2
          go_roundg k2
          case measure=>have := HK1.out;have := HK2.out;omega
          case rel=>exact ⟨(x5_2),(t163),H',⟨by have := HK1.out;have := HK2.out;omega⟩,⟨by refine rp ?_;exact HO_5.o⟩,⟨Kd.Zdj (Kd.R_V (Kd.Za (Kd.Zel HO_7.o (Kd.Zd8 HO_5.o) (by decide)) pl)) (fun k_ hk=>by first|exact ⟨(.inr (hk.1)),hk.2⟩|exact (.inr (hk)))⟩,⟨pB⟩⟩
       ·rw [if_neg c8] at H
        have c8b0:decide (x9_2 < 9)=false:=decide_eq_false c8
        clear c8
        have H':=am H
        clear H
        go_wp2
        go_roundg k2
        case measure=>have := HK1.out;have := HK2.out;omega
        case rel=>exact ⟨(x5_2),(t163),H',⟨by have := HK1.out;have := HK2.out;omega⟩,⟨by refine rp ?_;exact HO_5.o⟩,⟨Kd.Zdj (Kd.R_V (Kd.Za (Kd.Zel HO_7.o (Kd.Zd8 HO_5.o) (by decide)) pl)) (fun k_ hk=>by first|exact ⟨(.inr (hk.1)),hk.2⟩|exact (.inr (hk)))⟩,⟨pB⟩⟩
    ·rw [if_neg c4] at H
     have c4b0:decide (0 < (x6_1.length:Int))=false:=decide_eq_false c4
     have c4b1:decide (0 < x6_1.length)=false:=decide_eq_false (by omega)
     clear c4
     by_cases c18:(x5_1.length:Int)=0
     ·rw [if_pos c18] at H
      have c18b0:((x5_1.length:Int) == 0)=true:=beq_iff_eq.mpr c18
      have c18b1:((x5_1.length:Int) != 0)=false:=bne_eq_false_iff_eq.mpr c18
      clear c18
      simp only [Option.some.injEq,Prod.mk.injEq] at H
      obtain ⟨rfl,rfl⟩:=H
      obtain ⟨Ao19,co19,eo19⟩:=Kd.Zhm HO_6.o
      subst eo19
      obtain ⟨Ao20,co20,eo20⟩:=Kd.Zj HO_5.o
      subst eo20
      go_wp2
      go_ret2
      exact ⟨pE,pB⟩
     ·rw [if_neg c18] at H
      have c18b0:((x5_1.length:Int) == 0)=false:=beq_eq_false_iff_ne.mpr c18
      have c18b1:((x5_1.length:Int) != 0)=true:=bne_iff_ne.mpr c18
      have c18b2:¬ (x5_1=[]):=fun h_=>c18 (by rw [h_];rfl)
      obtain ⟨t162,A21,H⟩:=ob H
      simp only [Option.some.injEq,Prod.mk.injEq] at H
      obtain ⟨rfl,rfl⟩:=H
      obtain ⟨Ao22,co22,eo22⟩:=Kd.Zhm HO_6.o
      subst eo22
      obtain ⟨Ao23,co23,eo23⟩:=Kd.Zj HO_5.o
      subst eo23
      go_wp2_with (first|(refine gL (some 51) Tryz.func144 #[.slice Ao23 x5_1.length co23] (h:=?_);(with_reducible refine (Zk.calls k1 (fun k_=>some k_=(.slice Ao23 x5_1.length co23:Value).ownBlock) (.slice Ao23 x5_1.length co23) x5_1 t162 w _ ?side1 ?side2 A21.o).mono ?_);(case side1=>exact pB);(case side2=>exact Kd.Zbl rfl HO_5.o);rintro e w24 ⟨rfl,hy0,hb,hkp⟩;refine ⟨_,rfl,?_⟩;replace HO_5:=am (Kd.Zsx rfl hy0 (fun k_ e_=>HO_5.o.1 k_ e_));replace HO_6:=am (Kd.Zdj (ok':=fun k_=>(P0_ k_\/w.heap.size<=k_)/\some k_ ≠ (.slice Ao23 x5_1.length co23:Value).ownBlock) (Kd.Zhl (HO_6.o) hkp (fun k_ hk_ hs_=>(hk_.2) hs_)) (fun k_ hk_=>⟨hk_.1.1,hk_.1.2⟩));replace HB:=am hb;have hcv25:=Zgy (P:=Tryz.prog) Tryz.underlying146 Tryz.underlying5 Tryz.underlying9 (Kd.Zdq HO_5.o)))
      go_ret2
      exact ⟨pE,pB⟩
 ·rw [if_neg c3] at H
  have c3b0:(t161 == 0)=false:=beq_eq_false_iff_ne.mpr c3
  have c3b1:(t161 != 0)=true:=bne_iff_ne.mpr c3
  simp only [Option.some.injEq,Prod.mk.injEq] at H
  obtain ⟨rfl,rfl⟩:=H
  go_enter Tryz.func112,Tryz.ntmps112
  go_wp2_with (first|(refine gL (some 11) Tryz.func108 #[.slice A0 l0.length c0] (h:=?_);(with_reducible refine (Za0.calls _ _ l0 t161 _ ?side1 ?side2 A2.o).mono ?_);(case side1=>exact Kd.Zx (Kd.Zck HO0.o).2.2 pl);(case side2=>exact (Kd.Zck HO0.o).2.1);rintro e w' ⟨rfl,⟨nd,rfl⟩⟩;refine ⟨_,rfl,?_⟩))
  go_ret2
  exact ⟨pE,pB⟩
def Zd3.f (l0:List Int):Option (List Int × Int):=if (l0.length:Int) > 256 then (some (([]:List Int),51)) else (some (l0,0))
theorem Zd3.calls (P0_:Nat->Prop) (u9000_:Value) (l0:List Int) (r1:List Int) (r2:Int) (w0 w:World) (hB:Below w0.heap.size w0 w) (ho0:Kd.R (Kd.int .u32) 85 w w0.heap.size P0_ u9000_ l0) (h:Zd3.f l0=some (r1,r2)) :
  Calls Tryz.prog 128 #[u9000_] w fun e w' => ∃ v0_:Value,e=.returned (.tuple #[v0_,.int .i64 r2])/\Kd.R (Kd.int .u32) 85 w' w0.heap.size (fun k_=>(P0_ k_\/w.heap.size<=k_)) v0_ r1/\Below w0.heap.size w0 w'/\Kept w w' (fun k_=>P0_ k_):=by
 have HO0:=am (show Kd.R (Kd.int .u32) 85 w w0.heap.size (fun k_=>(P0_ k_\/w.heap.size<=k_)) u9000_ l0 from Kd.Zi ho0 (fun k_ hk=>(.inl hk)))
 have HK:=am (Kept.refl w (fun k_=>P0_ k_))
 have HW0:=am hB.size
 have HB:=am hB
 clear hB
 have H:(if (l0.length:Int) > 256 then (some (([]:List Int),51)) else (some (l0,0)))=some (r1,r2):=h
 clear h
 by_cases c2:(l0.length:Int) > 256
 ·rw [if_pos c2] at H
  have c2b0:decide (256 < (l0.length:Int))=true:=decide_eq_true c2
  have c2b1:decide (256 < l0.length)=true:=decide_eq_true (by omega)
  clear c2
  simp only [Option.some.injEq,Prod.mk.injEq] at H
  obtain ⟨rfl,rfl⟩:=H
  obtain ⟨Ao3,co3,eo3⟩:=Kd.Zj HO0.o
  subst eo3
  go_enter Tryz.func128,Tryz.ntmps128
  go_wp2
  go_ret2
  exact ⟨_,pE,pN,pB,by repeat (first|(with_reducible first|exact HK.out|apply Kept.alloc|apply Kept.drewN|apply Kept.drew)|exact HK.out)⟩
 ·rw [if_neg c2] at H
  have c2b0:decide (256 < (l0.length:Int))=false:=decide_eq_false c2
  have c2b1:decide (256 < l0.length)=false:=decide_eq_false (by omega)
  clear c2
  simp only [Option.some.injEq,Prod.mk.injEq] at H
  obtain ⟨rfl,rfl⟩:=H
  obtain ⟨Ao4,co4,eo4⟩:=Kd.Zj HO0.o
  subst eo4
  go_enter Tryz.func128,Tryz.ntmps128
  go_wp2
  go_ret2
  exact ⟨_,pE,by refine rp ?_;exact HO0.o,pB,by repeat (first|(with_reducible first|exact HK.out|apply Kept.alloc|apply Kept.drewN|apply Kept.drew)|exact HK.out)⟩
def Zdn.f (k:Nat) (l0:List Int) (l1:List Int):Option (List Int × Int):=(Zdh.f k l0 l1).bind fun t301=>(if t301=0 then ((Zae.f k l0 l1).bind fun t302=>((Zd3.f t302).bind fun bt305=>(some (bt305.1,bt305.2)))) else (some (([]:List Int),t301)))
theorem Zdn.calls (k:Nat) (A0:Option Addr) (c0:Nat) (l0:List Int) (A1:Option Addr) (c1:Nat) (l1:List Int) (r1:List Int) (r2:Int) (w:World) (hr0:Kd.C (Kd.int .u32) w A0 l0.length l0) (hc0:l0.length<=c0) (hr1:Kd.C (Kd.int .u32) w A1 l1.length l1) (hc1:l1.length<=c1) (h:Zdn.f k l0 l1=some (r1,r2)) :
  Calls Tryz.prog 71 #[.slice A0 l0.length c0,.slice A1 l1.length c1] w fun e w' => ∃ v0_:Value,e=.returned (.tuple #[v0_,.int .i64 r2])/\Kd.R (Kd.int .u32) 85 w' w.heap.size (fun _=>True) v0_ r1/\Below w.heap.size w w':=by
 have HR0:=am hr0
 have HC0:=am hc0
 clear hr0 hc0
 have HR1:=am hr1
 have HC1:=am hc1
 clear hr1 hc1
 have HB:=am (Below.refl w.heap.size w)
 have H:((Zdh.f k l0 l1).bind fun t301=>(if t301=0 then ((Zae.f k l0 l1).bind fun t302=>((Zd3.f t302).bind fun bt305=>(some (bt305.1,bt305.2)))) else (some (([]:List Int),t301))))=some (r1,r2):=h
 clear h
 obtain ⟨t301,A3,H⟩:=ob H
 by_cases c4:t301=0
 ·rw [if_pos c4] at H
  have c4b0:(t301 == 0)=true:=beq_iff_eq.mpr c4
  have c4b1:(t301 != 0)=false:=bne_eq_false_iff_eq.mpr c4
  clear c4
  obtain ⟨t302,A5,H⟩:=ob H
  obtain ⟨⟨t305,t308⟩,A6,H⟩:=ob H;(try dsimp only at H)
  simp only [Option.some.injEq,Prod.mk.injEq] at H
  obtain ⟨rfl,rfl⟩:=H
  go_enter Tryz.func71,Tryz.ntmps71
  go_wp2_with (first|(refine gL (some 9) Tryz.func126 #[.slice A0 l0.length c0,.slice A1 l1.length c1] (h:=?_);(with_reducible refine (Zdh.calls k _ _ l0 _ _ l1 t301 _ ?side1 ?side2 ?side3 ?side4 A3.o).mono ?_);(case side1=>refine cp ?_;exact HR0.o);(case side2=>exact HC0.o);(case side3=>refine cp ?_;exact HR1.o);(case side4=>exact HC1.o);rintro e w7 ⟨rfl,hb⟩;refine ⟨_,rfl,?_⟩;replace HB:=bS hb)|(refine gL (some 15) Tryz.func129 #[.slice A0 l0.length c0,.slice A1 l1.length c1] (h:=?_);(with_reducible refine (Zae.calls k _ _ l0 _ _ l1 t302 _ ?side1 ?side2 ?side3 ?side4 A5.o).mono ?_);(case side1=>exact cB HR0 HB);(case side2=>exact HC0.o);(case side3=>exact cB HR1 HB);(case side4=>exact HC1.o);rintro e w8 ⟨v303,rfl,ho0,hb⟩;refine ⟨_,rfl,?_⟩;have HO304:=am (Kd.Zq ho0 (Zb pB));replace HB:=bS hb;obtain ⟨Ao9,co9,eo9⟩:=Kd.Zj HO304.o;subst eo9)|(refine gL (some 16) Tryz.func128 #[.slice Ao9 t302.length co9] (h:=?_);(with_reducible refine (Zd3.calls (fun k_=>some k_=(.slice Ao9 t302.length co9:Value).ownBlock) (.slice Ao9 t302.length co9) t302 t305 t308 w _ ?side1 ?side2 A6.o).mono ?_);(case side1=>exact pB);(case side2=>exact Kd.Zbl rfl HO304.o);rintro e w10 ⟨v306,rfl,ho0,hb,hkp⟩;refine ⟨_,rfl,?_⟩;have HO307:=am (Kd.Zi (ok':=fun k_=>True) ho0 (fun k_ hk_=>trivial));replace HB:=am hb;clear HO304))
  go_ret2
  exact ⟨_,pE,by refine rp ?_;exact HO307.o,pB⟩
 ·rw [if_neg c4] at H
  have c4b0:(t301 == 0)=false:=beq_eq_false_iff_ne.mpr c4
  have c4b1:(t301 != 0)=true:=bne_iff_ne.mpr c4
  simp only [Option.some.injEq,Prod.mk.injEq] at H
  obtain ⟨rfl,rfl⟩:=H
  go_enter Tryz.func71,Tryz.ntmps71
  go_wp2_with (first|(refine gL (some 9) Tryz.func126 #[.slice A0 l0.length c0,.slice A1 l1.length c1] (h:=?_);(with_reducible refine (Zdh.calls k _ _ l0 _ _ l1 t301 _ ?side1 ?side2 ?side3 ?side4 A3.o).mono ?_);(case side1=>refine cp ?_;exact HR0.o);(case side2=>exact HC0.o);(case side3=>refine cp ?_;exact HR1.o);(case side4=>exact HC1.o);rintro e w11 ⟨rfl,hb⟩;refine ⟨_,rfl,?_⟩;replace HB:=bS hb))
  go_ret2
  exact ⟨_,pE,pN,pB⟩
def Zbu.l0:Nat->Int->List Int->List Int->Option (List Int)
 | 0,_,_,_=>none
 | k+1,x0,x3,x4=>if x0 > 0 then (if (Int.tmod x0 2)=1 then ((Zae.f k x3 x4).bind fun t315=>(if x0 > 1 then ((Zae.f k x4 x4).bind fun t318=>(Zbu.l0 k (wrap64 (Int.tdiv x0 2)) t315 t318)) else (Zbu.l0 k (wrap64 (Int.tdiv x0 2)) t315 x4))) else (if x0 > 1 then ((Zae.f k x4 x4).bind fun t321=>(Zbu.l0 k (wrap64 (Int.tdiv x0 2)) x3 t321)) else (Zbu.l0 k (wrap64 (Int.tdiv x0 2)) x3 x4))) else (some x3)
def Zbu.f (k:Nat) (a0:Int):Option (List Int):=Zbu.l0 k a0 (([1]:List Int)) (([10]:List Int))
theorem Zbu.calls (k:Nat) (a0:Int) (r:List Int) (w:World) (h:Zbu.f k a0=some r) :
  Calls Tryz.prog 163 #[.int .i64 a0] w fun e w' => ∃ v0_:Value,e=.returned (v0_)/\Kd.R (Kd.int .u32) 85 w' w.heap.size (fun _=>True) v0_ r/\Below w.heap.size w w':=by
 have HB:=am (Below.refl w.heap.size w)
 have H:(Zbu.l0 k a0 (([1]:List Int)) (([10]:List Int)))=some r:=h
 clear h
 obtain ⟨y309,hy309⟩:∃ y_:List Int,y_=(([1]:List Int)):=⟨_,rfl⟩
 replace H:(Zbu.l0 k a0 y309 (([10]:List Int)))=some r:=by have hy_:=hy309;exact pH
 have Ny309:=am hy309
 clear hy309
 obtain ⟨y312,hy312⟩:∃ y_:List Int,y_=(([10]:List Int)):=⟨_,rfl⟩
 replace H:(Zbu.l0 k a0 y309 y312)=some r:=by have hy_:=hy312;exact pH
 have Ny312:=am hy312
 clear hy312
 have H':=am H
 clear H
 go_enter Tryz.func163,Tryz.ntmps163
 go_wp2_with (first|((with_reducible refine gd 5 ?_);refine Kd.Zg8 (Kd.int .u32) _ 85 ?hg (N:=5) ?hd (xs:=([1]:List Int)) (inner:=[.int .u32 1]) (ok:=fun _=>True) (okp:=fun _=>True) ?hr ?hp (fun _ hk=>hk) trivial (Below.refl _ _) (Nat.le_refl _) (by simp) ?_;(case hd=>rfl);(case hg=>rfl);(case hr=>first|(go_simp;done)|(go_simp;rfl));(case hp=>exact (Reps.one (show Kd.M (Kd.int .u32) _ _ _ 1 [.int .u32 1] from rfl) (Reps.none _ _)));intro v310 w2 ho3 hb hg_ hnew_;clear hg_ hnew_;(first|rw [<- Ny309.out] at ho3|(simp only [Int.reduceToNat] at ho3;rw [<- Ny309.out] at ho3));have HO311:=am (Kd.Zq ho3 (Zb pB));replace HB:=bS hb;clear hb ho3)|((with_reducible refine gd 6 ?_);refine Kd.Zg8 (Kd.int .u32) _ 85 ?hg (N:=6) ?hd (xs:=([10]:List Int)) (inner:=[.int .u32 10]) (ok:=fun _=>True) (okp:=fun _=>True) ?hr ?hp (fun _ hk=>hk) trivial (Below.refl _ _) (Nat.le_refl _) (by simp) ?_;(case hd=>rfl);(case hg=>rfl);(case hr=>first|(go_simp;done)|(go_simp;rfl));(case hp=>exact (Reps.one (show Kd.M (Kd.int .u32) _ _ _ 10 [.int .u32 10] from rfl) (Reps.none _ _)));intro v313 w4 ho5 hb hg_ hnew_;clear hg_ hnew_;(first|rw [<- Ny312.out] at ho5|(simp only [Int.reduceToNat] at ho5;rw [<- Ny312.out] at ho5));have HO314:=am (Kd.Zq (Kd.Zr ho5 (Kd.R_lt (Kd.Za HO311.o pl))) (Zb pB));replace HO311:=reR HO311 ho5 hb;replace HB:=bS hb;clear hb ho5))
 go_loopg [0,3,4] k (fun kq v0 v3 v4 w' => ∃ (x0_1:Int) (x3_1:List Int) (x4_1:List Int),v0=.int .i64 x0_1/\Aside0 (Zbu.l0 kq x0_1 x3_1 x4_1=some r)/\Aside0 (kq<=k)/\Aside0 (Kd.R (Kd.int .u32) 85 w' w.heap.size (fun k_=>some k_ ≠ (v4:Value).ownBlock) v3 x3_1)/\Aside0 (Kd.R (Kd.int .u32) 85 w' w.heap.size (fun k_=>some k_ ≠ (v3:Value).ownBlock) v4 x4_1)/\Aside0 (Below w.heap.size w w'))
 case atStart=>exact ⟨(a0),(y309),(y312),pR,H',⟨Nat.le_refl _⟩,⟨by refine rp ?_;exact Kd.Zi HO311.o (fun _ hk=>hk.2)⟩,⟨by refine rp ?_;exact Kd.Zi HO314.o (fun _ hk=>hk.2)⟩,⟨pB⟩⟩
 case round =>
  clear H'
  obtain ⟨x0_1,x3_1,x4_1,rfl,HA,HK1,HO_3,HO_4,HB⟩:=hrel
  cases gk with
  | zero=>exact absurd HA.out (by simp [Zbu.l0])
  | succ k1 =>
   have H:=HA.out
   clear HA
   simp only [Zbu.l0] at H
   by_cases c6:x0_1 > 0
   ·rw [if_pos c6] at H
    have c6b0:decide (0 < x0_1)=true:=decide_eq_true c6
    clear c6
    by_cases c7:(Int.tmod x0_1 2)=1
    ·rw [if_pos c7] at H
     have c7b0:((Int.tmod x0_1 2) == 1)=true:=beq_iff_eq.mpr c7
     have c7b1:((Int.tmod x0_1 2) != 1)=false:=bne_eq_false_iff_eq.mpr c7
     clear c7
     obtain ⟨t315,A8,H⟩:=ob H
     by_cases c9:x0_1 > 1
     ·rw [if_pos c9] at H
      have c9b0:decide (1 < x0_1)=true:=decide_eq_true c9
      clear c9
      obtain ⟨t318,A10,H⟩:=ob H
      have H':=am H
      clear H
      obtain ⟨Ao11,co11,eo11⟩:=Kd.Zj HO_3.o
      subst eo11
      obtain ⟨Ao12,co12,eo12⟩:=Kd.Zj HO_4.o
      subst eo12
      go_wp2_with (first|(refine gL (some 16) Tryz.func129 #[.slice Ao11 x3_1.length co11,.slice Ao12 x4_1.length co12] (h:=?_);(with_reducible refine (Zae.calls k1 _ _ x3_1 _ _ x4_1 t315 _ ?side1 ?side2 ?side3 ?side4 A8.o).mono ?_);(case side1=>exact Kd.Zx (Kd.Zd HO_3.o).2.2 pl);(case side2=>exact (Kd.Zd HO_3.o).2.1);(case side3=>exact Kd.Zx (Kd.Zd HO_4.o).2.2 pl);(case side4=>exact (Kd.Zd HO_4.o).2.1);rintro e w13 ⟨v316,rfl,ho0,hb⟩;refine ⟨_,rfl,?_⟩;have HO317:=am (Kd.Zq (Kd.Zr (Kd.Zr ho0 (Kd.R_lt (Kd.Za HO_3.o pl))) (Kd.R_lt (Kd.Za HO_4.o pl))) (Zb pB));replace HO_3:=reR HO_3 ho0 hb;replace HO_4:=reR HO_4 ho0 hb;replace HB:=bS hb)|(refine gL (some 21) Tryz.func129 #[.slice Ao12 x4_1.length co12,.slice Ao12 x4_1.length co12] (h:=?_);(with_reducible refine (Zae.calls k1 _ _ x4_1 _ _ x4_1 t318 _ ?side1 ?side2 ?side3 ?side4 A10.o).mono ?_);(case side1=>exact Kd.Zx (Kd.Zd HO_4.o).2.2 pl);(case side2=>exact (Kd.Zd HO_4.o).2.1);(case side3=>exact Kd.Zx (Kd.Zd HO_4.o).2.2 pl);(case side4=>exact (Kd.Zd HO_4.o).2.1);rintro e w14 ⟨v319,rfl,ho0,hb⟩;refine ⟨_,rfl,?_⟩;have HO320:=am (Kd.Zq (Kd.Zr (Kd.Zr (Kd.Zr ho0 (Kd.R_lt (Kd.Za HO_3.o pl))) (Kd.R_lt (Kd.Za HO_4.o pl))) (Kd.R_lt (Kd.Za HO317.o pl))) (Zb pB));replace HO_3:=reR HO_3 ho0 hb;replace HO_4:=reR HO_4 ho0 hb;replace HO317:=reR HO317 ho0 hb;replace HB:=bS hb))
      go_roundg k1
      case measure=>have := HK1.out;omega
      case rel=>exact ⟨(wrap64 (Int.tdiv x0_1 2)),(t315),(t318),pR,H',⟨by have := HK1.out;omega⟩,⟨by refine rp ?_;exact Kd.Zi HO317.o (fun _ hk=>hk.2)⟩,⟨by refine rp ?_;exact Kd.Zi HO320.o (fun _ hk=>hk.2)⟩,⟨pB⟩⟩
     ·rw [if_neg c9] at H
      have c9b0:decide (1 < x0_1)=false:=decide_eq_false c9
      clear c9
      have H':=am H
      clear H
      obtain ⟨Ao15,co15,eo15⟩:=Kd.Zj HO_3.o
      subst eo15
      obtain ⟨Ao16,co16,eo16⟩:=Kd.Zj HO_4.o
      subst eo16
      go_wp2_with (first|(refine gL (some 16) Tryz.func129 #[.slice Ao15 x3_1.length co15,.slice Ao16 x4_1.length co16] (h:=?_);(with_reducible refine (Zae.calls k1 _ _ x3_1 _ _ x4_1 t315 _ ?side1 ?side2 ?side3 ?side4 A8.o).mono ?_);(case side1=>exact Kd.Zx (Kd.Zd HO_3.o).2.2 pl);(case side2=>exact (Kd.Zd HO_3.o).2.1);(case side3=>exact Kd.Zx (Kd.Zd HO_4.o).2.2 pl);(case side4=>exact (Kd.Zd HO_4.o).2.1);rintro e w17 ⟨v316,rfl,ho0,hb⟩;refine ⟨_,rfl,?_⟩;have HO317:=am (Kd.Zq (Kd.Zr (Kd.Zr ho0 (Kd.R_lt (Kd.Za HO_3.o pl))) (Kd.R_lt (Kd.Za HO_4.o pl))) (Zb pB));replace HO_3:=reR HO_3 ho0 hb;replace HO_4:=reR HO_4 ho0 hb;replace HB:=bS hb))
      go_roundg k1
      case measure=>have := HK1.out;omega
      case rel=>exact ⟨(wrap64 (Int.tdiv x0_1 2)),(t315),(x4_1),pR,H',⟨by have := HK1.out;omega⟩,⟨by refine rp ?_;exact Kd.Zi HO317.o (fun _ hk=>hk.2)⟩,⟨by refine rp ?_;exact Kd.Zi HO_4.o (fun _ hk=>hk.2)⟩,⟨pB⟩⟩
    ·rw [if_neg c7] at H
     have c7b0:((Int.tmod x0_1 2) == 1)=false:=beq_eq_false_iff_ne.mpr c7
     have c7b1:((Int.tmod x0_1 2) != 1)=true:=bne_iff_ne.mpr c7
     by_cases c18:x0_1 > 1
     ·rw [if_pos c18] at H
      have c18b0:decide (1 < x0_1)=true:=decide_eq_true c18
      clear c18
      obtain ⟨t321,A19,H⟩:=ob H
      have H':=am H
      clear H
      obtain ⟨Ao20,co20,eo20⟩:=Kd.Zj HO_4.o
      subst eo20
      go_wp2_with (first|(refine gL (some 21) Tryz.func129 #[.slice Ao20 x4_1.length co20,.slice Ao20 x4_1.length co20] (h:=?_);(with_reducible refine (Zae.calls k1 _ _ x4_1 _ _ x4_1 t321 _ ?side1 ?side2 ?side3 ?side4 A19.o).mono ?_);(case side1=>exact Kd.Zx (Kd.Zd HO_4.o).2.2 pl);(case side2=>exact (Kd.Zd HO_4.o).2.1);(case side3=>exact Kd.Zx (Kd.Zd HO_4.o).2.2 pl);(case side4=>exact (Kd.Zd HO_4.o).2.1);rintro e w21 ⟨v322,rfl,ho0,hb⟩;refine ⟨_,rfl,?_⟩;have HO323:=am (Kd.Zq (Kd.Zr (Kd.Zr ho0 (Kd.R_lt (Kd.Za HO_3.o pl))) (Kd.R_lt (Kd.Za HO_4.o pl))) (Zb pB));replace HO_3:=reR HO_3 ho0 hb;replace HO_4:=reR HO_4 ho0 hb;replace HB:=bS hb))
      go_roundg k1
      case measure=>have := HK1.out;omega
      case rel=>exact ⟨(wrap64 (Int.tdiv x0_1 2)),(x3_1),(t321),pR,H',⟨by have := HK1.out;omega⟩,⟨by refine rp ?_;exact Kd.Zi HO_3.o (fun _ hk=>hk.2)⟩,⟨by refine rp ?_;exact Kd.Zi HO323.o (fun _ hk=>hk.1.2)⟩,⟨pB⟩⟩
     ·rw [if_neg c18] at H
      have c18b0:decide (1 < x0_1)=false:=decide_eq_false c18
      clear c18
      have H':=am H
      clear H
      go_wp2
      go_roundg k1
      case measure=>have := HK1.out;omega
      case rel=>exact ⟨(wrap64 (Int.tdiv x0_1 2)),(x3_1),(x4_1),pR,H',⟨by have := HK1.out;omega⟩,⟨by refine rp ?_;exact HO_3.o⟩,⟨by refine rp ?_;exact HO_4.o⟩,⟨pB⟩⟩
   ·rw [if_neg c6] at H
    have c6b0:decide (0 < x0_1)=false:=decide_eq_false c6
    clear c6
    obtain rfl:=Option.some.inj H
    go_wp2
    go_ret
    exact ⟨_,pE,by refine rp ?_;exact Kd.Zi HO_3.o (fun _ hk=>trivial),pB⟩
def Zf4.f (k:Nat) (a0:Int):Option (List Int × Int):=if a0 < 0 then (some (([]:List Int),4)) else (if a0 > 2400 then (some (([]:List Int),4)) else ((Zbu.f k a0).bind fun t324=>(some (t324,0))))
theorem Zf4.calls (k:Nat) (a0:Int) (r1:List Int) (r2:Int) (w:World) (h:Zf4.f k a0=some (r1,r2)) :
  Calls Tryz.prog 130 #[.int .i64 a0] w fun e w' => ∃ v0_:Value,e=.returned (.tuple #[v0_,.int .i64 r2])/\Kd.R (Kd.int .u32) 85 w' w.heap.size (fun _=>True) v0_ r1/\Below w.heap.size w w':=by
 have HB:=am (Below.refl w.heap.size w)
 have H:(if a0 < 0 then (some (([]:List Int),4)) else (if a0 > 2400 then (some (([]:List Int),4)) else ((Zbu.f k a0).bind fun t324=>(some (t324,0)))))=some (r1,r2):=h
 clear h
 by_cases c2:a0 < 0
 ·rw [if_pos c2] at H
  have c2b0:decide (a0 < 0)=true:=decide_eq_true c2
  clear c2
  simp only [Option.some.injEq,Prod.mk.injEq] at H
  obtain ⟨rfl,rfl⟩:=H
  go_enter Tryz.func130,Tryz.ntmps130
  go_wp2
  go_ret2
  exact ⟨_,pE,pN,pB⟩
 ·rw [if_neg c2] at H
  have c2b0:decide (a0 < 0)=false:=decide_eq_false c2
  clear c2
  by_cases c3:a0 > 2400
  ·rw [if_pos c3] at H
   have c3b0:decide (2400 < a0)=true:=decide_eq_true c3
   clear c3
   simp only [Option.some.injEq,Prod.mk.injEq] at H
   obtain ⟨rfl,rfl⟩:=H
   go_enter Tryz.func130,Tryz.ntmps130
   go_wp2
   go_ret2
   exact ⟨_,pE,pN,pB⟩
  ·rw [if_neg c3] at H
   have c3b0:decide (2400 < a0)=false:=decide_eq_false c3
   clear c3
   obtain ⟨t324,A4,H⟩:=ob H
   simp only [Option.some.injEq,Prod.mk.injEq] at H
   obtain ⟨rfl,rfl⟩:=H
   go_enter Tryz.func130,Tryz.ntmps130
   go_wp2_with (first|(refine gL (some 11) Tryz.func163 #[.int .i64 a0] (h:=?_);(with_reducible refine (Zbu.calls k a0 t324 _ A4.o).mono ?_);rintro e w5 ⟨v325,rfl,ho0,hb⟩;refine ⟨_,rfl,?_⟩;have HO326:=am (Kd.Zq ho0 (Zb pB));replace HB:=bS hb))
   go_ret2
   exact ⟨_,pE,by refine rp ?_;exact HO326.o,pB⟩
def Zdg.f (k:Nat) (l0:List Int) (l1:List Int):Option (Int × Int):=(Za0.f l0).bind fun t349=>((Za0.f l1).bind fun t350=>((Zbr.f k (([t349,t350]:List Int))).bind fun t354=>(if t354=0 then ((Zax.f l0 l1).bind fun t355=>(some (t355,0))) else (some (0,t354)))))
theorem Zdg.calls (k:Nat) (A0:Option Addr) (c0:Nat) (l0:List Int) (A1:Option Addr) (c1:Nat) (l1:List Int) (r1:Int) (r2:Int) (w:World) (hr0:Kd.C (Kd.int .u32) w A0 l0.length l0) (hc0:l0.length<=c0) (hr1:Kd.C (Kd.int .u32) w A1 l1.length l1) (hc1:l1.length<=c1) (h:Zdg.f k l0 l1=some (r1,r2)) :
  Calls Tryz.prog 90 #[.slice A0 l0.length c0,.slice A1 l1.length c1] w fun e w'=>e=.returned (.tuple #[.int .i64 r1,.int .i64 r2])/\Below w.heap.size w w':=by
 have HR0:=am hr0
 have HC0:=am hc0
 clear hr0 hc0
 have HR1:=am hr1
 have HC1:=am hc1
 clear hr1 hc1
 have HB:=am (Below.refl w.heap.size w)
 have H:((Za0.f l0).bind fun t349=>((Za0.f l1).bind fun t350=>((Zbr.f k (([t349,t350]:List Int))).bind fun t354=>(if t354=0 then ((Zax.f l0 l1).bind fun t355=>(some (t355,0))) else (some (0,t354))))))=some (r1,r2):=h
 clear h
 obtain ⟨t349,A3,H⟩:=ob H
 obtain ⟨t350,A4,H⟩:=ob H
 obtain ⟨y351,hy351⟩:∃ y_:List Int,y_=(([t349,t350]:List Int)):=⟨_,rfl⟩
 replace H:((Zbr.f k y351).bind fun t354=>(if t354=0 then ((Zax.f l0 l1).bind fun t355=>(some (t355,0))) else (some (0,t354))))=some (r1,r2):=by have hy_:=hy351;exact pH
 have Ny351:=am hy351
 clear hy351
 obtain ⟨t354,A5,H⟩:=ob H
 by_cases c6:t354=0
 ·rw [if_pos c6] at H
  have c6b0:(t354 == 0)=true:=beq_iff_eq.mpr c6
  have c6b1:(t354 != 0)=false:=bne_eq_false_iff_eq.mpr c6
  clear c6
  obtain ⟨t355,A7,H⟩:=ob H
  simp only [Option.some.injEq,Prod.mk.injEq] at H
  obtain ⟨rfl,rfl⟩:=H
  go_enter Tryz.func90,Tryz.ntmps90
  go_wp2_with (first|(refine gL (some 8) Tryz.func108 #[.slice A0 l0.length c0] (h:=?_);(with_reducible refine (Za0.calls _ _ l0 t349 _ ?side1 ?side2 A3.o).mono ?_);(case side1=>refine cp ?_;exact HR0.o);(case side2=>exact HC0.o);rintro e w' ⟨rfl,⟨nd,rfl⟩⟩;refine ⟨_,rfl,?_⟩)|(refine gL (some 10) Tryz.func108 #[.slice A1 l1.length c1] (h:=?_);(with_reducible refine (Za0.calls _ _ l1 t350 _ ?side1 ?side2 A4.o).mono ?_);(case side1=>refine cp ?_;exact HR1.o);(case side2=>exact HC1.o);rintro e w' ⟨rfl,⟨nd,rfl⟩⟩;refine ⟨_,rfl,?_⟩)|((with_reducible refine gd 11 ?_);refine Kd.Zg8 (Kd.int .i64) _ 32 ?hg (N:=11) ?hd (xs:=([t349,t350]:List Int)) (inner:=[.int .i64 t349,.int .i64 t350]) (ok:=fun _=>True) (okp:=fun _=>True) ?hr ?hp (fun _ hk=>hk) trivial (Below.refl _ _) (Nat.le_refl _) (by simp) ?_;(case hd=>rfl);(case hg=>rfl);(case hr=>first|(go_simp;done)|(go_simp;rfl));(case hp=>exact (Reps.one (show Kd.M (Kd.int .i64) _ _ _ t349 [.int .i64 t349] from rfl) (Reps.one (show Kd.M (Kd.int .i64) _ _ _ t350 [.int .i64 t350] from rfl) (Reps.none _ _))));intro v352 w8 ho9 hb hg_ hnew_;clear hg_ hnew_;(first|rw [<- Ny351.out] at ho9|(simp only [Int.reduceToNat] at ho9;rw [<- Ny351.out] at ho9));have HO353:=am (Kd.Zq ho9 (Zb pB));replace HB:=bS hb;clear hb ho9;obtain ⟨Ao10,co10,eo10⟩:=Kd.Zj HO353.o;subst eo10)|(refine gL (some 12) Tryz.func137 #[.slice Ao10 y351.length co10] (h:=?_);(with_reducible refine (Zbr.calls k _ _ y351 t354 _ ?side1 ?side2 A5.o).mono ?_);(case side1=>exact Kd.Zx (Kd.Zd HO353.o).2.2 pl);(case side2=>exact (Kd.Zd HO353.o).2.1);rintro e w' ⟨rfl,⟨nd,rfl⟩⟩;refine ⟨_,rfl,?_⟩)|(refine gL (some 18) Tryz.func138 #[.slice A0 l0.length c0,.slice A1 l1.length c1] (h:=?_);(with_reducible refine (Zax.calls _ _ l0 _ _ l1 t355 _ ?side1 ?side2 ?side3 ?side4 A7.o).mono ?_);(case side1=>refine cp ?_;exact (Kd.Zx HR0.o pB));(case side2=>exact HC0.o);(case side3=>refine cp ?_;exact (Kd.Zx HR1.o pB));(case side4=>exact HC1.o);rintro e w11 ⟨rfl,hb⟩;refine ⟨_,rfl,?_⟩;replace HO353:=rbl HO353 hb;replace HB:=bS hb))
  go_ret2
  exact ⟨pE,pB⟩
 ·rw [if_neg c6] at H
  have c6b0:(t354 == 0)=false:=beq_eq_false_iff_ne.mpr c6
  have c6b1:(t354 != 0)=true:=bne_iff_ne.mpr c6
  simp only [Option.some.injEq,Prod.mk.injEq] at H
  obtain ⟨rfl,rfl⟩:=H
  go_enter Tryz.func90,Tryz.ntmps90
  go_wp2_with (first|(refine gL (some 8) Tryz.func108 #[.slice A0 l0.length c0] (h:=?_);(with_reducible refine (Za0.calls _ _ l0 t349 _ ?side1 ?side2 A3.o).mono ?_);(case side1=>refine cp ?_;exact HR0.o);(case side2=>exact HC0.o);rintro e w' ⟨rfl,⟨nd,rfl⟩⟩;refine ⟨_,rfl,?_⟩)|(refine gL (some 10) Tryz.func108 #[.slice A1 l1.length c1] (h:=?_);(with_reducible refine (Za0.calls _ _ l1 t350 _ ?side1 ?side2 A4.o).mono ?_);(case side1=>refine cp ?_;exact HR1.o);(case side2=>exact HC1.o);rintro e w' ⟨rfl,⟨nd,rfl⟩⟩;refine ⟨_,rfl,?_⟩)|((with_reducible refine gd 11 ?_);refine Kd.Zg8 (Kd.int .i64) _ 32 ?hg (N:=11) ?hd (xs:=([t349,t350]:List Int)) (inner:=[.int .i64 t349,.int .i64 t350]) (ok:=fun _=>True) (okp:=fun _=>True) ?hr ?hp (fun _ hk=>hk) trivial (Below.refl _ _) (Nat.le_refl _) (by simp) ?_;(case hd=>rfl);(case hg=>rfl);(case hr=>first|(go_simp;done)|(go_simp;rfl));(case hp=>exact (Reps.one (show Kd.M (Kd.int .i64) _ _ _ t349 [.int .i64 t349] from rfl) (Reps.one (show Kd.M (Kd.int .i64) _ _ _ t350 [.int .i64 t350] from rfl) (Reps.none _ _))));intro v352 w12 ho13 hb hg_ hnew_;clear hg_ hnew_;(first|rw [<- Ny351.out] at ho13|(simp only [Int.reduceToNat] at ho13;rw [<- Ny351.out] at ho13));have HO353:=am (Kd.Zq ho13 (Zb pB));replace HB:=bS hb;clear hb ho13;obtain ⟨Ao14,co14,eo14⟩:=Kd.Zj HO353.o;subst eo14)|(refine gL (some 12) Tryz.func137 #[.slice Ao14 y351.length co14] (h:=?_);(with_reducible refine (Zbr.calls k _ _ y351 t354 _ ?side1 ?side2 A5.o).mono ?_);(case side1=>exact Kd.Zx (Kd.Zd HO353.o).2.2 pl);(case side2=>exact (Kd.Zd HO353.o).2.1);rintro e w' ⟨rfl,⟨nd,rfl⟩⟩;refine ⟨_,rfl,?_⟩))
  go_ret2
  exact ⟨pE,pB⟩
def Zeq.f (k:Nat) (l0:List Int) (l1:List Int):Option (List Int × Int):=(Zdh.f k l0 l1).bind fun t372=>(if t372=0 then ((Zac.f k l0 l1).bind fun t373=>((Zd3.f t373).bind fun bt376=>(some (bt376.1,bt376.2)))) else (some (([]:List Int),t372)))
theorem Zeq.calls (k:Nat) (A0:Option Addr) (c0:Nat) (l0:List Int) (A1:Option Addr) (c1:Nat) (l1:List Int) (r1:List Int) (r2:Int) (w:World) (hr0:Kd.C (Kd.int .u32) w A0 l0.length l0) (hc0:l0.length<=c0) (hr1:Kd.C (Kd.int .u32) w A1 l1.length l1) (hc1:l1.length<=c1) (h:Zeq.f k l0 l1=some (r1,r2)) :
  Calls Tryz.prog 75 #[.slice A0 l0.length c0,.slice A1 l1.length c1] w fun e w' => ∃ v0_:Value,e=.returned (.tuple #[v0_,.int .i64 r2])/\Kd.R (Kd.int .u32) 85 w' w.heap.size (fun _=>True) v0_ r1/\Below w.heap.size w w':=by
 have HR0:=am hr0
 have HC0:=am hc0
 clear hr0 hc0
 have HR1:=am hr1
 have HC1:=am hc1
 clear hr1 hc1
 have HB:=am (Below.refl w.heap.size w)
 have H:((Zdh.f k l0 l1).bind fun t372=>(if t372=0 then ((Zac.f k l0 l1).bind fun t373=>((Zd3.f t373).bind fun bt376=>(some (bt376.1,bt376.2)))) else (some (([]:List Int),t372))))=some (r1,r2):=h
 clear h
 obtain ⟨t372,A3,H⟩:=ob H
 by_cases c4:t372=0
 ·rw [if_pos c4] at H
  have c4b0:(t372 == 0)=true:=beq_iff_eq.mpr c4
  have c4b1:(t372 != 0)=false:=bne_eq_false_iff_eq.mpr c4
  clear c4
  obtain ⟨t373,A5,H⟩:=ob H
  obtain ⟨⟨t376,t379⟩,A6,H⟩:=ob H;(try dsimp only at H)
  simp only [Option.some.injEq,Prod.mk.injEq] at H
  obtain ⟨rfl,rfl⟩:=H
  go_enter Tryz.func75,Tryz.ntmps75
  go_wp2_with (first|(refine gL (some 9) Tryz.func126 #[.slice A0 l0.length c0,.slice A1 l1.length c1] (h:=?_);(with_reducible refine (Zdh.calls k _ _ l0 _ _ l1 t372 _ ?side1 ?side2 ?side3 ?side4 A3.o).mono ?_);(case side1=>refine cp ?_;exact HR0.o);(case side2=>exact HC0.o);(case side3=>refine cp ?_;exact HR1.o);(case side4=>exact HC1.o);rintro e w7 ⟨rfl,hb⟩;refine ⟨_,rfl,?_⟩;replace HB:=bS hb)|(refine gL (some 15) Tryz.func131 #[.slice A0 l0.length c0,.slice A1 l1.length c1] (h:=?_);(with_reducible refine (Zac.calls k _ _ l0 _ _ l1 t373 _ ?side1 ?side2 ?side3 ?side4 A5.o).mono ?_);(case side1=>exact cB HR0 HB);(case side2=>exact HC0.o);(case side3=>exact cB HR1 HB);(case side4=>exact HC1.o);rintro e w8 ⟨v374,rfl,ho0,hb⟩;refine ⟨_,rfl,?_⟩;have HO375:=am (Kd.Zq ho0 (Zb pB));replace HB:=bS hb;obtain ⟨Ao9,co9,eo9⟩:=Kd.Zj HO375.o;subst eo9)|(refine gL (some 16) Tryz.func128 #[.slice Ao9 t373.length co9] (h:=?_);(with_reducible refine (Zd3.calls (fun k_=>some k_=(.slice Ao9 t373.length co9:Value).ownBlock) (.slice Ao9 t373.length co9) t373 t376 t379 w _ ?side1 ?side2 A6.o).mono ?_);(case side1=>exact pB);(case side2=>exact Kd.Zbl rfl HO375.o);rintro e w10 ⟨v377,rfl,ho0,hb,hkp⟩;refine ⟨_,rfl,?_⟩;have HO378:=am (Kd.Zi (ok':=fun k_=>True) ho0 (fun k_ hk_=>trivial));replace HB:=am hb;clear HO375))
  go_ret2
  exact ⟨_,pE,by refine rp ?_;exact HO378.o,pB⟩
 ·rw [if_neg c4] at H
  have c4b0:(t372 == 0)=false:=beq_eq_false_iff_ne.mpr c4
  have c4b1:(t372 != 0)=true:=bne_iff_ne.mpr c4
  simp only [Option.some.injEq,Prod.mk.injEq] at H
  obtain ⟨rfl,rfl⟩:=H
  go_enter Tryz.func75,Tryz.ntmps75
  go_wp2_with (first|(refine gL (some 9) Tryz.func126 #[.slice A0 l0.length c0,.slice A1 l1.length c1] (h:=?_);(with_reducible refine (Zdh.calls k _ _ l0 _ _ l1 t372 _ ?side1 ?side2 ?side3 ?side4 A3.o).mono ?_);(case side1=>refine cp ?_;exact HR0.o);(case side2=>exact HC0.o);(case side3=>refine cp ?_;exact HR1.o);(case side4=>exact HC1.o);rintro e w11 ⟨rfl,hb⟩;refine ⟨_,rfl,?_⟩;replace HB:=bS hb))
  go_ret2
  exact ⟨_,pE,pN,pB⟩
end YtjbjkmccfocikaaGreatDoor.B
end
section
namespace YtjbjkmccfocikaaGreatDoor.B
open Go.RowKit YtjbjkmccfocikaaGreatDoorW.PrintWords YtjbjkmccfocikaaGreatDoor.P.Nm
theorem Zei {b:Int}:∀ {l:List Int} {j:Nat} (x:Int),j < l.length->val b (l.set j x)=val b l+pw b j*(x - l.getD j 0)
 | [],j,x,h=>by simp at h
 | y :: l,0,x,_=>by simp [val,pw];omega
 | y :: l,j+1,x,h=>by
  have ih:=Zei (b:=b) (l:=l) (j:=j) x (by simpa using h)
  rw [List.set_cons_succ,Zb1,Zb1,ih,Zd1,Int.mul_add,Int.mul_assoc]
  simp [List.getD]
  omega
theorem Zg3 {b:Int} {l:List Int} (h:Dg b l) (j:Nat) {x:Int} (h0:0<=x) (h1:x < b):Dg b (l.set j x):=fun y hy=>by
 rcases List.mem_or_eq_of_mem_set hy with hy|rfl
 ·exact h y hy
 ·exact ⟨h0,h1⟩
theorem Zgj {b:Int} {l:List Int} {k:Nat} (h:k < l.length):val b (l.take (k+1))=val b (l.take k)+pw b k*l.getD k 0:=by
 rw [List.take_succ_eq_append_getElem h,Zde,List.length_take,Nat.min_eq_left (by omega),List.getD,List.getElem?_eq_getElem h]
 rfl
theorem Zd4 {l:List Int} {i j:Nat} (x:Int) (h:i ≠ j):(l.set i x).getD j 0=l.getD j 0:=by
 simp [List.getD,List.getElem?_set_ne h]
structure OffAt (q:Int) (xs v:List Int) (i k:Nat) (c b:Int) (ds:List Int):Prop where
 len:ds.length=xs.length
 dg:Dg 4294967296 ds
 c0:0<=c
 c1:c < 4294967296
 b01:b=0\/b=1
 law:val 4294967296 ds=val 4294967296 xs - pw 4294967296 i*(q*val 4294967296 (v.take k))+pw 4294967296 (i+k)*(c+b)
 hi:∀ j,i+k<=j->ds.getD j 0=xs.getD j 0
theorem OffAt.start {q:Int} {xs v:List Int} {i:Nat} (h:Dg 4294967296 xs):OffAt q xs v i 0 0 0 xs :=
 ⟨rfl,h,by omega,by omega,.inl rfl,by simp [val],fun _ _=>rfl⟩
theorem OffAt.prod {q y c:Int} (q0:0<=q) (q1:q < 4294967296) (y0:0<=y) (y1:y < 4294967296) (c0:0<=c) (c1:c < 4294967296):0<=q*y/\q*y+c < 18446744073709551616:=by
 have h1:=Int.mul_nonneg q0 y0
 have h2:=Int.mul_le_mul_of_nonneg_right (show q<=4294967295 by omega) y0
 exact ⟨h1,by omega⟩
theorem OffAt.step {q:Int} {xs v:List Int} {i k:Nat} {c b:Int} {ds:List Int} (h:OffAt q xs v i k c b ds) (q0:0<=q) (q1:q < 4294967296) (hv:Dg 4294967296 v) (hk:k < v.length) (hi:i+k < xs.length) :
  OffAt q xs v i (k+1) ((q*v.getD k 0+c) / 4294967296) (if ds.getD (i+k) 0 < (q*v.getD k 0+c) % 4294967296+b then 1 else 0) (ds.set (i+k) ((ds.getD (i+k) 0 - (q*v.getD k 0+c) % 4294967296 - b) % 4294967296)):=by
 have hy:0<=v.getD k 0/\v.getD k 0 < 4294967296:=by rw [List.getD,List.getElem?_eq_getElem hk];exact hv _ (List.getElem_mem hk)
 have hlt:i+k < ds.length:=by rw [h.len];exact hi
 have hu:0<=ds.getD (i+k) 0/\ds.getD (i+k) 0 < 4294967296:=by rw [List.getD,List.getElem?_eq_getElem hlt];exact h.dg _ (List.getElem_mem hlt)
 obtain ⟨p0,p1⟩:=OffAt.prod q0 q1 hy.1 hy.2 h.c0 h.c1
 have hb:=h.b01
 have hlaw:=h.law
 have ev:=Zei (b:=4294967296) (l:=ds) ((ds.getD (i+k) 0 - (q*v.getD k 0+c) % 4294967296 - b) % 4294967296) hlt
 have et:=Zgj (b:=4294967296) hk
 have c0:=h.c0
 obtain ⟨y,hyE⟩:∃ y,v.getD k 0=y:=⟨_,rfl⟩
 obtain ⟨u,huE⟩:∃ u,ds.getD (i+k) 0=u:=⟨_,rfl⟩
 rw [hyE] at hy ev et p0 p1 ⊢
 rw [huE] at hu ev ⊢
 obtain ⟨p,hp⟩:∃ p,q*y+c=p:=⟨_,rfl⟩
 rw [hp] at ev p1 ⊢
 refine ⟨by rw [List.length_set];exact h.len,Zg3 h.dg _ (by omega) (by omega),by omega,by omega,by split <;> simp,?_,fun j hj=>by rw [Zd4 _ (by omega)];exact h.hi j (by omega)⟩
 obtain ⟨d,hd⟩:∃ d,(u - p % 4294967296 - b) % 4294967296=d:=⟨_,rfl⟩
 obtain ⟨bw,hbw⟩:∃ bw,(if u < p % 4294967296+b then (1:Int) else 0)=bw:=⟨_,rfl⟩
 rw [hd] at ev ⊢
 rw [hbw]
 have key:c+b+(d - u)=4294967296*(p / 4294967296+bw) - q*y:=by
  rw [<- hbw,<- hd]
  split <;> omega
 rw [ev,hlaw,et,show i+(k+1)=i+k+1 by omega,Zd1,Zfx,Int.mul_add q,Int.mul_add (pw 4294967296 i)]
 have e1:pw 4294967296 i*(q*(pw 4294967296 k*y))=pw 4294967296 i*pw 4294967296 k*(q*y):=by
  rw [Int.mul_left_comm q,Int.mul_assoc]
 have e2:4294967296*(pw 4294967296 i*pw 4294967296 k)*(p / 4294967296+bw)=pw 4294967296 i*pw 4294967296 k*(4294967296*(p / 4294967296+bw)):=by
  rw [Int.mul_comm 4294967296 (pw _ _*_),Int.mul_assoc]
 rw [e1,e2]
 generalize pw 4294967296 i*pw 4294967296 k=M
 have e3:=congrArg (M * ·) key
 simp only [Int.mul_sub,Int.mul_add] at e3 ⊢
 omega
theorem OffAt.done {q:Int} {xs v:List Int} {i:Nat} {c b:Int} {ds:List Int} (h:OffAt q xs v i v.length c b ds) (hi:i+v.length < xs.length) :
  Dg 4294967296 (ds.set (i+v.length) ((ds.getD (i+v.length) 0 - c - b) % 4294967296))/\val 4294967296 (ds.set (i+v.length) ((ds.getD (i+v.length) 0 - c - b) % 4294967296))=val 4294967296 xs - pw 4294967296 i*(q*val 4294967296 v)+pw 4294967296 (i+v.length+1)*(if ds.getD (i+v.length) 0 < c+b then 1 else 0) /\
  ∀ j,i+v.length+1<=j->(ds.set (i+v.length) ((ds.getD (i+v.length) 0 - c - b) % 4294967296)).getD j 0=xs.getD j 0:=by
 have hlt:i+v.length < ds.length:=by rw [h.len];exact hi
 have hu:0<=ds.getD (i+v.length) 0/\ds.getD (i+v.length) 0 < 4294967296:=by rw [List.getD,List.getElem?_eq_getElem hlt];exact h.dg _ (List.getElem_mem hlt)
 have hb:=h.b01
 have c0:=h.c0
 have c1:=h.c1
 refine ⟨Zg3 h.dg _ (by omega) (by omega),?_,fun j hj=>by rw [Zd4 _ (by omega)];exact h.hi j (by omega)⟩
 have hlaw:=h.law
 rw [List.take_length] at hlaw
 rw [Zei _ hlt,hlaw,Zd1]
 obtain ⟨u,huE⟩:∃ u,ds.getD (i+v.length) 0=u:=⟨_,rfl⟩
 rw [huE] at hu ⊢
 obtain ⟨bw,hbw⟩:∃ bw,(if u < c+b then (1:Int) else 0)=bw:=⟨_,rfl⟩
 rw [hbw]
 have key:c+b+((u - c - b) % 4294967296 - u)=4294967296*bw:=by
  rw [<- hbw]
  split <;> omega
 generalize pw 4294967296 (i+v.length)=M
 have e3:=congrArg (M * ·) key
 rw [Int.mul_comm 4294967296 M,Int.mul_assoc,<- e3]
 simp only [Int.mul_sub,Int.mul_add]
 omega
theorem Zqo (base g i n cap:Nat) (xs:List Int) (A1:Option Addr) (c1:Nat) (lv:List Int) (q:Int) (w:World) (hrow:w.ownsRow base 85 1 (.slice (some ⟨g,0,none⟩) n cap) n (nums .u32 xs)) (hbg:g < w.heap.size) (hx:Dg 4294967296 xs) (hr1:Kd.C (Kd.int .u32) w A1 lv.length lv) (hc1:lv.length<=c1) (hv:Dg 4294967296 lv)
  (hne:∀ ad,A1=some ad->lv.length=0\/ad.block ≠ g) (hi:i+lv.length < n) (hn:n<=cap) (hz:n<=2000000) (q0:0<=q) (q1:q < 4294967296) :
  Calls Tryz.prog 160 #[.slice (some ⟨g,i,none⟩) (n - i) (cap - i),.slice A1 lv.length c1,.int .u64 q] w fun e w' => ∃ (b:Int) (ds:List Int),e=.returned (.int .u32 b)/\(b=0\/b=1)/\w'.ownsRow base 85 1 (.slice (some ⟨g,0,none⟩) n cap) n (nums .u32 ds)/\Dg 4294967296 ds/\ds.length=xs.length /\
   val 4294967296 ds=val 4294967296 xs - pw 4294967296 i*(q*val 4294967296 lv)+pw 4294967296 (i+lv.length+1)*b/\(∀ j,i+lv.length+1<=j->ds.getD j 0=xs.getD j 0)/\Kept w w' (fun k=>k=g)/\Below g w w':=by
 have hlx:xs.length=n:=by have := hrow.1;simpa [nums] using this
 have e1:=Zft hr1
 have HR:=Aside0.mk e1
 have HN:=Aside0.mk hne
 have HRow:=Aside0.mk hrow
 clear hr1 hne hrow e1
 obtain ⟨m,hm⟩:∃ m:Int,(lv.length:Int)=m:=⟨_,rfl⟩
 have HM:=Aside0.mk hm
 obtain ⟨L,hL⟩:∃ L,n - i=L:=⟨_,rfl⟩
 obtain ⟨C2,hC2⟩:∃ C2,cap - i=C2:=⟨_,rfl⟩
 rw [hL,hC2]
 go_enter Tryz.func160,Tryz.ntmps160
 go_wp2
 go_loopg [7,8,14] (lv.length+1) (fun kq v7 v8 v14 w' => ∃ (x7 x8 x14:Int) (ds:List Int),v7=.int .u64 x7/\v8=.int .u32 x8/\v14=.int .i64 x14/\Aside0 (0<=x14/\x14<=lv.length)/\Aside0 (OffAt q xs lv i x14.toNat x7 x8 ds)/\Aside0 (w'.ownsRow base 85 1 (.slice (some ⟨g,0,none⟩) n cap) n (nums .u32 ds))/\Aside0 (Kept w w' (fun k=>k=g))/\Aside0 (Below g w w')/\Aside0 (kq+x14.toNat=lv.length+1))
 case atStart=>exact ⟨0,0,0,xs,rfl,rfl,rfl,⟨by omega⟩,⟨OffAt.start hx⟩,HRow,⟨Kept.refl _ _⟩,⟨Below.refl _ _⟩,⟨rfl⟩⟩
 case round =>
  obtain ⟨x7,x8,x14,ds,rfl,rfl,rfl,HX,HO,HW,HKp,HB,HK⟩:=hrel
  obtain ⟨hx0,hx1⟩:=HX.out
  have hds:ds.length=n:=HO.out.len.trans hlx
  have hc7:=HO.out.c0
  have hc8:=HO.out.c1
  have hb8:=HO.out.b01
  have hct:x14.toNat<=lv.length:=by omega
  have hcell:=Zfe HW.out ((i+x14.toNat:Nat):Int) (by omega) (by omega)
  rw [Int.toNat_natCast] at hcell
  obtain ⟨u,hu⟩:∃ u,rd ds ((i+x14.toNat:Nat):Int)=u:=⟨_,rfl⟩
  rw [hu] at hcell
  obtain ⟨hcu,hfu⟩:=hcell
  have hug:ds.getD (i+x14.toNat) 0=u:=by rw [<- hu];unfold rd;rw [Int.toNat_natCast]
  have hur:0<=u/\u < 4294967296:=by
   have hin:i+x14.toNat < ds.length:=by omega
   rw [<- hug,List.getD,List.getElem?_eq_getElem hin]
   exact HO.out.dg _ (List.getElem_mem hin)
  by_cases hlt:x14 < lv.length
  ·have hltn:x14.toNat < lv.length:=by omega
   obtain ⟨b1,o1,y,hA,hcy,hy⟩:=HR.out.at hltn
   subst hA
   have hb1:b1 ≠ g:=by
    rcases HN.out _ rfl with h|h
    ·omega
    ·exact h
   have hcyW:=(World.cell?_of_block (a:=⟨b1,o1+x14.toNat,none⟩) (HKp.out.2 b1 (World.block_lt_of_cell? w _ hcy) hb1)).trans hcy
   have hyr:0<=y/\y < 4294967296:=by
    rw [hy,List.getD,List.getElem?_eq_getElem hltn]
    exact hv _ (List.getElem_mem hltn)
   obtain ⟨pp0,pp1⟩:=OffAt.prod q0 q1 hyr.1 hyr.2 hc7 hc8
   have hst:=HO.out.step q0 q1 hv hltn (by omega)
   rw [hug,<- hy] at hst
   have e0:IntKind.u64.wrap y=y:=by simp [IntKind.wrap,IntKind.bits,IntKind.signed];omega
   have e1:IntKind.u64.wrap (q*y)=q*y:=by simp [IntKind.wrap,IntKind.bits,IntKind.signed];omega
   have e2:IntKind.u64.wrap (q*y+x7)=q*y+x7:=by simp [IntKind.wrap,IntKind.bits,IntKind.signed];omega
   obtain ⟨p,hp⟩:∃ p,q*y+x7=p:=⟨_,rfl⟩
   have e3:IntKind.u64.wrap (q*y+x7)=p:=e2.trans hp
   clear e2
   rw [hp] at hst pp1
   obtain ⟨lo,hlo⟩:∃ lo,p % 4294967296=lo:=⟨_,rfl⟩
   obtain ⟨hi2,hhi⟩:∃ hi2,p / 4294967296=hi2:=⟨_,rfl⟩
   rw [hlo,hhi] at hst
   obtain ⟨d,hd⟩:∃ d,(u - lo - x8) % 4294967296=d:=⟨_,rfl⟩
   obtain ⟨bw,hbw⟩:∃ bw:Int,(if u < lo+x8 then 1 else 0)=bw:=⟨_,rfl⟩
   rw [hd,hbw] at hst
   have cS:=fun W:World=>Zdy.calls u lo x8 d bw W (by unfold Zdy.f;rw [if_pos (by omega),hd,hbw])
   have d1:decide (x14 < m)=true:=decide_eq_true (by omega)
   have p1:=eq_true hx0
   have p2:=eq_true hlt
   have p4:=eq_true (show x14 < m by omega)
   have p3:=eq_true (show x14 < (L:Int) by omega)
   have w1:IntKind.i64.wrap (x14+1)=x14+1:=by rw [IntKind.wrap_i64];omega
   have HST:=Aside0.mk hst
   have HQ:=Aside0.mk (And.intro q0 q1)
   have HXR:=Aside0.mk (show i+x14.toNat < n/\ds.length=n/\L=n - i from ⟨by omega,hds,hL.symm⟩)
   clear hst hur hyr pp0 pp1 hd hbw hp hy hug hu hcy hc7 hc8 hb8 HO
   go_wp2_with (go_at_call 185;(with_reducible refine (cS _).mono ?_);rintro e w' ⟨rfl,⟨nq,rfl⟩⟩)
   go_roundg (gk - 1)
   case measure=>have := HK.out;omega
   case rel =>
    have hst1:=Zey (W:=wr.drewN nq) HW.out ((i+x14.toNat:Nat):Int) d
    rw [Int.toNat_natCast] at hst1
    have e5:(x14+1).toNat=x14.toNat+1:=by omega
    refine ⟨hi2,bw,x14+1,ds.set (i+x14.toNat) d,rfl,rfl,rfl,⟨by omega⟩,⟨by rw [e5];exact HST.out⟩,⟨hst1.1⟩,⟨⟨?_,fun k h1 h2=>(Below.heap_setCell _ ⟨g,i+x14.toNat,none⟩ _ k h2).trans (HKp.out.2 k h1 h2)⟩⟩,⟨(Zay HB.out nq).setCell (p:=⟨g,i+x14.toNat,none⟩) (Nat.le_refl _) _⟩,⟨by have := HK.out;rw [e5];omega⟩⟩
    have := HKp.out.1
    simpa using this
  ·obtain rfl:x14=m:=by omega
   have hxm:x14.toNat=lv.length:=by omega
   have hst:=HO.out
   rw [hxm] at hst
   have hfin:=hst.done (by omega)
   rw [<- hxm,hug] at hfin
   obtain ⟨d,hd⟩:∃ d,(u - x7 - x8) % 4294967296=d:=⟨_,rfl⟩
   obtain ⟨bw,hbw⟩:∃ bw:Int,(if u < x7+x8 then 1 else 0)=bw:=⟨_,rfl⟩
   rw [hd,hbw] at hfin
   have hb01:bw=0\/bw=1:=by rw [<- hbw];split <;> simp
   have cS:=fun W:World=>Zdy.calls u x7 x8 d bw W (by unfold Zdy.f;rw [if_pos (by omega),hd,hbw])
   have d1:decide (x14 < x14)=false:=decide_eq_false (by omega)
   have p1:=eq_true hx0
   have p3:=eq_true (show x14 < (L:Int) by omega)
   have ec:x7 % 4294967296=x7:=by omega
   have HFin:=Aside0.mk hfin
   have HBw:=Aside0.mk hb01
   have HXM:=Aside0.mk hxm
   have HDS:=Aside0.mk (hds.trans hlx.symm)
   clear hst hfin hb01 hd hbw hur hug hu hc7 hc8 hb8 HO hxm hds hct
   go_wp2_with (go_at_call 185;(with_reducible refine (cS _).mono ?_);rintro e w' ⟨rfl,⟨nq,rfl⟩⟩)
   go_ret
   have hst1:=Zey (W:=wr.drewN nq) HW.out ((i+x14.toNat:Nat):Int) d
   rw [Int.toNat_natCast] at hst1
   have hf:=HFin.out
   rw [HXM.out] at hf hst1
   refine ⟨bw,_,rfl,HBw.out,by rw [HXM.out];exact hst1.1,hf.1,by rw [List.length_set];exact HDS.out,hf.2.1,hf.2.2,⟨?_,fun k h1 h2=>(Below.heap_setCell _ ⟨g,i+x14.toNat,none⟩ _ k h2).trans (HKp.out.2 k h1 h2)⟩,(Zay HB.out nq).setCell (p:=⟨g,i+x14.toNat,none⟩) (Nat.le_refl _) _⟩
   have := HKp.out.1
   simpa using this
theorem Zrm (x y c:Int) (h1:0<=x) (h2:x < 4294967296) (h3:0<=y) (h4:y < 4294967296) (h5:c=0\/c=1):Zch.f x y c=some ((x+y+c) % 4294967296,(x+y+c) / 4294967296):=by
 have e:∀ z:Int,IntKind.u64.wrap z=z % 18446744073709551616:=fun z=>by simp [IntKind.wrap,IntKind.bits,IntKind.signed]
 unfold Zch.f
 simp only [e]
 congr 2
 ·omega
 ·omega
structure PutAt (xs v:List Int) (i k:Nat) (c:Int) (ds:List Int):Prop where
 len:ds.length=xs.length
 dg:Dg 4294967296 ds
 c01:c=0\/c=1
 law:val 4294967296 ds=val 4294967296 xs+pw 4294967296 i*val 4294967296 (v.take k) - pw 4294967296 (i+k)*c
 hi:∀ j,i+k<=j->ds.getD j 0=xs.getD j 0
theorem PutAt.start {xs v:List Int} {i:Nat} (h:Dg 4294967296 xs):PutAt xs v i 0 0 xs:=⟨rfl,h,.inl rfl,by simp [val],fun _ _=>rfl⟩
theorem PutAt.step {xs v:List Int} {i k:Nat} {c:Int} {ds:List Int} (h:PutAt xs v i k c ds) (hv:Dg 4294967296 v) (hk:k < v.length) (hi:i+k < xs.length) :
  PutAt xs v i (k+1) ((ds.getD (i+k) 0+v.getD k 0+c) / 4294967296) (ds.set (i+k) ((ds.getD (i+k) 0+v.getD k 0+c) % 4294967296)):=by
 have hy:0<=v.getD k 0/\v.getD k 0 < 4294967296:=by rw [List.getD,List.getElem?_eq_getElem hk];exact hv _ (List.getElem_mem hk)
 have hlt:i+k < ds.length:=by rw [h.len];exact hi
 have hu:0<=ds.getD (i+k) 0/\ds.getD (i+k) 0 < 4294967296:=by rw [List.getD,List.getElem?_eq_getElem hlt];exact h.dg _ (List.getElem_mem hlt)
 have hc:=h.c01
 have ev:=Zei (b:=4294967296) (l:=ds) ((ds.getD (i+k) 0+v.getD k 0+c) % 4294967296) hlt
 have et:=Zgj (b:=4294967296) hk
 obtain ⟨y,hyE⟩:∃ y,v.getD k 0=y:=⟨_,rfl⟩
 obtain ⟨u,huE⟩:∃ u,ds.getD (i+k) 0=u:=⟨_,rfl⟩
 rw [hyE] at hy ev et ⊢
 rw [huE] at hu ev ⊢
 refine ⟨by rw [List.length_set];exact h.len,Zg3 h.dg _ (by omega) (by omega),by omega,?_,fun j hj=>by rw [Zd4 _ (by omega)];exact h.hi j (by omega)⟩
 obtain ⟨s,hs⟩:∃ s,u+y+c=s:=⟨_,rfl⟩
 rw [hs] at ev ⊢
 have key:s % 4294967296 - u=y+c - 4294967296*(s / 4294967296):=by omega
 rw [ev,h.law,et,show i+(k+1)=i+k+1 by omega,Zd1,Zfx,key,Int.mul_add (pw 4294967296 i)]
 have e1:pw 4294967296 i*(pw 4294967296 k*y)=pw 4294967296 i*pw 4294967296 k*y:=by rw [Int.mul_assoc]
 rw [e1]
 generalize pw 4294967296 i*pw 4294967296 k=M
 rw [Int.mul_comm 4294967296 M,Int.mul_assoc]
 simp only [Int.mul_sub,Int.mul_add]
 omega
theorem PutAt.done {xs v:List Int} {i:Nat} {c:Int} {ds:List Int} (h:PutAt xs v i v.length c ds) (hi:i+v.length < xs.length) :
  ∃ o:Int,(o=0\/o=1)/\Dg 4294967296 (ds.set (i+v.length) ((ds.getD (i+v.length) 0+c) % 4294967296))/\val 4294967296 (ds.set (i+v.length) ((ds.getD (i+v.length) 0+c) % 4294967296))=val 4294967296 xs+pw 4294967296 i*val 4294967296 v - pw 4294967296 (i+v.length+1)*o /\
   ∀ j,i+v.length+1<=j->(ds.set (i+v.length) ((ds.getD (i+v.length) 0+c) % 4294967296)).getD j 0=xs.getD j 0:=by
 have hlt:i+v.length < ds.length:=by rw [h.len];exact hi
 have hu:0<=ds.getD (i+v.length) 0/\ds.getD (i+v.length) 0 < 4294967296:=by rw [List.getD,List.getElem?_eq_getElem hlt];exact h.dg _ (List.getElem_mem hlt)
 have hc:=h.c01
 have hlaw:=h.law
 rw [List.take_length] at hlaw
 obtain ⟨u,huE⟩:∃ u,ds.getD (i+v.length) 0=u:=⟨_,rfl⟩
 refine ⟨(u+c) / 4294967296,by omega,?_,?_,fun j hj=>by rw [Zd4 _ (by omega)];exact h.hi j (by omega)⟩
 ·rw [huE] at hu ⊢
  exact Zg3 h.dg _ (by omega) (by omega)
 ·rw [Zei _ hlt,hlaw,huE,Zd1]
  have key:(u+c) % 4294967296 - u=c - 4294967296*((u+c) / 4294967296):=by omega
  rw [key]
  generalize pw 4294967296 (i+v.length)=M
  rw [Int.mul_comm 4294967296 M,Int.mul_assoc,Int.mul_sub]
  omega
structure PutR (base g i n cap:Nat) (xs lv:List Int) (w w':World):Prop where
 out:∃ (o:Int) (ds:List Int),(o=0\/o=1)/\w'.ownsRow base 85 1 (.slice (some ⟨g,0,none⟩) n cap) n (nums .u32 ds)/\Dg 4294967296 ds/\ds.length=xs.length /\
   val 4294967296 ds=val 4294967296 xs+pw 4294967296 i*val 4294967296 lv - pw 4294967296 (i+lv.length+1)*o/\(∀ j,i+lv.length+1<=j->ds.getD j 0=xs.getD j 0)
 kept:Kept w w' (fun k=>k=g)
 low:Below g w w'
theorem Zqi (base g i n cap:Nat) (xs:List Int) (A1:Option Addr) (c1:Nat) (lv:List Int) (w:World) (hrow:w.ownsRow base 85 1 (.slice (some ⟨g,0,none⟩) n cap) n (nums .u32 xs)) (hbg:g < w.heap.size) (hx:Dg 4294967296 xs) (hr1:Kd.C (Kd.int .u32) w A1 lv.length lv) (hc1:lv.length<=c1) (hv:Dg 4294967296 lv)
  (hne:∀ ad,A1=some ad->lv.length=0\/ad.block ≠ g) (hi:i+lv.length < n) (hn:n<=cap) (hz:n<=2000000) :
  Calls Tryz.prog 161 #[.slice (some ⟨g,i,none⟩) (n - i) (cap - i),.slice A1 lv.length c1] w fun e w'=>e=.returned (.tuple #[])/\PutR base g i n cap xs lv w w':=by
 have hlx:xs.length=n:=by have := hrow.1;simpa [nums] using this
 have e1:=Zft hr1
 have HR:=Aside0.mk e1
 have HN:=Aside0.mk hne
 have HRow:=Aside0.mk hrow
 clear hr1 hne hrow e1
 obtain ⟨m,hm⟩:∃ m:Int,(lv.length:Int)=m:=⟨_,rfl⟩
 have HM:=Aside0.mk hm
 obtain ⟨L,hL⟩:∃ L,n - i=L:=⟨_,rfl⟩
 obtain ⟨C2,hC2⟩:∃ C2,cap - i=C2:=⟨_,rfl⟩
 rw [hL,hC2]
 go_enter Tryz.func161,Tryz.ntmps161
 go_wp2
 go_loopg [4,9] (lv.length+1) (fun kq v4 v9 w' => ∃ (x4 x9:Int) (ds:List Int),v4=.int .u32 x4/\v9=.int .i64 x9/\Aside0 (0<=x9/\x9<=lv.length)/\Aside0 (PutAt xs lv i x9.toNat x4 ds)/\Aside0 (w'.ownsRow base 85 1 (.slice (some ⟨g,0,none⟩) n cap) n (nums .u32 ds))/\Aside0 (Kept w w' (fun k=>k=g))/\Aside0 (Below g w w')/\Aside0 (kq+x9.toNat=lv.length+1))
 case atStart=>exact ⟨0,0,xs,rfl,rfl,⟨by omega⟩,⟨PutAt.start hx⟩,HRow,⟨Kept.refl _ _⟩,⟨Below.refl _ _⟩,⟨rfl⟩⟩
 case round =>
  obtain ⟨x4,x9,ds,rfl,rfl,HX,HO,HW,HKp,HB,HK⟩:=hrel
  obtain ⟨hx0,hx1⟩:=HX.out
  have hds:ds.length=n:=HO.out.len.trans hlx
  have hb4:=HO.out.c01
  have hct:x9.toNat<=lv.length:=by omega
  have hcell:=Zfe HW.out ((i+x9.toNat:Nat):Int) (by omega) (by omega)
  rw [Int.toNat_natCast] at hcell
  obtain ⟨u,hu⟩:∃ u,rd ds ((i+x9.toNat:Nat):Int)=u:=⟨_,rfl⟩
  rw [hu] at hcell
  obtain ⟨hcu,hfu⟩:=hcell
  have hug:ds.getD (i+x9.toNat) 0=u:=by rw [<- hu];unfold rd;rw [Int.toNat_natCast]
  have hur:0<=u/\u < 4294967296:=by
   have hin:i+x9.toNat < ds.length:=by omega
   rw [<- hug,List.getD,List.getElem?_eq_getElem hin]
   exact HO.out.dg _ (List.getElem_mem hin)
  by_cases hlt:x9 < lv.length
  ·have hltn:x9.toNat < lv.length:=by omega
   obtain ⟨b1,o1,y,hA,hcy,hy⟩:=HR.out.at hltn
   subst hA
   have hb1:b1 ≠ g:=by
    rcases HN.out _ rfl with h|h
    ·omega
    ·exact h
   have hcyW:=(World.cell?_of_block (a:=⟨b1,o1+x9.toNat,none⟩) (HKp.out.2 b1 (World.block_lt_of_cell? w _ hcy) hb1)).trans hcy
   have hyr:0<=y/\y < 4294967296:=by
    rw [hy,List.getD,List.getElem?_eq_getElem hltn]
    exact hv _ (List.getElem_mem hltn)
   have hst:=HO.out.step hv hltn (by omega)
   rw [hug,<- hy] at hst
   have cA:=fun W:World=>Zch.calls u y x4 _ _ W (Zrm u y x4 hur.1 hur.2 hyr.1 hyr.2 hb4)
   obtain ⟨d,hd⟩:∃ d,(u+y+x4) % 4294967296=d:=⟨_,rfl⟩
   obtain ⟨cw,hcw⟩:∃ cw,(u+y+x4) / 4294967296=cw:=⟨_,rfl⟩
   rw [hd,hcw] at hst cA
   have d1:decide (x9 < m)=true:=decide_eq_true (by omega)
   have p1:=eq_true hx0
   have p2:=eq_true hlt
   have p4:=eq_true (show x9 < m by omega)
   have p3:=eq_true (show x9 < (L:Int) by omega)
   have w1:IntKind.i64.wrap (x9+1)=x9+1:=by rw [IntKind.wrap_i64];omega
   have HST:=Aside0.mk hst
   have HXR:=Aside0.mk (show i+x9.toNat < n/\ds.length=n/\L=n - i from ⟨by omega,hds,hL.symm⟩)
   clear hst hur hyr hd hcw hy hug hu hcy hb4 HO
   go_wp2_with (go_at_call 164;(with_reducible refine (cA _).mono ?_);rintro e w' ⟨rfl,⟨nq,rfl⟩⟩)
   go_roundg (gk - 1)
   case measure=>have := HK.out;omega
   case rel =>
    have hst1:=Zey (W:=wr.drewN nq) HW.out ((i+x9.toNat:Nat):Int) d
    rw [Int.toNat_natCast] at hst1
    have e5:(x9+1).toNat=x9.toNat+1:=by omega
    refine ⟨cw,x9+1,ds.set (i+x9.toNat) d,rfl,rfl,⟨by omega⟩,⟨by rw [e5];exact HST.out⟩,⟨hst1.1⟩,⟨⟨?_,fun k h1 h2=>(Below.heap_setCell _ ⟨g,i+x9.toNat,none⟩ _ k h2).trans (HKp.out.2 k h1 h2)⟩⟩,⟨(Zay HB.out nq).setCell (p:=⟨g,i+x9.toNat,none⟩) (Nat.le_refl _) _⟩,⟨by have := HK.out;rw [e5];omega⟩⟩
    have := HKp.out.1
    simpa using this
  ·obtain rfl:x9=m:=by omega
   have hxm:x9.toNat=lv.length:=by omega
   have hst:=HO.out
   rw [hxm] at hst
   obtain ⟨o,ho,hfin⟩:=hst.done (by omega)
   rw [<- hxm,hug] at hfin
   obtain ⟨d,hd⟩:∃ d,(u+x4) % 4294967296=d:=⟨_,rfl⟩
   rw [hd] at hfin
   have d1:decide (x9 < x9)=false:=decide_eq_false (by omega)
   have p1:=eq_true hx0
   have p3:=eq_true (show x9 < (L:Int) by omega)
   have HFin:=Aside0.mk hfin
   have HOo:=Aside0.mk ho
   have HXM:=Aside0.mk hxm
   have HDS:=Aside0.mk (hds.trans hlx.symm)
   clear hst hfin ho hur hug hu hb4 HO hxm hds hct
   go_wp2
   refine ⟨rfl,.tuple #[],by simp [results,Tryz.f161,go_sem],rfl,?_,?_,?_⟩
   ·have hst1:=Zey (W:=wr) HW.out ((i+x9.toNat:Nat):Int) d
    rw [Int.toNat_natCast] at hst1
    have hf:=HFin.out
    rw [HXM.out] at hf hst1
    exact ⟨o,_,HOo.out,by rw [HXM.out];exact hst1.1,hf.1,by rw [List.length_set];exact HDS.out,hf.2.1,hf.2.2⟩
   ·refine ⟨?_,fun k h1 h2=>(Below.heap_setCell _ ⟨g,i+x9.toNat,none⟩ _ k h2).trans (HKp.out.2 k h1 h2)⟩
    have := HKp.out.1
    simpa using this
   ·exact HB.out.setCell (p:=⟨g,i+x9.toNat,none⟩) (Nat.le_refl _) _
end YtjbjkmccfocikaaGreatDoor.B
end
section
namespace YtjbjkmccfocikaaGreatDoor.P.Nm
abbrev LB:Int:=4294967296
theorem pwB (k:Nat):pw LB k=((4294967296 ^ k:Nat):Int):=Zff 4294967296 k
theorem Zfh {b:Int} (l:List Int) (j:Nat) (h:j<=l.length):val b l=val b (l.take j)+pw b j*val b (l.drop j):=by
 conv=>lhs;rw [<- List.take_append_drop j l]
 rw [Zf5,List.length_take,Nat.min_eq_left h]
theorem drop_one {l:List Int} {i:Nat} (h:i < l.length):l.drop i=l.getD i 0 :: l.drop (i+1):=by
 rw [List.getD,List.getElem?_eq_getElem h];exact List.drop_eq_getElem_cons h
theorem Zf6 {b:Int}:∀ {l:List Int} {k:Nat},(∀ j,k<=j->l.getD j 0=0)->val b (l.drop k)=0
 | l,k,h=>by
  have key:∀ m:List Int,(∀ x ∈ m,x=0)->val b m=0:=fun m=>by
   induction m with
   | nil=>intro _;rfl
   | cons x m ih =>
    intro hm
    rw [Zb1,hm x List.mem_cons_self,ih (fun y hy=>hm y (List.mem_cons_of_mem _ hy))]
    simp
  refine key _ (fun x hx=>?_)
  obtain ⟨j,hj⟩:=List.mem_iff_getElem?.1 hx
  rw [List.getElem?_drop] at hj
  have := h (k+j) (by omega)
  rw [List.getD,hj] at this
  exact this
theorem Zkx {l:List Int} {k:Nat} (hd:Dg LB l) (hv:val LB l < pw LB k):∀ j,k<=j->l.getD j 0=0:=fun j hj=>by
 by_cases h:j < l.length
 ·have h1:=Zfh (b:=LB) l j (by omega)
  rw [drop_one h,Zb1] at h1
  have h2:=Zbq (b:=LB) (by decide) (hd.take j)
  have h3:=Zbq (b:=LB) (by decide) (hd.drop (j+1))
  have h4:=hd (l.getD j 0) (by rw [List.getD,List.getElem?_eq_getElem h];exact List.getElem_mem h)
  have h5:=Zo5 (b:=LB) (by decide) hj
  have h6:=Zen (b:=LB) (by decide) j
  rcases Int.lt_or_le 0 (l.getD j 0) with h7|h7
  ·exfalso
   have h8:=Int.mul_le_mul_of_nonneg_left (show 1<=l.getD j 0+LB*val LB (l.drop (j+1)) by
    have := Int.mul_nonneg (show (0:Int)<=LB by decide) h3
    omega) (Int.le_of_lt h6)
   omega
  ·omega
 ·rw [List.getD,List.getElem?_eq_none (by omega)];rfl
structure DivAt (U V:List Int) (m j:Nat) (ds qs:List Int):Prop where
 len:ds.length=U.length
 dg:Dg LB ds
 qlen:qs.length=m
 qdg:Dg LB qs
 qlo:∀ i,i < j->qs.getD i 0=0
 law:val LB U=val LB ds+val LB qs*val LB V
 low:val LB ds < pw LB j*val LB V
structure DivOk (U V:List Int) (m:Nat):Prop where
 ud:Dg LB U
 vd:Dg LB V
 ulen:U.length=m+V.length
 vlen:2<=V.length
 top:2147483648<=V.getD (V.length - 1) 0
 start:val LB U < pw LB m*val LB V
theorem DivAt.start {U V:List Int} {m:Nat} (h:DivOk U V m):DivAt U V m m U (List.replicate m 0) :=
 ⟨rfl,h.ud,by simp,Dg.zeros (by decide) _,fun i hi=>by simp [List.getD,List.getElem?_replicate,hi],by rw [Zfi];omega,h.start⟩
theorem DivAt.vpos {U V:List Int} {m:Nat} (h:DivOk U V m):0 < val LB V/\val LB V < pw LB V.length:=by
 have hl:=h.vlen
 have h1:=Zfh (b:=LB) V (V.length - 1) (by omega)
 rw [drop_one (by omega),Zb1,List.drop_of_length_le (by omega),Zes] at h1
 have h2:=Zbq (b:=LB) (by decide) (h.vd.take (V.length - 1))
 have h3:=Zen (b:=LB) (by decide) (V.length - 1)
 have h4:=Int.mul_le_mul_of_nonneg_left (show 1<=V.getD (V.length - 1) 0+LB*0 by have := h.top;omega) (Int.le_of_lt h3)
 exact ⟨by omega,Zds (by decide) h.vd⟩
structure Digit (U V:List Int) (i:Nat) (ds:List Int) (g q:Int):Prop where
 q0:0<=q
 q1:q < LB
 g0:0<=g
 g1:g < LB
 ge:q<=g
 le:g<=q+1
 lo:pw LB i*(q*val LB V)<=val LB ds
 hi:val LB ds < pw LB i*((q+1)*val LB V)
theorem top3 {l:List Int} {k:Nat} (h:k+2 < l.length) (hz:∀ j,k+3<=j->l.getD j 0=0):val LB l=val LB (l.take k)+pw LB k*(l.getD k 0+LB*(l.getD (k+1) 0+LB*l.getD (k+2) 0)):=by
 rw [Zfh l k (by omega),drop_one (show k < l.length by omega),Zb1,drop_one (show k+1 < l.length by omega),Zb1,drop_one (show k+1+1 < l.length by omega),Zb1,Zf6 (k:=k+1+1+1) hz]
 simp
theorem top2 {l:List Int} {k:Nat} (h:k+2=l.length):val LB l=val LB (l.take k)+pw LB k*(l.getD k 0+LB*l.getD (k+1) 0):=by
 rw [Zfh l k (by omega),drop_one (show k < l.length by omega),Zb1,drop_one (show k+1 < l.length by omega),Zb1,List.drop_of_length_le (by omega),Zes]
 simp
theorem Zep {l:List Int} (h:Dg LB l) (k:Nat):0<=l.getD k 0/\l.getD k 0 < LB:=by
 by_cases hk:k < l.length
 ·rw [List.getD,List.getElem?_eq_getElem hk];exact h _ (List.getElem_mem hk)
 ·rw [List.getD,List.getElem?_eq_none (by omega)];exact ⟨Int.le_refl _,by decide⟩
theorem DivAt.digit {U V:List Int} {m i:Nat} {ds qs:List Int} (h:DivAt U V m (i+1) ds qs) (ok:DivOk U V m) (hi:i < m) :
  ds.getD (i+V.length) 0<=V.getD (V.length - 1) 0 /\
  ∃ q,Digit U V i ds (min ((((ds.getD (i+V.length) 0)*LB+ds.getD (i+V.length - 1) 0)*LB+ds.getD (i+V.length - 2) 0) / (V.getD (V.length - 1) 0*LB+V.getD (V.length - 2) 0)) 4294967295) q:=by
 obtain ⟨vp,vl⟩:=DivAt.vpos ok
 have hvl:=ok.vlen
 obtain ⟨n,hn⟩:∃ n,V.length=n+2:=⟨V.length - 2,by omega⟩
 have hlen:i+n+2 < ds.length:=by rw [h.len,ok.ulen];omega
 have hz:∀ j,i+n+3<=j->ds.getD j 0=0:=Zkx h.dg (by
  refine Int.lt_of_lt_of_le h.low ?_
  rw [show i+n+3=(i+1)+(n+2) by omega,Zfx LB (i+1) (n+2),<- hn]
  exact Int.mul_le_mul_of_nonneg_left (Int.le_of_lt vl) (Int.le_of_lt (Zen (b:=LB) (by decide) _)))
 have eD:=top3 (l:=ds) (k:=i+n) hlen hz
 have eV:=top2 (l:=V) (k:=n) hn.symm
 rw [hn]
 rw [show i+(n+2)=i+n+2 by omega,show i+n+2 - 1=i+n+1 by omega,show i+n+2 - 2=i+n by omega,show n+2 - 1=n+1 by omega,show n+2 - 2=n by omega]
 have d2:=Zep h.dg (i+n+2)
 have d1:=Zep h.dg (i+n+1)
 have d0:=Zep h.dg (i+n)
 have v1:=Zep ok.vd (n+1)
 have v0:=Zep ok.vd n
 have ht:=ok.top
 rw [hn,show n+2 - 1=n+1 by omega] at ht
 have hlow:=h.low
 obtain ⟨D,hD⟩:∃ D,val LB ds=D:=⟨_,rfl⟩
 obtain ⟨W,hW⟩:∃ W,val LB V=W:=⟨_,rfl⟩
 rw [hD] at eD hlow
 rw [hW] at eV hlow vp vl
 have t0:=Zbq (b:=LB) (by decide) (h.dg.take (i+n))
 have t1:=Zds (b:=LB) (by decide) (h.dg.take (i+n))
 rw [List.length_take,Nat.min_eq_left (by omega)] at t1
 have s0:=Zbq (b:=LB) (by decide) (ok.vd.take n)
 have s1:=Zds (b:=LB) (by decide) (ok.vd.take n)
 rw [List.length_take,Nat.min_eq_left (by omega)] at s1
 obtain ⟨x2,hx2⟩:∃ x,ds.getD (i+n+2) 0=x:=⟨_,rfl⟩
 obtain ⟨x1,hx1⟩:∃ x,ds.getD (i+n+1) 0=x:=⟨_,rfl⟩
 obtain ⟨x0,hx0⟩:∃ x,ds.getD (i+n) 0=x:=⟨_,rfl⟩
 obtain ⟨y1,hy1⟩:∃ x,V.getD (n+1) 0=x:=⟨_,rfl⟩
 obtain ⟨y0,hy0⟩:∃ x,V.getD n 0=x:=⟨_,rfl⟩
 rw [hx2,hx1,hx0] at eD
 rw [hy1,hy0] at eV
 rw [hx2] at d2 ⊢
 rw [hx1] at d1 ⊢
 rw [hx0] at d0 ⊢
 rw [hy1] at v1 ht ⊢
 rw [hy0] at v0 ⊢
 obtain ⟨u3,hu3⟩:∃ u3,(x2*LB+x1)*LB+x0=u3:=⟨_,rfl⟩
 obtain ⟨v2,hv2⟩:∃ v2,y1*LB+y0=v2:=⟨_,rfl⟩
 rw [hu3,hv2]
 have hB:LB=4294967296:=rfl
 have eu:x0+LB*(x1+LB*x2)=u3:=by rw [<- hu3,hB];omega
 have ev:y0+LB*y1=v2:=by rw [<- hv2,hB];omega
 rw [eu] at eD
 rw [ev] at eV
 have pi:=Zen (b:=LB) (by decide) i
 have pn:=Zen (b:=LB) (by decide) n
 have ein:pw LB (i+n)=pw LB i*pw LB n:=Zfx _ _ _
 obtain ⟨Y,hY⟩:∃ Y,D / pw LB i=Y:=⟨_,rfl⟩
 obtain ⟨r,hr⟩:∃ r,D % pw LB i=r:=⟨_,rfl⟩
 have hdm:D=pw LB i*Y+r:=by rw [<- hY,<- hr];exact (Int.mul_ediv_add_emod D (pw LB i)).symm
 have hr0:0<=r:=by rw [<- hr];exact Int.emod_nonneg _ (by omega)
 have hr1:r < pw LB i:=by rw [<- hr];exact Int.emod_lt_of_pos _ pi
 have hYlo:u3*pw LB n<=Y:=by
  refine Int.not_lt.1 (fun hc=>?_)
  have h1:=Int.mul_le_mul_of_nonneg_left (show Y+1<=u3*pw LB n by omega) (Int.le_of_lt pi)
  rw [Int.mul_add,Int.mul_one,Int.mul_left_comm (pw LB i) u3,<- ein,Int.mul_comm u3] at h1
  omega
 have hYhi:Y < (u3+1)*pw LB n:=by
  refine Int.not_le.1 (fun hc=>?_)
  have h1:=Int.mul_le_mul_of_nonneg_left hc (Int.le_of_lt pi)
  rw [Int.mul_left_comm (pw LB i) (u3+1),<- ein,Int.add_mul,Int.one_mul,Int.mul_comm u3] at h1
  omega
 have hVlo:v2*pw LB n<=W:=by rw [eV,Int.mul_comm];omega
 have hVhi:W < (v2+1)*pw LB n:=by rw [eV,Int.add_mul,Int.mul_comm v2];omega
 have hYW:Y < LB*W:=by
  refine Int.not_le.1 (fun hc=>?_)
  have h1:=Int.mul_le_mul_of_nonneg_left hc (Int.le_of_lt pi)
  rw [Zd1,Int.mul_comm LB,Int.mul_assoc] at hlow
  omega
 have hx2y:x2<=y1:=by
  refine Int.not_lt.1 (fun hc=>?_)
  have h1:LB*(v2+1)<=u3:=by rw [<- hv2,<- hu3,hB];omega
  have h2:LB*W < LB*((v2+1)*pw LB n):=Int.mul_lt_mul_of_pos_left hVhi (by decide)
  have h3:=Int.mul_le_mul_of_nonneg_right h1 (Int.le_of_lt pn)
  rw [Int.mul_assoc] at h3
  omega
 refine ⟨hx2y,Y / W,?_⟩
 have hY0:0<=Y:=by
  have hu0:0<=u3:=by rw [<- hu3,hB];omega
  exact Int.le_trans (Int.mul_nonneg hu0 (Int.le_of_lt pn)) hYlo
 obtain ⟨q,hq⟩:∃ q,Y / W=q:=⟨_,rfl⟩
 rw [hq]
 have hq0:0<=q:=by rw [<- hq];exact Int.ediv_nonneg hY0 (Int.le_of_lt vp)
 have hq1:q < LB:=by rw [<- hq];exact Int.ediv_lt_of_lt_mul vp hYW
 have hqlo:q*W<=Y:=by rw [<- hq];exact Int.ediv_mul_le _ (by omega)
 have hqhi:Y < (q+1)*W:=by
  have := Int.lt_ediv_add_one_mul_self Y vp
  rwa [hq] at this
 have hv2pos:0 < v2:=by rw [<- hv2,hB];omega
 have hg0:0<=u3 / v2:=Int.ediv_nonneg (by rw [<- hu3,hB];omega) (Int.le_of_lt hv2pos)
 have hg1:u3 / v2*v2<=u3:=Int.ediv_mul_le _ (by omega)
 have l1:=Zoe pn hYhi hVlo hq0 hqlo
 have l2:q<=u3 / v2:=(Int.le_ediv_iff_mul_le hv2pos).2 l1
 have l3:=Zm1 pn hYlo hVhi (g:=u3 / v2) hg1 hqhi hq0 (by rw [<- hv2,hB];rw [hB] at hq1;omega)
 obtain ⟨g,hg⟩:∃ g,u3 / v2=g:=⟨_,rfl⟩
 rw [hg] at hg0 l2 l3 ⊢
 refine ⟨hq0,hq1,by omega,by rw [hB];omega,by rw [hB] at hq1;omega,by omega,?_,?_⟩
 ·rw [hD,hW]
  have := Int.mul_le_mul_of_nonneg_left hqlo (Int.le_of_lt pi)
  omega
 ·rw [hD,hW]
  have := Int.mul_le_mul_of_nonneg_left (show Y+1<=(q+1)*W by omega) (Int.le_of_lt pi)
  rw [Int.mul_add,Int.mul_one] at this
  omega
theorem Digit.off {U V:List Int} {m i:Nat} {ds ds':List Int} {g q b:Int} (h:Digit U V i ds g q) (ok:DivOk U V m) (hb:b=0\/b=1) (hd:Dg LB ds) (hd':Dg LB ds') (hlen:ds'.length=ds.length)
  (hv:val LB ds'=val LB ds - pw LB i*(g*val LB V)+pw LB (i+V.length+1)*b) (hsame:∀ j,i+V.length+1<=j->ds'.getD j 0=ds.getD j 0) (hlow:val LB ds < pw LB (i+1)*val LB V) :
  (b=0/\g=q/\val LB ds'=val LB ds - pw LB i*(q*val LB V))\/(b=1/\g=q+1/\val LB ds'=val LB ds - pw LB i*(g*val LB V)+pw LB (i+V.length+1)):=by
 obtain ⟨vp,vl⟩:=DivAt.vpos ok
 have hz:∀ j,i+V.length+1<=j->ds.getD j 0=0:=Zkx hd (by
  refine Int.lt_of_lt_of_le hlow ?_
  rw [show i+V.length+1=(i+1)+V.length by omega,Zfx LB (i+1) V.length]
  exact Int.mul_le_mul_of_nonneg_left (Int.le_of_lt vl) (Int.le_of_lt (Zen (b:=LB) (by decide) _)))
 have hup:val LB ds' < pw LB (i+V.length+1):=by
  by_cases hc:i+V.length+1<=ds'.length
  ·rw [Zfh ds' (i+V.length+1) hc,Zf6 (fun j hj=>(hsame j hj).trans (hz j hj)),Int.mul_zero,Int.add_zero]
   have := Zds (b:=LB) (by decide) (hd'.take (i+V.length+1))
   rwa [List.length_take,Nat.min_eq_left hc] at this
  ·exact Int.lt_of_lt_of_le (Zds (by decide) hd') (Zo5 (by decide) (by omega))
 have h0:=Zbq (b:=LB) (by decide) hd'
 have hgq:g=q\/g=q+1:=by have := h.ge;have := h.le;omega
 rcases hgq with rfl|rfl
 ·left
  have := h.lo
  rcases hb with rfl|rfl
  ·exact ⟨rfl,rfl,by rw [hv];omega⟩
  ·exfalso;omega
 ·right
  have := h.hi
  rcases hb with rfl|rfl
  ·exfalso
   rw [Int.mul_zero] at hv;omega
  ·exact ⟨rfl,rfl,by rw [hv];omega⟩
theorem Digit.back {U V:List Int} {m i:Nat} {ds ds' ds2:List Int} {q o:Int} (h:Digit U V i ds (q+1) q) (ok:DivOk U V m) (ho:o=0\/o=1) (hd:Dg LB ds) (hd2:Dg LB ds2)
  (hv:val LB ds'=val LB ds - pw LB i*((q+1)*val LB V)+pw LB (i+V.length+1)) (hv2:val LB ds2=val LB ds'+pw LB i*val LB V - pw LB (i+V.length+1)*o)
  (hsame:∀ j,i+V.length+1<=j->ds'.getD j 0=ds.getD j 0) (hsame2:∀ j,i+V.length+1<=j->ds2.getD j 0=ds'.getD j 0) (hlow:val LB ds < pw LB (i+1)*val LB V) :
  val LB ds2=val LB ds - pw LB i*(q*val LB V):=by
 obtain ⟨vp,vl⟩:=DivAt.vpos ok
 have hz:∀ j,i+V.length+1<=j->ds.getD j 0=0:=Zkx hd (by
  refine Int.lt_of_lt_of_le hlow ?_
  rw [show i+V.length+1=(i+1)+V.length by omega,Zfx LB (i+1) V.length]
  exact Int.mul_le_mul_of_nonneg_left (Int.le_of_lt vl) (Int.le_of_lt (Zen (b:=LB) (by decide) _)))
 have hup:val LB ds2 < pw LB (i+V.length+1):=by
  by_cases hc:i+V.length+1<=ds2.length
  ·rw [Zfh ds2 (i+V.length+1) hc,Zf6 (fun j hj=>(hsame2 j hj).trans ((hsame j hj).trans (hz j hj))),Int.mul_zero,Int.add_zero]
   have := Zds (b:=LB) (by decide) (hd2.take (i+V.length+1))
   rwa [List.length_take,Nat.min_eq_left hc] at this
  ·exact Int.lt_of_lt_of_le (Zds (by decide) hd2) (Zo5 (by decide) (by omega))
 have e:pw LB i*((q+1)*val LB V)=pw LB i*(q*val LB V)+pw LB i*val LB V:=by rw [Int.add_mul,Int.one_mul,Int.mul_add]
 rw [e] at hv
 have := h.lo
 rcases ho with rfl|rfl
 ·exfalso;omega
 ·omega
theorem DivAt.next {U V:List Int} {m i:Nat} {ds ds2 qs:List Int} {g q:Int} (h:DivAt U V m (i+1) ds qs) (ok:DivOk U V m) (hi:i < m) (hq:Digit U V i ds g q) (hlen:ds2.length=ds.length) (hd2:Dg LB ds2)
  (hv:val LB ds2=val LB ds - pw LB i*(q*val LB V)) (hset:val LB (qs.set i q)=val LB qs+pw LB i*(q - qs.getD i 0)) (hg:∀ j,i ≠ j->(qs.set i q).getD j 0=qs.getD j 0):DivAt U V m i ds2 (qs.set i q):=by
 refine ⟨hlen.trans h.len,hd2,by rw [List.length_set];exact h.qlen,fun y hy=>?_,fun j hj=>?_,?_,?_⟩
 ·rcases List.mem_or_eq_of_mem_set hy with hy|rfl
  ·exact h.qdg y hy
  ·exact ⟨hq.q0,hq.q1⟩
 ·rw [hg j (by omega)];exact h.qlo j (by omega)
 ·rw [h.law,hset,h.qlo i (by omega),hv,Int.sub_zero,Int.add_mul,Int.mul_assoc];omega
 ·rw [hv]
  have := hq.hi
  rw [Int.add_mul,Int.one_mul,Int.mul_add] at this
  omega
theorem DivAt.done {U V:List Int} {m:Nat} {ds qs:List Int} (h:DivAt U V m 0 ds qs) (ok:DivOk U V m) {a b P:Nat} (hP:0 < P) (hU:val LB U=((a*P:Nat):Int)) (hV:val LB V=((b*P:Nat):Int)) (hb:0 < b) :
  val LB qs=((a / b:Nat):Int)/\val LB ds=((a % b*P:Nat):Int):=by
 have hl:=h.low
 have hlaw:=h.law
 have d0:=Zbq (b:=LB) (by decide) h.dg
 have q0:=Zbq (b:=LB) (by decide) h.qdg
 obtain ⟨d,hd⟩:∃ d:Nat,val LB ds=d:=⟨(val LB ds).toNat,by omega⟩
 obtain ⟨q,hq⟩:∃ q:Nat,val LB qs=q:=⟨(val LB qs).toNat,by omega⟩
 rw [hd,hV] at hl
 rw [hU,hd,hq,hV] at hlaw
 simp only [pw,Int.one_mul] at hl
 have hl':d < b*P:=Int.ofNat_lt.1 hl
 have hn:a*P=d+q*(b*P):=by
  have:((a*P:Nat):Int)=((d+q*(b*P):Nat):Int):=by rw [hlaw,Int.natCast_add,Int.natCast_mul q]
  exact Int.ofNat.inj this
 have hdv:P ∣ d:=by
  have h1:P ∣ q*(b*P):=Nat.dvd_mul_left_of_dvd (Nat.dvd_mul_left P b) q
  have h2:P ∣ d+q*(b*P):=by rw [<- hn];exact Nat.dvd_mul_left P a
  exact (Nat.dvd_add_iff_left h1).2 h2
 obtain ⟨r,hr⟩:=hdv
 have ha:a=r+q*b:=by
  have:a*P=(r+q*b)*P:=by rw [hn,hr,Nat.add_mul,Nat.mul_comm P r,Nat.mul_assoc]
  exact Nat.eq_of_mul_eq_mul_right hP this
 have hrb:r < b:=by
  rw [hr,Nat.mul_comm P r] at hl'
  exact Nat.lt_of_mul_lt_mul_right hl'
 have e1:a / b=q:=by rw [ha,Nat.add_mul_div_right _ _ hb,Nat.div_eq_of_lt hrb,Nat.zero_add]
 have e2:a % b=r:=by rw [ha,Nat.add_mul_mod_self_right,Nat.mod_eq_of_lt hrb]
 rw [hq,hd,e1,e2,hr,Nat.mul_comm r]
 exact ⟨rfl,rfl⟩
end YtjbjkmccfocikaaGreatDoor.P.Nm
end
section
namespace YtjbjkmccfocikaaGreatDoor.P.Nm
open Go.Lib
theorem Zjp:∀ (f x:Nat),x<=f->x ≠ 0->x < 2 ^ 64->1<=Lib.bitLen x/\2 ^ (Lib.bitLen x - 1)<=x/\x < 2 ^ Lib.bitLen x
 | 0,x,hf,h0,h=>by omega
 | f+1,x,hf,h0,h=>by
  rw [Lib.bitLen_half x h0 h]
  by_cases h1:x / 2=0
  ·rw [h1]
   have e:Lib.bitLen 0=0:=by decide
   rw [e]
   have:x=1:=by omega
   subst this
   decide
  ·obtain ⟨a1,a2,a3⟩:=Zjp f (x / 2) (by omega) h1 (by omega)
   obtain ⟨m,hm⟩:∃ m,Lib.bitLen (x / 2)=m+1:=⟨Lib.bitLen (x / 2) - 1,by omega⟩
   rw [hm] at a2 a3 ⊢
   refine ⟨by omega,?_,?_⟩
   ·rw [show 1+(m+1) - 1=m+1 by omega,Nat.pow_succ]
    rw [show m+1 - 1=m by omega] at a2
    omega
   ·rw [show 1+(m+1)=m+1+1 by omega,Nat.pow_succ];omega
theorem Zl8 {x s:Nat} (h0:x ≠ 0) (h:x < 4294967296) (hs:(s:Int)=32 - (Lib.bitLen x:Int)):s < 32/\2147483648<=x*2 ^ s/\(x+1)*2 ^ s<=4294967296:=by
 obtain ⟨b1,b2,b3⟩:=Zjp x x (Nat.le_refl _) h0 (by omega)
 have b4:=Lib.bitLen_le x 32 (by omega) (by simpa using h)
 obtain ⟨m,hm⟩:∃ m,Lib.bitLen x=m+1:=⟨Lib.bitLen x - 1,by omega⟩
 rw [hm] at b2 b3 hs b4
 rw [show m+1 - 1=m by omega] at b2
 have hsm:m+s=31:=by omega
 refine ⟨by omega,?_,?_⟩
 ·have h1:=Nat.mul_le_mul_right (2 ^ s) b2
  rw [<- Nat.pow_add,hsm] at h1
  exact Nat.le_trans (by decide) h1
 ·have h1:=Nat.mul_le_mul_right (2 ^ s) (show x+1<=2 ^ (m+1) by omega)
  rw [<- Nat.pow_add,show m+1+s=32 by omega] at h1
  exact Nat.le_trans h1 (by decide)
theorem numB {l:List Int} (h:Dg LB l):val LB l=((num l:Nat):Int):=(Zc9 h).symm
theorem Zq5 {b:List Int} (hb:OkW b) (hne:b ≠ []):4294967296 ^ (b.length - 1)<=num b:=by
 have h:=Zl9 (b:=LB) (by decide) hb.dg hb.nz hne
 rw [pwB,numB hb.dg] at h
 exact Int.ofNat_le.1 h
theorem Zr9 {a b:List Int} (ha:OkW a) (hb:OkW b) (h2:2<=b.length) (hle:num b<=num a) (hab:b.length<=a.length) {U:List Int} {s x:Nat} (hx:b.getD (b.length - 1) 0=(x:Int)) (hx0:x ≠ 0) (hx1:x < 4294967296) (hs:(s:Int)=32 - (Lib.bitLen x:Int)) (hU:U.length=a.length+1) (hUd:Dg LB U) (hUv:val LB U=val LB a*((2 ^ s:Nat):Int)) :
  DivOk U (limbs (num b*2 ^ s)) (a.length+1 - b.length)/\(limbs (num b*2 ^ s)).length=b.length:=by
 obtain ⟨s1,s2,s3⟩:=Zl8 hx0 hx1 hs
 obtain ⟨P,hP⟩:∃ P,2 ^ s=P:=⟨_,rfl⟩
 rw [hP] at s2 s3 hUv ⊢
 have hP0:0 < P:=by rw [<- hP];exact Nat.pow_pos (by omega)
 obtain ⟨n,hn⟩:∃ n,b.length=n+1:=⟨b.length - 1,by omega⟩
 have hbv:=Zfh (b:=LB) b n (by omega)
 rw [drop_one (by omega),Zb1,List.drop_of_length_le (by omega),Zes,Int.mul_zero,Int.add_zero,show n=b.length - 1 by omega,hx,<- show n=b.length - 1 by omega,numB hb.dg,pwB] at hbv
 have t0:=Zbq (b:=LB) (by decide) (hb.dg.take n)
 have t1:=Zds (b:=LB) (by decide) (hb.dg.take n)
 rw [List.length_take,Nat.min_eq_left (by omega),pwB] at t1
 obtain ⟨r,hr⟩:∃ r:Nat,val LB (b.take n)=r:=⟨(val LB (b.take n)).toNat,by omega⟩
 rw [hr] at hbv t1
 obtain ⟨Q,hQ⟩:∃ Q,4294967296 ^ n=Q:=⟨_,rfl⟩
 rw [hQ] at hbv t1
 have hnb:num b=r+Q*x:=by
  have:((num b:Nat):Int)=((r+Q*x:Nat):Int):=by rw [hbv,Int.natCast_add,Int.natCast_mul]
  exact Int.ofNat.inj this
 have hrQ:r < Q:=Int.ofNat_lt.1 t1
 have hQ0:0 < Q:=by rw [<- hQ];exact Nat.pow_pos (by omega)
 have hup:num b*P < Q*4294967296:=by
  have h1:num b+1<=Q*(x+1):=by rw [hnb,Nat.mul_add];omega
  have h2:=Nat.mul_le_mul_right P h1
  rw [Nat.mul_assoc] at h2
  have h3:=Nat.mul_le_mul_left Q s3
  have h4:=Nat.mul_lt_mul_of_pos_right (show num b < num b+1 by omega) hP0
  omega
 have hlo:Q*2147483648<=num b*P:=by
  have h1:=Nat.mul_le_mul_left Q s2
  have h2:Q*(x*P)<=num b*P:=by rw [hnb,Nat.add_mul,Nat.mul_assoc];omega
  omega
 have hlen:(limbs (num b*P)).length=b.length:=by
  rw [hn]
  refine Zot (b:=4294967296) (by omega) (k:=n) ?_ ?_
  ·rw [hQ];exact Nat.le_trans (Nat.le_mul_of_pos_right Q (by omega)) hlo
  ·rw [Nat.pow_succ,hQ];exact hup
 have hVv:val LB (limbs (num b*P))=((num b*P:Nat):Int):=Zgd _
 refine ⟨⟨hUd,Zc3 _,by rw [hU,hlen];omega,by rw [hlen];exact h2,?_,?_⟩,hlen⟩
 ·-- the highest place
  have hcut:=Zfh (b:=LB) (limbs (num b*P)) n (by omega)
  rw [drop_one (by omega),Zb1,List.drop_of_length_le (by omega),Zes,Int.mul_zero,Int.add_zero,hVv,pwB,hQ] at hcut
  have u1:=Zds (b:=LB) (by decide) ((Zc3 (num b*P)).take n)
  rw [List.length_take,Nat.min_eq_left (by omega),pwB,hQ] at u1
  rw [hlen,hn,show n+1 - 1=n by omega]
  obtain ⟨t,ht⟩:∃ t,(limbs (num b*P)).getD n 0=t:=⟨_,rfl⟩
  rw [ht] at hcut ⊢
  refine Int.not_lt.1 (fun hc=>?_)
  have h3:=Int.mul_le_mul_of_nonneg_left (show t<=2147483647 by omega) (show (0:Int)<=(Q:Int) by omega)
  have h4:((Q*2147483648:Nat):Int)<=((num b*P:Nat):Int):=Int.ofNat_le.2 hlo
  rw [Int.natCast_mul] at h4
  omega
 ·rw [hUv,hVv,pwB,numB ha.dg]
  have h1:num a < 4294967296 ^ a.length:=Zoq ha.dg
  have h2:Q*P<=num b*P:=by
   have := Zq5 hb (by intro e;rw [e] at h2;simp at h2)
   rw [hn,show n+1 - 1=n by omega,hQ] at this
   exact Nat.mul_le_mul_right P this
  have h3:4294967296 ^ (a.length+1 - b.length)*(Q*P)=4294967296 ^ a.length*P:=by
   rw [<- Nat.mul_assoc,<- hQ,<- Nat.pow_add]
   congr 2;omega
  have h4:=Nat.mul_le_mul_left (4294967296 ^ (a.length+1 - b.length)) h2
  have h5:=Nat.mul_lt_mul_of_pos_right h1 hP0
  have:num a*P < 4294967296 ^ (a.length+1 - b.length)*(num b*P):=by omega
  have h6:=Int.ofNat_lt.2 this
  rw [Int.natCast_mul,Int.natCast_mul] at h6
  exact h6
end YtjbjkmccfocikaaGreatDoor.P.Nm
end
section
namespace YtjbjkmccfocikaaGreatDoor.B
open Go.RowKit YtjbjkmccfocikaaGreatDoorW.PrintWords YtjbjkmccfocikaaGreatDoor.P.Nm
attribute [local go_sem] Oper.semAt_some
theorem Zp0 (A0:Option Addr) (c0:Nat) (l0:List Int) (A1:Option Addr) (c1:Nat) (l1:List Int) (w:World) (hr0:Kd.C (Kd.int .u32) w A0 l0.length l0) (hc0:l0.length<=c0) (hr1:Kd.C (Kd.int .u32) w A1 l1.length l1) (hc1:l1.length<=c1)
  (h0:OkW l0) (h1:OkW l1) (hlt:num l0 < num l1) :
  Calls Tryz.prog 127 #[.slice A0 l0.length c0,.slice A1 l1.length c1] w fun e w' => ∃ v0_ v1_:Value,e=.returned (.tuple #[v0_,v1_])/\Kd.R (Kd.int .u32) 85 w' w.heap.size (fun k_=>some k_ ≠ (v1_:Value).ownBlock) v0_ []/\Kd.R (Kd.int .u32) 85 w' w.heap.size (fun k_=>some k_ ≠ (v0_:Value).ownBlock) v1_ l0/\Below w.heap.size w w':=by
 have cC:=Zax.calls A0 c0 l0 A1 c1 l1 (-1) w hr0 hc0 hr1 hc1 (by
  unfold Zax.f
  rw [Zd9.2 h0,Zd9.2 h1,Bool.and_self,if_pos rfl]
  unfold cmpI;rw [if_pos (by omega)])
 have hl0:=h0.len
 have HR:=Aside0.mk hr0
 have HC:=Aside0.mk hc0
 refine (callsIn_wide (n:=4)).1 ?_
 refine callsIn_of_wp_marks Tryz.func127 rfl trivial ?_ rfl
 simp only [Tryz.ntmps127,List.size_toArray,List.length_cons,List.length_nil,Nat.reduceAdd,Nat.reduceSub,Array.replicate_succ,Array.replicate_zero,List.push_toArray,List.append_toArray,List.nil_append,List.cons_append]
 clear hr0 hc0 hr1 hc1 hlt h0 h1
 have cl:=fun (W:World) (hB:Below w.heap.size w W)=>Zdf.calls A0 c0 l0 l0 W (Kd.Zx HR.out hB) HC.out (by unfold Zdf.f;rw [if_pos (by omega)])
 have CL:=Aside0.mk cl
 clear cl
 gi_wp2_with (first|(refine ⟨trivial,?_⟩;gi_at_call 138;refine (callsIn_wide.2 cC).mono ?_;rintro e w1 ⟨rfl,hb1⟩)|(refine ⟨trivial,?_⟩;gi_at_call 155;refine (callsIn_wide.2 (CL.out _ hb1)).mono ?_;rintro e w2 ⟨v1,rfl,hR,hb2⟩))
 refine ⟨_,by simp [results,Tryz.f127,go_sem],.slice none 0 0,v1,rfl,Kd.Zjj _ _ _ _ _,?_,hb1.trans (hb2.mono hb1.size)⟩
 exact Kd.Zi (Kd.Zq hR hb1.size) (fun k hk=>by simp [Value.ownBlock])
theorem Zr4 (w:World) (r:Nat):Kd.R (Kd.int .u32) 85 (w.alloc (.cells #[.int .u32 (r:Int)] 85)) w.heap.size (fun k=>k=w.heap.size) (.slice (some ⟨w.heap.size,0,none⟩) 1 1) [(r:Int)] :=
 Kd.Zdd (enc:=Value.int .u32) (World.ownsRow_lit (base:=w.heap.size) (e:=85) (size:=1) w #[.int .u32 (r:Int)] 1 (Nat.le_refl _) (by decide) rfl) (fun k hk=>by simp [Value.ownBlock] at hk;exact hk.symm)
theorem Zex {W:World} {b base n:Nat} {e:TypeId} {size:Nat} {v:Value} {xs:List Value} (h:W.ownsRow b e size v n xs) (hle:base<=b):W.ownsRow base e size v n xs:=by
 obtain ⟨h1,h2⟩:=h
 refine ⟨h1,?_⟩
 rcases h2 with h2|⟨g,cap,cur,h3,h4,h5⟩
 ·exact .inl h2
 ·exact .inr ⟨g,cap,cur,h3,Nat.le_trans hle h4,h5⟩
theorem Zhn {W W':World} {base base' n:Nat} {e:TypeId} {size:Nat} {v v':Value} {xs:List Value} {l:List Int} {e':TypeId} {ok:Nat->Prop} (h:W.ownsRow base e size v n xs) (h':Kd.R (Kd.int .u32) e' W' base' ok v' l) (hok:∀ k,ok k->W.heap.size<=k) {k:Nat} (hk:v.ownBlock=some k) (hk':v'.ownBlock=some k):False:=by
 obtain ⟨cells,hc⟩:=Zez h k hk
 have h1:=(Array.getElem?_eq_some_iff.1 hc).1
 have h2:=hok k (h'.1 k hk')
 omega
theorem Ztx {b:Int} {l:List Int} (h:Dg b l) {i:Nat} (hi:i < l.length):0<=l.getD i 0/\l.getD i 0 < b:=by
 rw [List.getD,List.getElem?_eq_getElem hi];exact h _ (List.getElem_mem hi)
theorem size1 {l:List Int} (h:l.length=1):l=[l.getD 0 0]:=by
 obtain ⟨x,rfl⟩:=List.length_eq_one_iff.1 h
 rfl
theorem div_one (A0:Option Addr) (c0:Nat) (l0:List Int) (A1:Option Addr) (c1:Nat) (l1:List Int) (w:World) (hr0:Kd.C (Kd.int .u32) w A0 l0.length l0) (hc0:l0.length<=c0) (hr1:Kd.C (Kd.int .u32) w A1 l1.length l1) (hc1:l1.length<=c1)
  (h0:OkW l0) (h1:OkW l1) (hge:¬ num l0 < num l1) (hone:l1.length=1) :
  Calls Tryz.prog 127 #[.slice A0 l0.length c0,.slice A1 l1.length c1] w fun e w' => ∃ v0_ v1_:Value,e=.returned (.tuple #[v0_,v1_])/\Kd.R (Kd.int .u32) 85 w' w.heap.size (fun k_=>some k_ ≠ (v1_:Value).ownBlock) v0_ (limbs (num l0 / num l1))/\Kd.R (Kd.int .u32) 85 w' w.heap.size (fun k_=>some k_ ≠ (v0_:Value).ownBlock) v1_ (limbs (num l0 % num l1))/\Below w.heap.size w w':=by
 obtain ⟨ad,y,hA,hy,hcy⟩:∃ (ad:Addr) (y:Nat),A1=some ad/\l1=[(y:Int)]/\w.cell? (ad.add 0)=some (.int .u32 (y:Int)):=by
  obtain ⟨ad,c,hA,_,hK,hcc⟩:=Kd.Znd hr1 (0:Int) (0:Int) (by omega) (by omega)
  have e1:=size1 hone
  obtain ⟨y,hy⟩:∃ y:Nat,l1.getD 0 0=(y:Int):=⟨(l1.getD 0 0).toNat,by
   have := h1.dg (l1.getD 0 0) (by rw [e1];simp)
   omega⟩
  refine ⟨ad,y,hA,by rw [<- hy];exact e1,?_⟩
  obtain rfl:c=[.int .u32 (l1.getD (0:Int).toNat 0)]:=hK
  have := hcc 0 _ rfl
  rw [show (0:Int).toNat=0 from rfl,hy] at this
  exact this
 subst hA hy
 obtain ⟨b_,o_,rfl⟩:=Zix (show w.cell? ad=_ from hcy)
 have hcy0:w.cell? ⟨b_,o_,none⟩=some (.int .u32 (y:Int)):=hcy
 have hny:num [(y:Int)]=y:=by unfold num;simp [val]
 have hy1:(y:Int) < 4294967296:=(h1.dg (y:Int) (by simp)).2
 have hy0:0 < y:=by
  have := h1.nz
  rcases Nat.eq_zero_or_pos y with e|e
  ·subst e;exact absurd rfl this
  ·exact e
 rw [hny] at hge ⊢
 have cC:=fun (W:World) (hB:Below w.heap.size w W)=>Zax.calls A0 c0 l0 (some ⟨b_,o_,none⟩) c1 [(y:Int)] (cmpI (num l0) y) W (Kd.Zx hr0 hB) hc0 (Kd.Zx hr1 hB) hc1 (by
  unfold Zax.f
  rw [Zd9.2 h0,Zd9.2 h1,Bool.and_self,if_pos rfl,hny])
 have hcm:decide (cmpI (num l0) y < 0)=false:=decide_eq_false (by unfold cmpI;rw [if_neg (by omega)];split <;> omega)
 obtain ⟨cm,hcme⟩:∃ cm,cmpI (num l0) y=cm:=⟨_,rfl⟩
 rw [hcme] at cC hcm
 have cS:=fun (W:World) (hB:Below w.heap.size w W)=>Zcu.calls A0 c0 l0 (y:Int) _ _ W (Kd.Zx hr0 hB) hc0 (by
  unfold Zcu.f
  rw [Zd9.2 h0,decide_eq_true (show (0:Int) < (y:Int) by omega),decide_eq_true hy1,Bool.and_self,if_pos (by rfl),Int.toNat_natCast])
 have hrem:num l0 % y < 4294967296:=Nat.lt_of_lt_of_le (Nat.mod_lt _ hy0) (by omega)
 obtain ⟨QL,hQL⟩:∃ QL,limbs (num l0 / y)=QL:=⟨_,rfl⟩
 obtain ⟨r,hr⟩:∃ r,num l0 % y=r:=⟨_,rfl⟩
 rw [hQL,hr] at cS ⊢
 rw [hr] at hrem
 obtain ⟨kT,hkT⟩:=(P.Zdi (l:=[(r:Int)]) (n:=r) (Dg.one (by omega) (by omega)) (by rw [val_one]) (by simp)).ex
 have CC:=Aside0.mk cC
 have CS:=Aside0.mk cS
 have HKT:=Aside0.mk hkT
 have H1:=Aside0.mk hc1
 have hlen1:([(y:Int)]:List Int).length=1:=rfl
 rw [hlen1]
 refine (callsIn_wide (n:=4)).1 ?_
 refine callsIn_of_wp_marks Tryz.func127 rfl trivial ?_ rfl
 simp only [Tryz.ntmps127,List.size_toArray,List.length_cons,List.length_nil,Nat.reduceAdd,Nat.reduceSub,Array.replicate_succ,Array.replicate_zero,List.push_toArray,List.append_toArray,List.nil_append,List.cons_append]
 clear hr0 hc0 hr1 hc1 hge h0 h1 hone hcy hny hy0 hcme cC cS hQL hr hkT hlen1 hrem
 gi_wp2_with (first|(refine ⟨trivial,?_⟩;gi_at_call 138;refine (callsIn_wide.2 (CC.out _ (Below.refl _ _))).mono ?_;rintro e w1 ⟨rfl,hb1⟩;have hcy1:=Zc4 hb1 hcy0)|(refine ⟨trivial,?_⟩;gi_at_call 143;refine (callsIn_wide.2 (CS.out _ hb1)).mono ?_;rintro e w2 ⟨v0,rfl,hR,hb2⟩)|(refine ⟨trivial,?_⟩;gi_at_call 132;refine (callsIn_wide.2 (Zv.calls kT (fun k=>k=w2.heap.size) _ [(r:Int)] (limbs r) w2 _ ((Below.refl _ _).alloc (Nat.le_refl _) _) (Zr4 w2 r) HKT.out)).mono ?_;rintro e w3 ⟨v1,rfl,hR1,hb3,hkp⟩))
 refine ⟨_,by simp [results,Tryz.f127,go_sem],v0,v1,rfl,?_,?_,hb1.trans ((hb2.mono hb1.size).trans (hb3.mono (Nat.le_trans hb1.size hb2.size)))⟩
 ·exact Kd.Zdd (enc:=Value.int .u32) (Zex (Kd.Zdq (enc:=Value.int .u32) (Kd.Za hR hb3)) hb1.size) (fun k hk he=>Zhn (Kd.Zdq (enc:=Value.int .u32) hR) hR1 (fun k h=>by
   rcases h with h|h
   ·omega
   ·simp at h;omega) hk he.symm)
 ·exact Kd.Zdd (enc:=Value.int .u32) (Zex (Kd.Zdq (enc:=Value.int .u32) hR1) (Nat.le_trans hb1.size hb2.size)) (fun k hk he=>Zhn (Kd.Zdq (enc:=Value.int .u32) hR) hR1 (fun k h=>by
   rcases h with h|h
   ·omega
   ·simp at h;omega) he.symm hk)
theorem Zmh {W:World} {base n:Nat} {e:TypeId} {ok:Nat->Prop} {v:Value} {l:List Int} (h:Kd.R (Kd.int .u32) e W base ok v l) (hl:l.length=n) (hp:0 < n):∃ g cap,v=.slice (some ⟨g,0,none⟩) n cap/\base<=g/\g < W.heap.size/\n<=cap/\W.ownsRow base e 1 (.slice (some ⟨g,0,none⟩) n cap) n (nums .u32 l):=by
 have ho:=Kd.Zdq (enc:=Value.int .u32) h
 subst hl
 have ho':=ho
 obtain ⟨_,h2⟩:=ho'
 rcases h2 with ⟨_,h0⟩|⟨g,cap,cur,rfl,hg,hh,hle,_⟩
 ·omega
 ·exact ⟨g,cap,rfl,hg,(Array.getElem?_eq_some_iff.1 hh).1,hle,ho⟩
theorem Zec {W W':World} {base n g m c:Nat} {e:TypeId} {size:Nat} {xs:List Value} (h:W.ownsRow base e size (.slice (some ⟨g,0,none⟩) m c) n xs) (hk:W'.heap[g]? = W.heap[g]?):W'.ownsRow base e size (.slice (some ⟨g,0,none⟩) m c) n xs:=by
 obtain ⟨h1,h2⟩:=h
 refine ⟨h1,?_⟩
 rcases h2 with h2|⟨g',cap,cur,he,hg,hh,r⟩
 ·exact .inl h2
 ·obtain ⟨rfl,rfl,rfl⟩:g=g'/\m=n/\c=cap:=by simpa using he
  exact .inr ⟨_,_,cur,rfl,hg,hk.trans hh,r⟩
structure DvB (w:World) (K gu cu gv cv p m:Nat) (V:List Int) (sv:Value) (ds qs:List Int) (W:World):Prop where
 u:Boxed W K 134 (.slice (some ⟨gu,0,none⟩) (p+m+1) cu)
 v:Boxed W (K+1) 134 (.slice (some ⟨gv,0,none⟩) (p+1) cv)
 n:Boxed W (K+1+1) 3 (.int .i64 ((p:Int)+1))
 q:Boxed W (K+1+1+1+1) 134 (.slice (some ⟨K+1+1+1,0,none⟩) m m)
 s:Boxed W (K+1+1+1+1+1) 134 sv
 urow:W.ownsRow w.heap.size 85 1 (.slice (some ⟨gu,0,none⟩) (p+m+1) cu) (p+m+1) (nums .u32 ds)
 vrow:W.ownsRow w.heap.size 85 1 (.slice (some ⟨gv,0,none⟩) (p+1) cv) (p+1) (nums .u32 V)
 qrow:W.ownsRow w.heap.size 85 1 (.slice (some ⟨K+1+1+1,0,none⟩) m m) m (nums .u32 qs)
 low:Below w.heap.size w W
 lu:w.heap.size<=gu
 uv:gu < gv
 vK:gv < K
section
variable {w W W':World} {K gu cu gv cv p m:Nat} {V ds qs ds' qs':List Int} {sv:Value}
theorem DvB.drewN (h:DvB w K gu cu gv cv p m V sv ds qs W) (n:Nat):DvB w K gu cu gv cv p m V sv ds qs (W.drewN n) :=
 ⟨h.u,h.v,h.n,h.q,h.s,h.urow,h.vrow,h.qrow,Zay h.low n,h.lu,h.uv,h.vK⟩
theorem DvB.ofU (h:DvB w K gu cu gv cv p m V sv ds qs W) (hk:Kept W W' (fun k=>k=gu)) (hb:Below gu W W') (hrow:W'.ownsRow w.heap.size 85 1 (.slice (some ⟨gu,0,none⟩) (p+m+1) cu) (p+m+1) (nums .u32 ds')):DvB w K gu cu gv cv p m V sv ds' qs W':=by
 have h1:=h.uv
 have h2:=h.vK
 have h3:=h.s.lt
 exact ⟨(hk.2 _ h.u.lt (by omega)).trans h.u,(hk.2 _ h.v.lt (by omega)).trans h.v,(hk.2 _ h.n.lt (by omega)).trans h.n,(hk.2 _ h.q.lt (by omega)).trans h.q,(hk.2 _ h.s.lt (by omega)).trans h.s,hrow,Zec h.vrow (hk.2 _ (by omega) (by omega)),Zec h.qrow (hk.2 _ (by omega) (by omega)),h.low.trans (hb.mono h.lu),h.lu,h.uv,h.vK⟩
theorem DvB.store (h:DvB w K gu cu gv cv p m V sv ds qs W) (i:Nat) (x:Int):DvB w K gu cu gv cv p m V sv ds (qs.set i x) (W.setCell ⟨K+1+1+1,i,none⟩ (.int .u32 x)):=by
 have h1:=h.uv
 have h2:=h.vK
 have h3:=h.lu
 have hs:=(Zey h.qrow (i:Int) x).1
 rw [Int.toNat_natCast] at hs
 have hk:∀ k,k ≠ K+1+1+1->(W.setCell ⟨K+1+1+1,i,none⟩ (.int .u32 x)).heap[k]? = W.heap[k]?:=fun k hk=>Below.heap_setCell W ⟨K+1+1+1,i,none⟩ _ k hk
 exact ⟨(hk _ (by omega)).trans h.u,(hk _ (by omega)).trans h.v,(hk _ (by omega)).trans h.n,(hk _ (by omega)).trans h.q,(hk _ (by omega)).trans h.s,Zec h.urow (hk _ (by omega)),Zec h.vrow (hk _ (by omega)),hs,h.low.setCell (p:=⟨K+1+1+1,i,none⟩) (by simp;omega) _,h.lu,h.uv,h.vK⟩
theorem DvB.grown {row:Option Nat} {n:Nat} (hn:w.heap.size<=n) (h:DvB w K gu cu gv cv p m V sv ds qs W) (hg:W.grownBy W' row) (hr:∀ r,row=some r->n<=r /\ ∃ o:Obj,W.heap[r]? = some o/\o.isCells=false):DvB w K gu cu gv cv p m V sv ds qs W' :=
 ⟨h.u.kept hg (not_row hr h.u),h.v.kept hg (not_row hr h.v),h.n.kept hg (not_row hr h.n),h.q.kept hg (not_row hr h.q),h.s.kept hg (not_row hr h.s),Zfs h.urow hg hr,Zfs h.vrow hg hr,Zfs h.qrow hg hr,
  (ownFrom_below (Nat.le_refl _) hn:OwnFrom _ (fun _:List (Nat × Int)=>Below w.heap.size w)) [] W W' row h.low hg hr,h.lu,h.uv,h.vK⟩
theorem DvB.setS (h:DvB w K gu cu gv cv p m V sv ds qs W) (u:Value):DvB w K gu cu gv cv p m V u ds qs (W.setCell ⟨K+1+1+1+1+1,0,none⟩ u):=by
 have h1:=h.uv
 have h2:=h.vK
 have h3:=h.lu
 exact ⟨(Zbk W _ u _ (by omega)).trans h.u,(Zbk W _ u _ (by omega)).trans h.v,(Zbk W _ u _ (by omega)).trans h.n,(Zbk W _ u _ (by omega)).trans h.q,h.s.set u,Zec h.urow (Zbk W _ u _ (by omega)),Zec h.vrow (Zbk W _ u _ (by omega)),Zec h.qrow (Zbk W _ u _ (by omega)),h.low.setCell (p:=⟨K+1+1+1+1+1,0,none⟩) (by simp;omega) u,h.lu,h.uv,h.vK⟩
theorem DvB.rdw (h:DvB w K gu cu gv cv p m V sv ds qs W):RdW (some ⟨K+1+1+1,0,none⟩) m (fun _ _=>True) W:=.inr ⟨_,0,rfl,fun j hj=>⟨rd qs j,by
 have := (Zfe h.qrow (j:Int) (by omega) (by omega)).1
 rw [Int.toNat_natCast] at this
 rw [Nat.zero_add];exact this,trivial⟩⟩
theorem DvB.kp (h:DvB w K gu cu gv cv p m V sv ds qs W) (h':DvB w K gu cu gv cv p m V sv ds' qs' W'):KpB (K+1+1+1+1+1) (some ⟨K+1+1+1,0,none⟩) m (fun _ _=>True) W W' :=
 ⟨(show W'.heap[K+1+1+1+1+1]? = _ from h'.s).trans (show W.heap[K+1+1+1+1+1]? = _ from h.s).symm,fun _=>h'.rdw⟩
theorem Zih {base n g c k:Nat} {e:TypeId} {size:Nat} {xs:List Value} (h:W.ownsRow base e size (.slice (some ⟨g,0,none⟩) k c) n xs) (hk:Kept W W' (fun k=>k=g)):KeepsOthers W W' :=
 ⟨hk.1,fun j o ho hc=>by
  by_cases e:j=g
  ·subst e
   obtain ⟨cells,hcell⟩:=Zez h j rfl
   rw [hcell] at ho
   obtain rfl:=Option.some.inj ho
   cases hc
  ·exact (hk.2 j (Array.getElem?_eq_some_iff.1 ho).1 e).trans ho⟩
end
def DvI (w:World) (K gu cu gv cv p m:Nat) (U V:List Int) (pre:List (Nat × Int)) (W:World):Prop:=∃ sv ds qs,DivAt U V m (m - pre.length) ds qs/\DvB w K gu cu gv cv p m V sv ds qs W
theorem DvI.own {w:World} {K gu cu gv cv p m:Nat} {U V:List Int} {n:Nat} (hn:w.heap.size<=n):OwnFrom n (DvI w K gu cu gv cv p m U V):=by
 rintro pre A W row ⟨sv,ds,qs,h1,h⟩ hg hr
 exact ⟨sv,ds,qs,h1,h.grown hn hg hr⟩
theorem DvI.minds {w:World} {K gu cu gv cv p m:Nat} {U V:List Int}:Minds (K+1+1+1+1+1) (DvI w K gu cu gv cv p m U V):=by
 rintro pre W u ⟨sv,ds,qs,h1,h⟩
 exact ⟨u,ds,qs,h1,h.setS u⟩
theorem Ztc {W:World} {base g n c:Nat} {e:TypeId} {xs:List Int} (h:W.ownsRow base e 1 (.slice (some ⟨g,0,none⟩) n c) n (nums .u32 xs)):Kd.C (Kd.int .u32) W (some ⟨g,0,none⟩) n xs:=by
 have hl:xs.length=n:=by have := h.1;simpa [nums] using this
 subst hl
 have hR:Kd.R (Kd.int .u32) e W base (fun _=>True) (.slice (some ⟨g,0,none⟩) xs.length c) xs:=Kd.Zdd (enc:=Value.int .u32) h (fun _ _=>trivial)
 obtain ⟨A,c',he,_,hC⟩:=Kd.Zhj hR
 simp only [Value.slice.injEq] at he
 rw [he.1]
 exact hC
theorem DvB.start {w w4:World} {gu cu gv cv p m:Nat} {U V:List Int} (hU:w4.ownsRow w.heap.size 85 1 (.slice (some ⟨gu,0,none⟩) (p+m+1) cu) (p+m+1) (nums .u32 U)) (hV:w4.ownsRow w.heap.size 85 1 (.slice (some ⟨gv,0,none⟩) (p+1) cv) (p+1) (nums .u32 V))
  (hlow:Below w.heap.size w w4) (lu:w.heap.size<=gu) (uv:gu < gv) (vK:gv < w4.heap.size) (hm:m<=1000000) :
  DvB w w4.heap.size gu cu gv cv p m V (.slice (some ⟨w4.heap.size+1+1+1,0,none⟩) m m) U (List.replicate m 0)
   ((((((w4.alloc (.cells #[.slice (some ⟨gu,0,none⟩) (p+m+1) cu] 134)).alloc (.cells #[.slice (some ⟨gv,0,none⟩) (p+1) cv] 134)).alloc (.cells #[.int .i64 ((p:Int)+1)] 3)).alloc (.cells (madeCells #[.int .u32 0] m) 85)).alloc (.cells #[.slice (some ⟨w4.heap.size+1+1+1,0,none⟩) m m] 134)).alloc (.cells #[.slice (some ⟨w4.heap.size+1+1+1,0,none⟩) m m] 134)):=by
 obtain ⟨X1,hX1⟩:∃ X,w4.alloc (.cells #[.slice (some ⟨gu,0,none⟩) (p+m+1) cu] 134)=X:=⟨_,rfl⟩
 have b1:=Boxed.new w4 134 (.slice (some ⟨gu,0,none⟩) (p+m+1) cu)
 have s1:X1.heap.size=w4.heap.size+1:=by rw [<- hX1];simp
 have u1:=Zcm hU (.cells #[.slice (some ⟨gu,0,none⟩) (p+m+1) cu] 134)
 have v1:=Zcm hV (.cells #[.slice (some ⟨gu,0,none⟩) (p+m+1) cu] 134)
 have l1:=hlow.alloc hlow.size (.cells #[.slice (some ⟨gu,0,none⟩) (p+m+1) cu] 134)
 rw [hX1] at b1 u1 v1 l1 ⊢
 obtain ⟨X2,hX2⟩:∃ X,X1.alloc (.cells #[.slice (some ⟨gv,0,none⟩) (p+1) cv] 134)=X:=⟨_,rfl⟩
 have b2:=Boxed.new X1 134 (.slice (some ⟨gv,0,none⟩) (p+1) cv)
 have s2:X2.heap.size=X1.heap.size+1:=by rw [<- hX2];simp
 have u2:=Zcm u1 (.cells #[.slice (some ⟨gv,0,none⟩) (p+1) cv] 134)
 have v2:=Zcm v1 (.cells #[.slice (some ⟨gv,0,none⟩) (p+1) cv] 134)
 have l2:=l1.alloc l1.size (.cells #[.slice (some ⟨gv,0,none⟩) (p+1) cv] 134)
 have c1:=b1.alloc (.cells #[.slice (some ⟨gv,0,none⟩) (p+1) cv] 134)
 rw [hX2] at b2 u2 v2 l2 c1 ⊢
 obtain ⟨X3,hX3⟩:∃ X,X2.alloc (.cells #[.int .i64 ((p:Int)+1)] 3)=X:=⟨_,rfl⟩
 have b3:=Boxed.new X2 3 (.int .i64 ((p:Int)+1))
 have s3:X3.heap.size=X2.heap.size+1:=by rw [<- hX3];simp
 have u3:=Zcm u2 (.cells #[.int .i64 ((p:Int)+1)] 3)
 have v3:=Zcm v2 (.cells #[.int .i64 ((p:Int)+1)] 3)
 have l3:=l2.alloc l2.size (.cells #[.int .i64 ((p:Int)+1)] 3)
 have d1:=c1.alloc (.cells #[.int .i64 ((p:Int)+1)] 3)
 have d2:=b2.alloc (.cells #[.int .i64 ((p:Int)+1)] 3)
 rw [hX3] at b3 u3 v3 l3 d1 d2 ⊢
 have e3:X3.heap.size=w4.heap.size+1+1+1:=by omega
 have q4:=Zmc X3 w.heap.size 85 .u32 m (by have := l3.size;omega) (by omega)
 have b5:=Boxed.new (X3.alloc (.cells (madeCells #[.int .u32 0] m) 85)) 134 (.slice (some ⟨w4.heap.size+1+1+1,0,none⟩) m m)
 have b6:=Boxed.new ((X3.alloc (.cells (madeCells #[.int .u32 0] m) 85)).alloc (.cells #[.slice (some ⟨w4.heap.size+1+1+1,0,none⟩) m m] 134)) 134 (.slice (some ⟨w4.heap.size+1+1+1,0,none⟩) m m)
 simp only [World.size_alloc,s3,s2,s1] at b1 b2 b3 b5 b6 q4 c1 d1 d2
 have a1:=hlow.size
 exact ⟨((d1.alloc _).alloc _).alloc _,((d2.alloc _).alloc _).alloc _,((b3.alloc _).alloc _).alloc _,b5.alloc _,b6,Zcm (Zcm (Zcm u3 _) _) _,Zcm (Zcm (Zcm v3 _) _) _,Zcm (Zcm q4 _) _,
  ((l3.alloc l3.size _).alloc (by simp;omega) _).alloc (by simp;omega) _,lu,uv,vK⟩
theorem Zj9 (l:List Int) {j:Int} {k:Nat} (h:j=(k:Int)):rd l j=l.getD k 0:=by subst h;unfold rd;rw [Int.toNat_natCast]
theorem DivAt.guess {U V:List Int} {m i p:Nat} {ds qs:List Int} (h:DivAt U V m (i+1) ds qs) (ok:DivOk U V m) (hi:i < m) (hp:V.length=p+1) (hp1:1<=p) :
  ∃ (x2 x1 x0 y1 y0 g:Nat) (q:Int) (k:Nat),rd ds ((i:Int)+((p:Int)+1))=x2/\rd ds ((i:Int)+((p:Int)+1) - 1)=x1/\rd ds ((i:Int)+((p:Int)+1) - 2)=x0/\rd V p=y1/\rd V ((p:Int)+1 - 2)=y0/\Zbp.f k x2 x1 x0 y1 y0=some (g:Int)/\Digit U V i ds (g:Int) q:=by
 obtain ⟨ht,q,hd⟩:=h.digit ok hi
 rw [hp] at ht hd
 have a2:=Zep h.dg (i+(p+1))
 have a1:=Zep h.dg (i+(p+1) - 1)
 have a0:=Zep h.dg (i+(p+1) - 2)
 have b1:=Zep ok.vd (p+1 - 1)
 have b0:=Zep ok.vd (p+1 - 2)
 have tp:=ok.top
 rw [hp] at tp
 obtain ⟨x2,e2⟩:=Int.eq_ofNat_of_zero_le a2.1
 obtain ⟨x1,e1⟩:=Int.eq_ofNat_of_zero_le a1.1
 obtain ⟨x0,e0⟩:=Int.eq_ofNat_of_zero_le a0.1
 obtain ⟨y1,f1⟩:=Int.eq_ofNat_of_zero_le b1.1
 obtain ⟨y0,f0⟩:=Int.eq_ofNat_of_zero_le b0.1
 rw [e2] at a2 ht hd
 rw [e1] at a1 hd
 rw [e0] at a0 hd
 rw [f1] at b1 ht tp hd
 rw [f0] at b0 hd
 have hB:LB=4294967296:=rfl
 rw [hB] at a2 a1 a0 b1 b0 hd
 obtain ⟨k,hk⟩:=(P.Zkw x2 x1 x0 y1 y0 (by omega) (by omega) (by omega) (by omega) (by omega) (by omega)).ex
 refine ⟨x2,x1,x0,y1,y0,_,q,k,(Zj9 _ (by omega)).trans e2,(Zj9 _ (k:=i+(p+1) - 1) (by omega)).trans e1,(Zj9 _ (k:=i+(p+1) - 2) (by omega)).trans e0,(Zj9 _ (k:=p+1 - 1) (by omega)).trans f1,(Zj9 _ (k:=p+1 - 2) (by omega)).trans f0,hk,?_⟩
 have e:((min (((x2*4294967296+x1)*4294967296+x0) / (y1*4294967296+y0)) 4294967295:Nat):Int)=min ((((x2:Int)*4294967296+x1)*4294967296+x0) / ((y1:Int)*4294967296+y0)) 4294967295:=by
  have hm:∀ a b:Nat,((min a b:Nat):Int)=min (a:Int) (b:Int):=fun a b=>by omega
  rw [hm]
  simp
 rw [e]
 exact hd
theorem DvI.next {w W2:World} {K gu cu gv cv p m i:Nat} {U V ds ds2 qs:List Int} {sv:Value} {g q:Int} {pre:List (Nat × Int)} {x:Nat × Int} (hat:DivAt U V m (i+1) ds qs) (ok:DivOk U V m) (hi:i < m) (hdig:Digit U V i ds g q) (hl2:ds2.length=ds.length) (hd2:Dg LB ds2)
  (hval:val LB ds2=val LB ds - pw LB i*(q*val LB V)) (hD:DvB w K gu cu gv cv p m V sv ds2 qs W2) (hnx:m - (pre ++ [x]).length=i):DvI w K gu cu gv cv p m U V (pre ++ [x]) (W2.setCell ⟨K+1+1+1,i,none⟩ (.int .u32 q)) :=
 ⟨sv,ds2,qs.set i q,by rw [hnx];exact hat.next ok hi hdig hl2 hd2 hval (Zei q (by rw [hat.qlen];exact hi)) (fun j hj=>Zd4 q hj),hD.store i q⟩
theorem Zoy {W W':World} {base n g:Nat} {e:TypeId} {size:Nat} {v:Value} {xs:List Value} (h:W.ownsRow base e size v n xs) (hk:Kept W W' (fun k=>k=g)) (hne:v.ownBlock ≠ some g):W'.ownsRow base e size v n xs:=by
 obtain ⟨h1,h2⟩:=h
 refine ⟨h1,?_⟩
 rcases h2 with h2|⟨g',cap,cur,rfl,hg,hh,r⟩
 ·exact .inl h2
 ·exact .inr ⟨g',cap,cur,rfl,hg,(hk.2 g' (Array.getElem?_eq_some_iff.1 hh).1 (fun e=>hne (by rw [e];rfl))).trans hh,r⟩
theorem Zrw {U V l0 l1 ds qs:List Int} {m p s:Nat} (hat:DivAt U V m 0 ds qs) (ok:DivOk U V m) (hU:val 4294967296 U=val 4294967296 l0*((2 ^ s:Nat):Int)) (hV:val LB V=((num l1*2 ^ s:Nat):Int)) (h0:OkW l0) (h1:OkW l1) (hp:V.length=p+1) (hpb:p+1<=1000000) (hm:m<=1000000) (hs:s < 32) (h2:2<=l1.length) :
  ∃ kq ku kr,Zv.f kq qs=some (limbs (num l0 / num l1))/\Zv.f ku ds=some (limbs (num l0 % num l1*2 ^ s))/\Zz.f kr (limbs (num l0 % num l1*2 ^ s)) (s:Int)=some (limbs (num l0 % num l1)):=by
 have hb:0 < num l1:=Nat.lt_of_lt_of_le (Nat.pow_pos (by omega)) (Zq5 h1 (by intro e;rw [e] at h2;simp at h2))
 have hP:0 < 2 ^ s:=Nat.pow_pos (by omega)
 obtain ⟨vq,vr⟩:=hat.done ok (a:=num l0) (b:=num l1) (P:=2 ^ s) hP (by show val 4294967296 U=_;rw [hU];rw [<- Zc9 h0.dg];exact (Int.natCast_mul _ _).symm) hV hb
 obtain ⟨kq,hq⟩:=(P.Zdi hat.qdg vq (by rw [hat.qlen];omega)).ex
 obtain ⟨ku,hu⟩:=(P.Zdi hat.dg vr (by rw [hat.len,ok.ulen,hp];omega)).ex
 have hlt:num l0 % num l1*2 ^ s < 4294967296 ^ (p+1):=by
  have e1:num l0 % num l1*2 ^ s < num l1*2 ^ s:=Nat.mul_lt_mul_of_pos_right (Nat.mod_lt _ hb) hP
  have e2:=Zds (b:=LB) (by decide) ok.vd
  rw [hV,hp,pwB] at e2
  exact Nat.lt_trans e1 (Int.ofNat_lt.1 e2)
 have hr:=P.Zk9 (Zc3 (num l0 % num l1*2 ^ s)) (Nat.le_trans (P.Zfc hlt) hpb) s hs
 rw [Zdc,Nat.mul_div_cancel _ hP] at hr
 obtain ⟨kr,hr⟩:=hr.ex
 exact ⟨kq,ku,kr,hq,hu,hr⟩
theorem Znb {F:Fence} {n:Nat} {P:Program} {c:Code} {Q:Exit->Act->World->Prop} {a b:Act} {w:World} (h:a=b) (k:Code.wpIn F n P c Q b w):Code.wpIn F n P c Q a w:=h ▸ k
theorem Zp1 (A0:Option Addr) (c0:Nat) (l0:List Int) (A1:Option Addr) (c1:Nat) (l1:List Int) (w:World) (hr0:Kd.C (Kd.int .u32) w A0 l0.length l0) (hc0:l0.length<=c0) (hr1:Kd.C (Kd.int .u32) w A1 l1.length l1) (hc1:l1.length<=c1)
  (h0:OkW l0) (h1:OkW l1) (hge:¬ num l0 < num l1) (h2:2<=l1.length) :
  Calls Tryz.prog 127 #[.slice A0 l0.length c0,.slice A1 l1.length c1] w fun e w' => ∃ v0_ v1_:Value,e=.returned (.tuple #[v0_,v1_])/\Kd.R (Kd.int .u32) 85 w' w.heap.size (fun k_=>some k_ ≠ (v1_:Value).ownBlock) v0_ (limbs (num l0 / num l1))/\Kd.R (Kd.int .u32) 85 w' w.heap.size (fun k_=>some k_ ≠ (v0_:Value).ownBlock) v1_ (limbs (num l0 % num l1))/\Below w.heap.size w w':=by
 have hz0:=h0.len
 have hz1:=h1.len
 have hab:=P.Zm3 h0.dg h1.dg h1.nz (by omega)
 obtain ⟨p,hp⟩:∃ p,l1.length=p+1:=⟨l1.length - 1,by omega⟩
 obtain ⟨m,hm⟩:∃ m,l0.length=p+m:=⟨l0.length - p,by omega⟩
 have hm1:1<=m:=by omega
 have hp1:1<=p:=by omega
 obtain ⟨x0,hx,hx0,hx1⟩:∃ x0:Nat,l1.getD p 0=(x0:Int)/\x0 ≠ 0/\x0 < 4294967296:=by
  have hin:=Ztx h1.dg (show p < l1.length by omega)
  refine ⟨(l1.getD p 0).toNat,by omega,fun e=>?_,by omega⟩
  have hne:l1 ≠ []:=by intro e;rw [e] at h2;simp at h2
  obtain ⟨l',y,hl'⟩:=Ze7 hne
  have hy:=Zeh.1 (hl' ▸ h1.nz)
  have hlen:l'.length=p:=by have := congrArg List.length hl';simp at this;omega
  have hyp:l1.getD p 0=y:=by rw [hl',List.getD,List.getElem?_append_right (by omega),hlen,Nat.sub_self];rfl
  rw [hyp] at e hin
  omega
 obtain ⟨b1,o1,x',hA1,hcx,hx'⟩:=(Zft hr1).at (show p < l1.length by omega)
 rw [hx] at hx'
 subst hx' hA1
 obtain ⟨s,hs⟩:∃ s:Nat,(s:Int)=32 - (Lib.bitLen x0:Int):=⟨(32 - (Lib.bitLen x0:Int)).toNat,by have := Lib.bitLen_le x0 32 (by omega) (by simpa using hx1);omega⟩
 obtain ⟨s1,s2,s3⟩:=Zl8 hx0 hx1 hs
 obtain ⟨U,hU,hUl,hUd,hUv⟩:=P.Zii h0.dg h0.len s s1
 obtain ⟨V0,hV0,hV0l,hV0d,hV0v⟩:=P.Zii h1.dg h1.len s s1
 obtain ⟨hok,hVl⟩:=Zr9 h0 h1 h2 (by omega) hab (by rw [hp];exact hx) hx0 hx1 hs hUl hUd hUv
 have hT:=P.Zdi (n:=num l1*2 ^ s) hV0d (by rw [hV0v,<- Zc9 h1.dg];exact (Int.natCast_mul _ _).symm) (by omega)
 obtain ⟨V,hV⟩:∃ V,limbs (num l1*2 ^ s)=V:=⟨_,rfl⟩
 have hVv:val LB V=((num l1*2 ^ s:Nat):Int):=by rw [<- hV];exact Zgd _
 rw [hV] at hok hVl hT
 obtain ⟨kU,hkU⟩:=hU.ex
 obtain ⟨kV,hkV⟩:=hV0.ex
 obtain ⟨kT,hkT⟩:=hT.ex
 have hzl:bits_LeadingZeros32.f (x0:Int)=some (s:Int):=by
  unfold bits_LeadingZeros32.f
  rw [if_pos (by omega),Int.toNat_natCast,hs]
 have cC:=fun (W:World) (hB:Below w.heap.size w W)=>Zax.calls A0 c0 l0 (some ⟨b1,o1,none⟩) c1 l1 (cmpI (num l0) (num l1)) W (Kd.Zx hr0 hB) hc0 (Kd.Zx hr1 hB) hc1 (by
  unfold Zax.f
  rw [Zd9.2 h0,Zd9.2 h1,Bool.and_self,if_pos rfl])
 have hcm:decide (cmpI (num l0) (num l1) < 0)=false:=decide_eq_false (by unfold cmpI;rw [if_neg (by omega)];split <;> omega)
 obtain ⟨cm,hcme⟩:∃ cm,cmpI (num l0) (num l1)=cm:=⟨_,rfl⟩
 rw [hcme] at cC hcm
 have cL0:=fun (W:World) (hB:Below w.heap.size w W)=>Za5.calls kU A0 c0 l0 (s:Int) U W (Kd.Zx hr0 hB) hc0 hkU
 have cL1:=fun (W:World) (hB:Below w.heap.size w W)=>Za5.calls kV (some ⟨b1,o1,none⟩) c1 l1 (s:Int) V0 W (Kd.Zx hr1 hB) hc1 hkV
 have cZ:=fun (W:World)=>bits_LeadingZeros32.calls (x0:Int) (s:Int) W hzl
 rw [hp] at cC cL1 hVl
 rw [hm] at cC cL0 hUl
 have hpb:p<=1000000:=by omega
 have hmb:m<=1000000:=by omega
 have hone:((p+1:Nat):Int) ≠ 1:=by omega
 have honeb:(((p+1:Nat):Int) == 1)=false:=beq_eq_false_iff_ne.2 hone
 obtain ⟨i0,hi,hzz⟩:=Option.map_eq_some_iff.1 info85
 simp only [Prod.mk.injEq] at hzz
 obtain ⟨hz1',hz2',hz3'⟩:=hzz
 have hmk:∀ W:World,(Instr.makeSlice 134 (.int .i64 m) (.int .i64 m)).run Tryz.prog W=.ok (.slice (some ⟨W.heap.size,0,none⟩) m m) (W.alloc (.cells (madeCells #[.int .u32 0] m) 85)):=fun W=>by
  have := run_make (P:=Tryz.prog) W 134 85 i0 (.int .u32 0) Tryz.underlying134 hi hz1' .i64 .i64 (m:Int) (m:Int) (by omega) (by omega) (by rw [hz3'];omega) (by omega)
  simp only [Int.toNat_natCast,hz2',Nat.mul_one] at this
  exact this
 have e57:(p:Int)+(m:Int)+1 - ((p:Int)+1)=(m:Int):=by omega
 have e0m:l0.length+1 - l1.length=m:=by omega
 rw [e0m] at hok
 clear e0m
 have CC:=Aside0.mk cC
 have CL0:=Aside0.mk cL0
 have CL1:=Aside0.mk cL1
 have HKT:=Aside0.mk hkT
 have HOK:=Aside0.mk hok
 have HUV:=Aside0.mk (And.intro hUv hVv)
 have HUL:=Aside0.mk hUl
 have HVL:=Aside0.mk hVl
 have HMK:=Aside0.mk hmk
 have HW0:=Aside0.mk (And.intro h0 h1)
 have HE57:=Aside0.mk e57
 have HS1:=Aside0.mk s1
 have HV0l:=Aside0.mk hV0l
 rw [hp,hm]
 have HP:=Aside0.mk hp
 have HM:=Aside0.mk hm
 refine (callsIn_wide (n:=4)).1 ?_
 refine callsIn_of_wp_marks Tryz.func127 rfl trivial ?_ rfl
 simp only [Tryz.ntmps127,List.size_toArray,List.length_cons,List.length_nil,Nat.reduceAdd,Nat.reduceSub,Array.replicate_succ,Array.replicate_zero,List.push_toArray,List.append_toArray,List.nil_append,List.cons_append]
 clear hr0 hc0 hr1 hc1 hge h0 h1 hcme cC cL0 cL1 hkT hok hUv hVv hUl hVl hmk e57 s1 s2 s3 hU hV0 hT hkU hkV hzl hV hV0l hV0d hV0v hUd hs hx hx0 hz1' hz2' hz3' hi hp hm hab
 gi_wp2_with (first
  | (refine ⟨trivial,?_⟩;gi_at_call 138;refine (callsIn_wide.2 (CC.out _ (Below.refl _ _))).mono ?_;rintro e w1 ⟨rfl,hb1⟩;have hcx1:=Zc4 hb1 hcx)
  | (refine ⟨trivial,?_⟩;gi_at_call 156;refine (callsIn_wide.2 (cZ _)).mono ?_;rintro e wz ⟨rfl,nq,rfl⟩;have hbz:=Zay hb1 nq)
  | (refine ⟨trivial,?_⟩;gi_at_call 157;refine (callsIn_wide.2 (CL1.out _ hbB)).mono ?_;rintro e w3 ⟨vb,rfl,hRb,hb3⟩)
  | (refine ⟨trivial,?_⟩;gi_at_call 157;refine (callsIn_wide.2 (CL0.out _ hbz)).mono ?_;rintro e w2 ⟨vu,rfl,hRu,hb2⟩;obtain ⟨gu,cu,rfl,hgu,hgu2,hcu,hrowU⟩:=Zmh hRu HUL.out (by omega);have hbB:=hbz.trans (hb2.mono hbz.size);have HRU:=Aside0.mk hRu;have HROWU:=Aside0.mk hrowU;clear hRu hrowU)
  | (refine ⟨trivial,?_⟩;gi_at_call 132;refine (callsIn_wide.2 (Zv.calls kT (fun _=>True) _ V0 V w2 _ hb3 hRb HKT.out)).mono ?_;rintro e w4 ⟨vv,rfl,hRv,hb4,hkp⟩;obtain ⟨gv,cv,rfl,hgv,hgv2,hcv,hrowV⟩:=Zmh hRv HVL.out (by omega);have HROWV:=Aside0.mk hrowV;have HRV:=Aside0.mk hRv;have HKP:=Aside0.mk hkp;clear hrowV hRv hkp hRb;have hmk:=HMK.out;have e57:=HE57.out)
  | (refine ⟨trivial,?_⟩;gi_at_call 158;refine (Zkq _ _ _ _ _).mono ?_;rintro e w' ⟨rfl,rfl⟩))
 have hD0:DvB w w4.heap.size gu cu gv cv p m V _ U (List.replicate m 0) _:=DvB.start (Zex (Zec HROWU.out (hb4.block _ hgu2)) hbz.size) (Zex HROWV.out hbB.size) (hbB.trans (hb4.mono hbB.size)) (Nat.le_trans hbz.size hgu) (by omega) hgv2 hmb
 have hat0:=DivAt.start HOK.out
 have HD0:=Aside0.mk hD0
 have HAT0:=Aside0.mk hat0
 clear hat0 hcx hcx1 hmk e57 hb1 hbz nq hb2 hb3 hb4 hgu hgu2 hgv hgv2 hcm hone honeb cZ HRV HKP HRU HROWU HROWV HMK
 obtain ⟨K,hK⟩:∃ K,w4.heap.size=K:=⟨_,rfl⟩
 rw [hK] at hD0 HD0 ⊢
 refine Zdr (b:=K+1+1+1+1+1) rfl (by decide) (gf:=184) (lb:=#[.pointer (some ⟨K+1+1+1+1+1,0,none⟩)]) rfl trivial (enters_of Tryz.func184 (by kernel_rfl) rfl)
  (Zgq 3 (by omega) (K+1+1+1+1+1) (some ⟨K+1+1+1,0,none⟩) m m (fun _ _=>True) (by omega) _ hD0.s hD0.rdw) (by simp [hK] <;> omega) (fun h k=>h.trans k)
  (fun W l o o' hl ho hc hw=>KpB.put (by simp [hK] at hl;omega) ho hc) (Below.refl _ _) (fun _=>rfl)
  (DvI w K gu cu gv cv p m U V) (fun _ _ _=>False) (DvI.own hD0.low.size) (fun _=>by rintro pre A W row h;exact h.elim) DvI.minds ?start
  (fun x=>{ tmps:=#[.slice A0 (p+m) c0,.slice (some ⟨b1,o1,none⟩) (p+1) c1,undef,undef,.slice none 0 0,.slice none 0 0,undef,undef,.int .i64 s,.pointer (some ⟨K,0,none⟩),.pointer (some ⟨K+1,0,none⟩),.pointer (some ⟨K+1+1,0,none⟩),.pointer (some ⟨K+1+1+1+1,0,none⟩),.int .i64 x.1,undef,.bool false,
   .slice A0 (p+m) c0,.slice (some ⟨b1,o1,none⟩) (p+1) c1,.int .i64 cm,.bool false,undef,undef,.bool false,.slice (some ⟨b1,o1,none⟩) (p+1) c1,.int .i64 ((p:Int)+1),.bool false,undef,undef,undef,undef,undef,undef,undef,undef,undef,undef,undef,undef,
   .slice (some ⟨b1,o1,none⟩) (p+1) c1,.slice (some ⟨b1,o1,none⟩) (p+1) c1,.int .i64 ((p:Int)+1),.int .i64 p,.pointer (some ⟨b1,o1+p,none⟩),.int .u32 (x0:Int),.int .i64 s,.slice A0 (p+m) c0,.int .i64 s,.slice (some ⟨gu,0,none⟩) (p+m+1) cu,.slice (some ⟨b1,o1,none⟩) (p+1) c1,.int .i64 s,vb,.slice (some ⟨gv,0,none⟩) (p+1) cv,
   .slice (some ⟨gv,0,none⟩) (p+1) cv,.int .i64 ((p:Int)+1),.slice (some ⟨gu,0,none⟩) (p+m+1) cu,.int .i64 ((p:Int)+(m:Int)+1),.int .i64 ((p:Int)+1),.int .i64 m,.slice (some ⟨K+1+1+1,0,none⟩) m m,.slice (some ⟨K+1+1+1,0,none⟩) m m,.func (.func 184) #[] #[.pointer (some ⟨K+1+1+1+1+1,0,none⟩)],.int .i64 x.1,.int .u32 x.2,undef,undef,undef,undef,undef,undef,undef,undef,undef,undef,undef,undef,undef,undef,undef,undef,undef,undef,undef,undef,undef,undef,undef,undef,undef,undef,undef,undef,undef,undef,undef,undef,undef,undef,undef,undef,undef,undef,undef,undef,undef,undef,undef,undef,undef,undef,undef,undef,undef,undef,undef,undef,undef,undef,undef,undef],defers:=[] }) ?assign ?body ?done ?stop
 case start=>exact ⟨_,_,_,HAT0.out,HD0.out⟩
 case assign =>
  intro l x W K hK
  gi_wp2
  exact hK
 case stop =>
  rintro D c pre W hD hpre h hK
  exact h.elim
 case body =>
  rintro l pre x W ⟨sv,ds,qs,hat,hD⟩ hlen hsp
  obtain ⟨hx1,hx2⟩:=hsp.2 pre.length x (by simp)
  obtain ⟨i,y⟩:=x
  simp only at hx1 hx2
  have hi:i < m:=by omega
  have hji:m - pre.length=i+1:=by omega
  rw [hji] at hat
  have hnx:m - (pre ++ [(i,y)]).length=i:=by simp;omega
  obtain ⟨x2,x1,xz,y1,y0,g,q,k,r2,r1,r0,t1,t0,hg,hdig⟩:=DivAt.guess hat HOK.out hi HVL.out hp1
  have cG:=fun W:World=>Zbp.calls k x2 x1 xz y1 y0 g W hg
  have hu:=hD.u.cell
  have hv:=hD.v.cell
  have hn:=hD.n.cell
  have k2:=(Zfe hD.urow ((i:Int)+((p:Int)+1)) (by omega) (by omega)).1
  have k1:=(Zfe hD.urow ((i:Int)+((p:Int)+1) - 1) (by omega) (by omega)).1
  have k0:=(Zfe hD.urow ((i:Int)+((p:Int)+1) - 2) (by omega) (by omega)).1
  have m1:=(Zfe hD.vrow (p:Int) (by omega) (by omega)).1
  have m0:=(Zfe hD.vrow ((p:Int)+1 - 2) (by omega) (by omega)).1
  rw [r2] at k2
  rw [r1] at k1
  rw [r0] at k0
  rw [t1] at m1
  rw [t0] at m0
  rw [show ((i:Int)+((p:Int)+1)).toNat=i+(p+1) by omega] at k2
  rw [Int.toNat_natCast] at m1
  rw [show ((i:Int)+((p:Int)+1) - 2).toNat=i+(p+1) - 2 by omega] at k0
  rw [show ((p:Int)+1 - 2).toNat=p - 1 by omega] at m0
  rw [show ((i:Int)+((p:Int)+1) - 1).toNat=i+p by omega] at k1
  have HAT:=Aside0.mk hat
  have HD:=Aside0.mk hD
  have HDG:=Aside0.mk hdig
  have HNX:=Aside0.mk hnx
  clear hat hD hdig hg r2 r1 r0 t1 t0 hlen hsp hx1 hx2 hji hnx hD0 HD0 HAT0 HUV HW0 HKT HUL HS1 HV0l CC CL0 CL1 HE57
  gi_wp2
  rename_i K1 hK1
  refine Zea (by kernel_rfl) (by kernel_rfl) (fun h=>by obtain ⟨_,_,h⟩:=h;exact h) (by kernel_rfl) ?_
  repeat (go_big_quiet_step ((go_at_call 159;exact Zf3 (cG _))))
  refine wpQuiet_nil ?_
  rintro _ ⟨nq,rfl⟩
  refine hK1 _ _ ?_
  clear hK1 k2 k1 k0 m1 m0 hn cG
  gi_wp2
  rename_i K2 hK2
  refine Zfj 5 (by kernel_rfl) (by kernel_rfl) (fun h=>by obtain ⟨_,_,h⟩:=h;exact h) (by kernel_rfl) ?_
  rw [show ({ W.drewN nq with drawn:=(W.drewN nq).drawn+1 }:World)=W.drewN (nq+1) from rfl]
  have hD1:=HD.out.drewN (nq+1)
  have hKO1:KeepsOthers W (W.drewN (nq+1)):=⟨Nat.le_refl _,fun k o h _=>h⟩
  obtain ⟨W1,hW1⟩:∃ W1,W.drewN (nq+1)=W1:=⟨_,rfl⟩
  rw [hW1] at hD1 hKO1 ⊢
  clear hW1 hu hv
  have hu:=hD1.u.cell
  have hv:=hD1.v.cell
  have hult:=hD1.u.lt
  have huv:=hD1.uv
  have hvK:=hD1.vK
  have hcV:=Ztc hD1.vrow
  have HDG0:=HDG.out
  have cT:=Zqo w.heap.size gu i (p+m+1) cu ds (some ⟨gv,0,none⟩) cv V g W1 hD1.urow (by omega) HAT.out.dg (by rw [HVL.out];exact hcV) (by rw [HVL.out];exact hcv) HOK.out.vd (fun ad h=>.inr (by cases h;show gv ≠ gu;omega)) (by rw [HVL.out];omega) hcu (by have := HM.out;omega) HDG0.g0 HDG0.g1
  rw [HVL.out] at cT
  have g0:(0:Int)<=(g:Int):=HDG0.g0
  have g1:(g:Int) < 18446744073709551616:=by have := HDG0.g1;have hB:LB=4294967296:=rfl;omega
  have HD1:=Aside0.mk hD1
  have HKO1:=Aside0.mk hKO1
  have CT:=Aside0.mk cT
  clear hcV HDG0 hD1 hKO1 cT hult
  have hsl:(i:Int)<=(p:Int)+(m:Int)+1:=by omega
  have hci:¬ cu=i:=by omega
  simp only [List.take_succ_cons,List.take_zero,List.drop_succ_cons,List.drop_zero]
  repeat still_step
  refine wpStill_nil ?_
  go_wp2_with (go_at_call 160;refine (CT.out).mono ?_;rintro e W2 ⟨b,ds2,rfl,hb01,hrow2,hd2,hl2,hv2,hs2,hk2,hlow2⟩)
  have hD2:=HD1.out.ofU hk2 hlow2 hrow2
  have hKO2:=HKO1.out.trans (Zih HD1.out.urow hk2)
  have hoff:=HDG.out.off HOK.out hb01 HAT.out.dg hd2 hl2 (by rw [HVL.out];exact hv2) (by rw [HVL.out];exact hs2) HAT.out.low
  clear hu hv CT HD1 HKO1
  rcases hoff with ⟨rfl,hgq,hval⟩|⟨rfl,hgq,hval⟩
  ·rw [show decide ((0:Int) < 0)=false from rfl]
   have hq:=hD2.q.cell
   have hc:=Zfe hD2.qrow (i:Int) (by omega) (by omega)
   rw [Int.toNat_natCast] at hc
   have hcc:=hc.1
   have hcf:=hc.2
   have hg1:(g:Int) < 4294967296:=HDG.out.g1
   have HD2:=Aside0.mk hD2
   have HKO2:=Aside0.mk hKO2
   have HK2:=Aside0.mk hk2
   have HV:=Aside0.mk (And.intro hl2 (And.intro hd2 hval))
   have HGQ:=Aside0.mk hgq
   clear hD2 hKO2 hk2 hl2 hd2 hval hgq hrow2 hlow2 hs2 hv2 hb01 hc
   gi_wp2
   have hgq':=HGQ.out
   rw [hgq']
   exact ⟨((HKO2.out.trans (KeepsOthers.setCell W2 _ _)).from _),HD.out.kp (HD2.out.store i q),DvI.next HAT.out HOK.out hi HDG.out HV.out.1 HV.out.2.1 HV.out.2.2 HD2.out HNX.out⟩
  ·rw [show decide ((0:Int) < 1)=true from rfl]
   have hq1:(1:Int)<=(g:Int):=by have := HDG.out.q0;omega
   have HD2:=Aside0.mk hD2
   have HKO2:=Aside0.mk hKO2
   have HK2:=Aside0.mk hk2
   have HV:=Aside0.mk (And.intro hl2 (And.intro hd2 (And.intro hval hs2)))
   have HGQ:=Aside0.mk hgq
   clear hD2 hKO2 hk2 hl2 hd2 hval hgq hrow2 hlow2 hs2 hv2 hb01
   gi_wp2
   rename_i K5 hK5
   have hDd:=HD2.out.drewN 1
   have hKOd:=HKO2.out.trans (⟨Nat.le_refl _,fun k o h _=>h⟩:KeepsOthers W2 (W2.drewN 1))
   refine Zfj 4 (by kernel_rfl) (by kernel_rfl) (fun h=>by obtain ⟨_,_,h⟩:=h;exact h) (by kernel_rfl) ?_
   rw [show ({ W2 with drawn:=W2.drawn+1 }:World)=W2.drewN 1 from rfl]
   obtain ⟨Wd,hWd⟩:∃ Wd,W2.drewN 1=Wd:=⟨_,rfl⟩
   rw [hWd] at hDd hKOd ⊢
   have hu:=hDd.u.cell
   have hv:=hDd.v.cell
   have hult:=hDd.u.lt
   have hcV:=Ztc hDd.vrow
   have cP:=Zqi w.heap.size gu i (p+m+1) cu ds2 (some ⟨gv,0,none⟩) cv V Wd hDd.urow (by omega) HV.out.2.1 (by rw [HVL.out];exact hcV) (by rw [HVL.out];exact hcv) HOK.out.vd (fun ad h=>.inr (by cases h;show gv ≠ gu;omega)) (by rw [HVL.out];omega) hcu (by have := HM.out;omega)
   rw [HVL.out] at cP
   have HDd:=Aside0.mk hDd
   have HKOd:=Aside0.mk hKOd
   have CP:=Aside0.mk cP
   clear hcV hDd hKOd cP hult hWd
   simp only [List.take_succ_cons,List.take_zero,List.drop_succ_cons,List.drop_zero]
   repeat still_step
   refine wpStill_nil ?_
   go_wp2_with (go_at_call 161;refine (CP.out).mono ?_;rintro e W3 ⟨rfl,hP⟩)
   obtain ⟨o,ds3,ho,hrow3,hd3,hl3,hv3,hs3⟩:=hP.out
   have hD3:=HDd.out.ofU hP.kept hP.low hrow3
   have hKO3:=HKOd.out.trans (Zih HDd.out.urow hP.kept)
   have hval3:=Digit.back (HGQ.out ▸ HDG.out) HOK.out ho HAT.out.dg hd3 (by have := HV.out.2.2.1;rw [HGQ.out] at this;exact this) hv3 (by rw [HVL.out];exact HV.out.2.2.2) hs3 HAT.out.low
   have hq:=hD3.q.cell
   have hc:=Zfe hD3.qrow (i:Int) (by omega) (by omega)
   rw [Int.toNat_natCast] at hc
   have hcc:=hc.1
   have hcf:=hc.2
   have hg1:(g:Int) < 4294967296:=HDG.out.g1
   have HD3:=Aside0.mk hD3
   have HKO3:=Aside0.mk hKO3
   have HV3:=Aside0.mk (And.intro (hl3.trans HV.out.1) (And.intro hd3 hval3))
   clear hD3 hKO3 hP hl3 hd3 hval3 hrow3 hs3 hv3 ho hc
   gi_wp2
   have hgq':(g:Int) - 1=q:=by have := HGQ.out;omega
   rw [hgq']
   exact ⟨((HKO3.out.trans (KeepsOthers.setCell W3 _ _)).from _),HD.out.kp (HD3.out.store i q),DvI.next HAT.out HOK.out hi HDG.out HV3.out.1 HV3.out.2.1 HV3.out.2.2 HD3.out HNX.out⟩
 case done =>
  rintro D ys W hDD ⟨hp',hpl⟩ ⟨sv,ds,qs,hat,hB⟩ hKD
  rw [hpl,Nat.sub_self] at hat
  obtain ⟨kq,ku,kr,tq,tu,tr⟩:=Zrw hat HOK.out HUV.out.1 HUV.out.2 HW0.out.1 HW0.out.2 HVL.out (by have := HP.out;omega) hmb HS1.out h2
  obtain ⟨QL,hQL⟩:∃ QL,limbs (num l0 / num l1)=QL:=⟨_,rfl⟩
  obtain ⟨RS,hRS⟩:∃ RS,limbs (num l0 % num l1*2 ^ s)=RS:=⟨_,rfl⟩
  obtain ⟨RL,hRL⟩:∃ RL,limbs (num l0 % num l1)=RL:=⟨_,rfl⟩
  rw [hQL] at tq
  rw [hRS] at tu tr
  rw [hRL] at tr
  have HQL:=Aside0.mk hQL
  have HRL:=Aside0.mk hRL
  have hql:=hat.qlen
  have hdl:ds.length=p+m+1:=by rw [hat.len];exact HUL.out
  have hlu:=hB.lu
  have huv:=hB.uv
  have hvK:=hB.vK
  have hslt:=hB.s.lt
  have hDlt:D < W.heap.size:=(Array.getElem?_eq_some_iff.1 hKD).1
  have hD2:K+1+1+1+1+1 < D:=by simp [hK] at hDD;omega
  have hRq:Kd.R (Kd.int .u32) 85 W.drew w.heap.size (fun k=>k=K+1+1+1) (.slice (some ⟨K+1+1+1,0,none⟩) m m) qs:=Kd.Zem (Kd.Zdd (enc:=Value.int .u32) (by rw [hql];exact hB.qrow) (fun k hk=>by simp [Value.ownBlock] at hk;exact hk.symm))
  have cT1:=Zv.calls kq (fun k=>k=K+1+1+1) _ qs QL w W.drew (Zaz hB.low) hRq tq
  have hqc:=hB.q.cell
  have huc:=hB.u.cell
  have HBs:=Aside0.mk hB
  have HKD:=Aside0.mk hKD
  have CT1:=Aside0.mk cT1
  have TU:=Aside0.mk tu
  have TR:=Aside0.mk tr
  have HDL:=Aside0.mk hdl
  clear hB hKD cT1 tu tr tq hat hRq hQL hRS hRL hp' hpl hD0 HD0 HAT0 HUV HW0 HKT HUL CC CL0 CL1 HE57 HS1 HV0l HOK hdl hql
  gi_wp2
  rename_i K1 hK1
  have e132:=enters_of Tryz.func132 (by kernel_rfl) rfl
  have e162:=enters_of Tryz.func162 (by kernel_rfl) rfl
  have hS0:∀ W':World,(∀ k,k < W.heap.size->k ≠ K+1+1+1->k ≠ gu->W'.heap[k]? = W.heap[k]?)->W'.cell? ⟨K+1+1+1+1,0,none⟩=some (.slice (some ⟨K+1+1+1,0,none⟩) m m)/\W'.cell? ⟨K,0,none⟩=some (.slice (some ⟨gu,0,none⟩) (p+m+1) cu):=fun W' hW' =>
   ⟨(World.cell?_of_block (hW' (K+1+1+1+1) (by omega) (by omega) (by omega))).trans hqc,(World.cell?_of_block (hW' K (by omega) (by omega) (by omega))).trans huc⟩
  refine Zfy (fun W':World=>W'.cell? ⟨K+1+1+1+1,0,none⟩=some (.slice (some ⟨K+1+1+1,0,none⟩) m m)/\W'.cell? ⟨K,0,none⟩=some (.slice (some ⟨gu,0,none⟩) (p+m+1) cu)) (by kernel_rfl) ?_
  refine wpAnyH_take (i:=0) rfl (by kernel_rfl) (by kernel_rfl) (by kernel_rfl) (fun _ _ _ h=>h) (v:=.slice (some ⟨K+1+1+1,0,none⟩) m m) (.inl ⟨by kernel_rfl,fun w hw=>?_⟩) (hS0 _ (fun _ _ _ _=>rfl)) ?_
  ·simp [execOp,Act.eval,go_sem,hw.1]
  refine wpAnyH_take (i:=2) rfl (by kernel_rfl) (by kernel_rfl) (by kernel_rfl) (fun _ _ _ h=>h) (v:=.slice (some ⟨gu,0,none⟩) (p+m+1) cu) (.inl ⟨by kernel_rfl,fun w hw=>?_⟩) (hS0 _ (fun _ _ _ _=>rfl)) ?_
  ·simp [execOp,Act.eval,go_sem,hw.2]
  refine wpAnyH_take (i:=4) rfl (by kernel_rfl) (by kernel_rfl) (by kernel_rfl) (fun _ _ _ h=>h) (v:=.int .i64 s) (.inl ⟨by kernel_rfl,fun w hw=>?_⟩) (hS0 _ (fun _ _ _ _=>rfl)) ?_
  ·simp [execOp,Act.eval,go_sem]
  refine Zgf (i:=1) (by kernel_rfl) rfl (by kernel_rfl) (f:=132) (args:=#[.slice (some ⟨K+1+1+1,0,none⟩) m m]) ?_ CT1.out ?_
  ·simp [execOp,Act.eval,go_sem,e132]
  rintro e w1' ⟨v0,rfl,hR0,hb0,hk0⟩
  have hS1:=hS0 w1' (fun k h1 h2 _=>hk0.2 k h1 h2)
  have hRu:Kd.R (Kd.int .u32) 85 w1' w.heap.size (fun k=>k=gu) (.slice (some ⟨gu,0,none⟩) (p+m+1) cu) ds:=Kd.Zdd (enc:=Value.int .u32) (by rw [HDL.out];exact Zec HBs.out.urow (hk0.2 gu (by show gu < W.heap.size;omega) (by omega))) (fun k hk=>by simp [Value.ownBlock] at hk;exact hk.symm)
  have cT2:=Zv.calls ku (fun k=>k=gu) _ ds RS w w1' hb0 hRu TU.out
  refine ⟨_,rfl,hS1,?_⟩
  refine Zgf (i:=3) (by kernel_rfl) rfl (by kernel_rfl) (f:=132) (args:=#[.slice (some ⟨gu,0,none⟩) (p+m+1) cu]) ?_ cT2 ?_
  ·simp [execOp,Act.eval,go_sem,e132]
  rintro e w2' ⟨v1,rfl,hR1,hb1',hk1⟩
  have hsz1:W.heap.size<=w1'.heap.size:=hk0.1
  have hS2:=hS0 w2' (fun k h1 h2 h3=>(hk1.2 k (by omega) h3).trans (hk0.2 k h1 h2))
  obtain ⟨A,c,rfl,hc,hC⟩:=Kd.Zhj hR1
  have cR:=Zz.calls kr A c RS (s:Int) RL w2' hC hc TR.out
  refine ⟨_,rfl,hS2,?_⟩
  refine Zgf (i:=5) (by kernel_rfl) rfl (by kernel_rfl) (f:=162) (args:=#[.slice A RS.length c,.int .i64 s]) ?_ cR ?_
  ·simp [execOp,Act.eval,go_sem,e162]
  rintro e w3' ⟨v2,rfl,hR2,hb2⟩
  have hS3:=hS0 w3' (fun k h1 h2 h3=>(hb2.block k (by have := hk1.1;omega)).trans ((hk1.2 k (by omega) h3).trans (hk0.2 k h1 h2)))
  refine ⟨_,rfl,hS3,?_⟩
  refine wpAnyH_take (i:=6) rfl (by kernel_rfl) (by kernel_rfl) (by kernel_rfl) (fun _ _ _ h=>h) (v:=v0) (.inl ⟨by kernel_rfl,fun w hw=>?_⟩) hS3 ?_
  ·simp [execOp,Act.eval,go_sem]
  refine wpAnyH_take (i:=7) rfl (by kernel_rfl) (by kernel_rfl) (by kernel_rfl) (fun _ _ _ h=>h) (v:=v2) (.inl ⟨by kernel_rfl,fun w hw=>?_⟩) hS3 ?_
  ·simp [execOp,Act.eval,go_sem]
  refine wpAnyH_done (by kernel_rfl) ?_ _
  refine NoPanic.normal ?_
  refine hK1 _ _ ?_
  refine Znb (b:={ tmps:=#[.slice A0 (p+m) c0,.slice (some ⟨b1,o1,none⟩) (p+1) c1,undef,undef,v0,v2,undef,undef,.int .i64 s,.pointer (some ⟨K,0,none⟩),.pointer (some ⟨K+1,0,none⟩),.pointer (some ⟨K+1+1,0,none⟩),.pointer (some ⟨K+1+1+1+1,0,none⟩),undef,undef,.bool false,
   .slice A0 (p+m) c0,.slice (some ⟨b1,o1,none⟩) (p+1) c1,.int .i64 cm,.bool false,undef,undef,.bool false,.slice (some ⟨b1,o1,none⟩) (p+1) c1,.int .i64 ((p:Int)+1),.bool false,undef,undef,undef,undef,undef,undef,undef,undef,undef,undef,undef,undef,
   .slice (some ⟨b1,o1,none⟩) (p+1) c1,.slice (some ⟨b1,o1,none⟩) (p+1) c1,.int .i64 ((p:Int)+1),.int .i64 p,.pointer (some ⟨b1,o1+p,none⟩),.int .u32 (x0:Int),.int .i64 s,.slice A0 (p+m) c0,.int .i64 s,.slice (some ⟨gu,0,none⟩) (p+m+1) cu,.slice (some ⟨b1,o1,none⟩) (p+1) c1,.int .i64 s,vb,.slice (some ⟨gv,0,none⟩) (p+1) cv,
   .slice (some ⟨gv,0,none⟩) (p+1) cv,.int .i64 ((p:Int)+1),.slice (some ⟨gu,0,none⟩) (p+m+1) cu,.int .i64 ((p:Int)+(m:Int)+1),.int .i64 ((p:Int)+1),.int .i64 m,.slice (some ⟨K+1+1+1,0,none⟩) m m,.slice (some ⟨K+1+1+1,0,none⟩) m m,.func (.func 184) #[] #[.pointer (some ⟨K+1+1+1+1+1,0,none⟩)],undef,undef,undef,undef,undef,undef,undef,undef,undef,undef,undef,undef,undef,undef,undef,undef,undef,undef,undef,undef,undef,undef,undef,undef,undef,undef,undef,undef,undef,undef,undef,undef,undef,undef,undef,undef,undef,undef,undef,undef,undef,undef,undef,undef,undef,undef,undef,undef,undef,undef,undef,undef,
   .slice (some ⟨K+1+1+1,0,none⟩) m m,v0,.slice (some ⟨gu,0,none⟩) (p+m+1) cu,.slice A RS.length c,.int .i64 s,v2],defers:=[{ target:=.collected D,args:=#[] }] }) (by kernel_rfl) ?_
  clear hK1
  gi_wp2
  have hK':w3'.heap[D]? = some (.deferred (some [])):=(hb2.block D (by have := hk1.1;omega)).trans ((hk1.2 D (by omega) (by omega)).trans ((hk0.2 D hDlt (by omega)).trans HKD.out))
  refine ⟨by simp,.inl ⟨_,_,rfl,run_takeDeferred hK',?_⟩⟩
  have hO0:=Kd.Zdq (enc:=Value.int .u32) hR0
  have hne0:v0.ownBlock ≠ some gu:=fun e=>by
   rcases hR0.1 gu e with h|h
   ·omega
   ·have:W.heap.size<=gu:=h
    omega
  have hO2:=Zoy hO0 hk1 hne0
  have hR0':Kd.R (Kd.int .u32) 85 w2' w.heap.size (fun k=>some k=v0.ownBlock) v0 QL:=Kd.Zdd (enc:=Value.int .u32) hO2 (fun k hk=>hk.symm)
  have hR2':=Kd.Zdx hR2
  have hap:∀ k,v0.ownBlock=some k->v2.ownBlock=some k->False:=fun k h1 h2=>Zhn hO2 hR2' (fun k hk=>hk.2.1) h1 h2
  have hnD0:v0.ownBlock ≠ some D:=fun e=>by
   rcases hR0.1 D e with h|h
   ·omega
   ·have:W.heap.size<=D:=h
    omega
  have hnD2:v2.ownBlock ≠ some D:=fun e=>by
   have h1:=hk1.1
   have h2:=(hR2'.1 D e).2.1
   omega
  refine ⟨_,by simp [results,Tryz.f127,go_sem],v0,v2,rfl,?_,?_,?_⟩
  ·rw [HQL.out]
   exact Kd.Zi (Kd.Zkp (Kd.Za hR0' hb2) (grownBy_putObj' _ D (.deferred none)) (fun k hk e=>by cases e;exact hnD0 hk.symm)) (fun k hk e=>hap k hk.symm e.symm)
  ·rw [HRL.out]
   exact Kd.Zi (Kd.Zkp (Kd.Zdd (ok:=fun k=>some k=v2.ownBlock) (enc:=Value.int .u32) (Zex (Kd.Zdq (enc:=Value.int .u32) hR2) hb1'.size) (fun k hk=>hk.symm)) (grownBy_putObj' _ D (.deferred none)) (fun k hk e=>by cases e;exact hnD2 hk.symm)) (fun k hk e=>hap k e.symm hk.symm)
  ·exact (hb1'.trans (hb2.mono hb1'.size)).trans (belowK_b (w:=w) (Nat.le_refl _) _ D _ _ (by omega) hK' rfl rfl)
def Zcx.f (l0 l1:List Int):Option (List Int × List Int):=if okW l0 && (okW l1 && decide (l1 ≠ [])) then some (limbs (num l0 / num l1),limbs (num l0 % num l1)) else none
theorem Zcx.calls (A0:Option Addr) (c0:Nat) (l0:List Int) (A1:Option Addr) (c1:Nat) (l1:List Int) (r1 r2:List Int) (w:World) (hr0:Kd.C (Kd.int .u32) w A0 l0.length l0) (hc0:l0.length<=c0) (hr1:Kd.C (Kd.int .u32) w A1 l1.length l1) (hc1:l1.length<=c1) (h:Zcx.f l0 l1=some (r1,r2)) :
  Calls Tryz.prog 127 #[.slice A0 l0.length c0,.slice A1 l1.length c1] w fun e w' => ∃ v0_ v1_:Value,e=.returned (.tuple #[v0_,v1_])/\Kd.R (Kd.int .u32) 85 w' w.heap.size (fun k_=>some k_ ≠ (v1_:Value).ownBlock) v0_ r1/\Kd.R (Kd.int .u32) 85 w' w.heap.size (fun k_=>some k_ ≠ (v0_:Value).ownBlock) v1_ r2/\Below w.heap.size w w':=by
 unfold Zcx.f at h
 split at h
 case isFalse=>cases h
 case isTrue hk =>
 simp only [Bool.and_eq_true,Zd9,decide_eq_true_eq] at hk
 obtain ⟨rfl,rfl⟩:=Prod.mk.inj (Option.some.inj h)
 obtain ⟨h0,h1,hne⟩:=hk
 by_cases hlt:num l0 < num l1
 ·have := Zp0 A0 c0 l0 A1 c1 l1 w hr0 hc0 hr1 hc1 h0 h1 hlt
  rw [Nat.div_eq_of_lt hlt,Nat.mod_eq_of_lt hlt,show limbs (num l0)=l0 from Zrb (b:=4294967296) (by omega) h0.dg h0.nz]
  exact this
 ·by_cases hone:l1.length=1
  ·exact div_one A0 c0 l0 A1 c1 l1 w hr0 hc0 hr1 hc1 h0 h1 hlt hone
  ·exact Zp1 A0 c0 l0 A1 c1 l1 w hr0 hc0 hr1 hc1 h0 h1 hlt (by
    have:l1.length ≠ 0:=fun e=>hne (List.eq_nil_of_length_eq_zero e)
    omega)
end YtjbjkmccfocikaaGreatDoor.B
end
section
namespace YtjbjkmccfocikaaGreatDoor.B
open Go.RowKit YtjbjkmccfocikaaGreatDoorW.PrintWords YtjbjkmccfocikaaGreatDoorW.PrintLast YtjbjkmccfocikaaGreatDoorW.PrintMore
attribute [local go_sem] Zb5 Zb7 Zcs Zct Zbn Zbo Zb6 Zb8
def Zbt.l0:Nat->List Int->List Int->Option (List Int)
 | 0,_,_=>none
 | k+1,x0,x3=>(Zcx.f x0 x3).bind fun bt442=>((Zac.f k x3 bt442.1).bind fun t448=>((Zz.f k t448 1).bind fun t451=>((Zax.f t451 x3).bind fun t454=>(if t454 >= 0 then (some x3) else (Zbt.l0 k x0 t451)))))
def Zbt.f (k:Nat) (l0:List Int):Option (List Int):=if (l0.length:Int)=0 then (some ([]:List Int)) else (if 0<=(wrap64 (Int.tdiv (wrap64 ((l0.length:Int)+1)) 2)) then (if (wrap64 (Int.tdiv (wrap64 ((l0.length:Int)+1)) 2):Int).toNat<=70368744177664 then ((some (List.replicate (wrap64 (Int.tdiv (wrap64 ((l0.length:Int)+1)) 2):Int).toNat 0:List Int)).bind fun y436=>(if y436.length < 35184372088832 then (Zbt.l0 k l0 (y436 ++ [1])) else (none))) else (none)) else (none))
theorem Zbt.calls (k:Nat) (A0:Option Addr) (c0:Nat) (l0:List Int) (r:List Int) (w:World) (hr0:Kd.C (Kd.int .u32) w A0 l0.length l0) (hc0:l0.length<=c0) (h:Zbt.f k l0=some r) :
  Calls Tryz.prog 135 #[.slice A0 l0.length c0] w fun e w' => ∃ v0_:Value,e=.returned (v0_)/\Kd.R (Kd.int .u32) 85 w' w.heap.size (fun _=>True) v0_ r/\Below w.heap.size w w':=by
 have HR0:=am hr0
 have HC0:=am hc0
 clear hr0 hc0
 have HB:=am (Below.refl w.heap.size w)
 have H:(if (l0.length:Int)=0 then (some ([]:List Int)) else (if 0<=(wrap64 (Int.tdiv (wrap64 ((l0.length:Int)+1)) 2)) then (if (wrap64 (Int.tdiv (wrap64 ((l0.length:Int)+1)) 2):Int).toNat<=70368744177664 then ((some (List.replicate (wrap64 (Int.tdiv (wrap64 ((l0.length:Int)+1)) 2):Int).toNat 0:List Int)).bind fun y436=>(if y436.length < 35184372088832 then (Zbt.l0 k l0 (y436 ++ [1])) else (none))) else (none)) else (none)))=some r:=h
 clear h
 by_cases c2:(l0.length:Int)=0
 ·rw [if_pos c2] at H
  have c2b0:((l0.length:Int) == 0)=true:=beq_iff_eq.mpr c2
  have c2b1:((l0.length:Int) != 0)=false:=bne_eq_false_iff_eq.mpr c2
  clear c2
  obtain rfl:=Option.some.inj H
  go_enter Tryz.func135,Tryz.ntmps135
  go_wp2
  go_ret
  exact ⟨_,pE,pN,pB⟩
 ·rw [if_neg c2] at H
  have c2b0:((l0.length:Int) == 0)=false:=beq_eq_false_iff_ne.mpr c2
  have c2b1:((l0.length:Int) != 0)=true:=bne_iff_ne.mpr c2
  have c2b2:¬ (l0=[]):=fun h_=>c2 (by rw [h_];rfl)
  obtain ⟨ji3,hji3⟩:∃ j_:Int,(wrap64 (Int.tdiv (wrap64 ((l0.length:Int)+1)) 2))=j_:=⟨_,rfl⟩
  replace H:(if 0<=(ji3) then (if (ji3:Int).toNat<=70368744177664 then ((some (List.replicate (ji3:Int).toNat 0:List Int)).bind fun y436=>(if y436.length < 35184372088832 then (Zbt.l0 k l0 (y436 ++ [1])) else (none))) else (none)) else (none))=some r:=by first|(rw [hji3] at H;exact H)|(simp only [hji3] at H ⊢;exact H)
  have hji3w:(IntKind.i64.wrap (Int.tdiv (wrap64 ((l0.length:Int)+1)) 2))=ji3:=(Zcd _).trans hji3
  by_cases c4:0<=(ji3)
  ·rw [if_pos c4] at H
   have c4b0:=eq_true c4
   have c4b1:decide (0<=(ji3))=true:=decide_eq_true c4
   clear c4
   by_cases c5:(ji3:Int).toNat<=70368744177664
   ·rw [if_pos c5] at H
    have c5b0:=eq_true c5
    have c5b1:decide ((ji3:Int).toNat<=70368744177664)=true:=decide_eq_true c5
    clear c5
    obtain ⟨y436,hy436⟩:∃ y_:List Int,y_=(List.replicate (ji3:Int).toNat 0):=⟨_,rfl⟩
    replace H:(if y436.length < 35184372088832 then (Zbt.l0 k l0 (y436 ++ [1])) else (none))=some r:=by have hy_:=hy436;exact pH
    have Ny436:=am hy436
    clear hy436
    by_cases c6:y436.length < 35184372088832
    ·rw [if_pos c6] at H
     have LMc6:=am c6
     clear c6
     obtain ⟨y439,hy439⟩:∃ y_:List Int,y_=(y436 ++ [1]):=⟨_,rfl⟩
     replace H:(Zbt.l0 k l0 y439)=some r:=by have hy_:=hy439;exact pH
     have Ny439:=am hy439
     clear hy439
     have H':=am H
     clear H
     go_enter Tryz.func135,Tryz.ntmps135
     go_wp2_with (first|((with_reducible refine gd 14 ?_);refine Kd.Zji (Kd.int .u32) _ 85 rfl (N:=14) rfl 134 _ _ rfl ji3 rfl rfl Tryz.underlying134 (.int .u32 0) 4 info85 rfl (by decide) (by omega) 0 (ok:=fun _=>True) (okp:=fun _=>True) rfl (fun _ hk=>hk) trivial (of_decide_eq_true pQ) (Nat.le_trans (Nat.mul_le_mul_right _ (of_decide_eq_true pQ:ji3.toNat<=70368744177664)) (by omega)) (Below.refl _ _) (Nat.le_refl _) ?_;intro v437 w7 ho8 hb hg_ hnew_;clear hg_ hnew_;(first|rw [<- Ny436.out] at ho8|(simp only [Int.reduceToNat] at ho8;rw [<- Ny436.out] at ho8));have HO438:=am (Kd.Zq ho8 (Zb pB));replace HB:=bS hb;clear hb ho8)|((with_reducible refine Zan (b:=.append) (xs:=#[.tmp 14,.tmp 15]) rfl ?_);at_builtin;refine Kd.Zbz (Kd.int .u32) (w0:=w) w.heap.size rfl (.tmp 14) (.tmp 15) 134 85 (.int .u32 0) 4 rfl Tryz.underlying134 info85 rfl (by decide) (by omega) v437 y436 1 [.int .u32 1] (fun _=>True) (fun _=>False) rfl rfl ?aP (fun _ hk=>hk.elim) ?aF ?aO ?aB ?aS ?aL ?_;(case aP=>exact rfl);(case aB=>exact pB);(case aF=>exact (fun _ _=>trivial));(case aO=>exact (Kd.Za HO438.o pl));(case aS=>exact (Zb pB));(case aL=>have := LMc6.o;omega);intro v440 w9 ho hb hg hat;rw [<- Ny439.out] at ho;have HO441:=am ho;replace HB:=am hb;clear HO438 ho hb hg hat))
     go_loopg [3] k (fun kq v3 w' => ∃ (x3_1:List Int),Aside0 (Zbt.l0 kq l0 x3_1=some r)/\Aside0 (kq<=k)/\Aside0 (Kd.R (Kd.int .u32) 85 w' w.heap.size (fun _=>True) v3 x3_1)/\Aside0 (Below w.heap.size w w'))
     case atStart=>exact ⟨(y439),H',⟨Nat.le_refl _⟩,⟨by refine rp ?_;exact HO441.o⟩,⟨pB⟩⟩
     case round =>
      clear H'
      obtain ⟨x3_1,HA,HK1,HO_3,HB⟩:=hrel
      cases gk with
      | zero=>exact absurd HA.out (by simp [Zbt.l0])
      | succ k1 =>
       have H:=HA.out
       clear HA
       simp only [Zbt.l0] at H
       obtain ⟨⟨t442,t443⟩,A10,H⟩:=ob H;(try dsimp only at H)
       obtain ⟨t448,A11,H⟩:=ob H
       obtain ⟨t451,A12,H⟩:=ob H
       obtain ⟨t454,A13,H⟩:=ob H
       by_cases c14:t454 >= 0
       ·rw [if_pos c14] at H
        have c14b0:decide (0<=t454)=true:=decide_eq_true c14
        clear c14
        obtain rfl:=Option.some.inj H
        obtain ⟨Ao15,co15,eo15⟩:=Kd.Zj HO_3.o
        subst eo15
        go_wp2_with (first|(refine gL (some 20) Tryz.func127 #[.slice A0 l0.length c0,.slice Ao15 x3_1.length co15] (h:=?_);(with_reducible refine (Zcx.calls _ _ l0 _ _ x3_1 t442 t443 _ ?side1 ?side2 ?side3 ?side4 A10.o).mono ?_);(case side1=>exact cB HR0 HB);(case side2=>exact HC0.o);(case side3=>exact Kd.Zx (Kd.Zd HO_3.o).2.2 pl);(case side4=>exact (Kd.Zd HO_3.o).2.1);rintro e w16 ⟨v444,v446,rfl,ho0,ho1,hb⟩;refine ⟨_,rfl,?_⟩;have HO445:=am (Kd.Zq (Kd.Zr ho0 (Kd.R_lt (Kd.Za HO_3.o pl))) (Zb pB));have HO447:=am (Kd.Zq (Kd.Zr ho1 (Kd.R_lt (Kd.Za HO_3.o pl))) (Zb pB));replace HO_3:=am (Kd.Zi (Kd.Zc7 (Kd.Zc7 (Kd.Zgo (Kd.Za HO_3.o pl) hb) (Kd.Zap ho0)) (Kd.Zap ho1)) (fun _ h_=>h_.1));replace HB:=bS hb;obtain ⟨Ao17,co17,eo17⟩:=Kd.Zj HO445.o;subst eo17)|(refine gL (some 25) Tryz.func131 #[.slice Ao15 x3_1.length co15,.slice Ao17 t442.length co17] (h:=?_);(with_reducible refine (Zac.calls k1 _ _ x3_1 _ _ t442 t448 _ ?side1 ?side2 ?side3 ?side4 A11.o).mono ?_);(case side1=>exact Kd.Zx (Kd.Zd HO_3.o).2.2 pl);(case side2=>exact (Kd.Zd HO_3.o).2.1);(case side3=>exact Kd.Zx (Kd.Zd HO445.o).2.2 pl);(case side4=>exact (Kd.Zd HO445.o).2.1);rintro e w18 ⟨v449,rfl,ho0,hb⟩;refine ⟨_,rfl,?_⟩;have HO450:=am (Kd.Zq (Kd.Zr (Kd.Zr (Kd.Zr ho0 (Kd.R_lt (Kd.Za HO_3.o pl))) (Kd.R_lt (Kd.Za HO445.o pl))) (Kd.R_lt (Kd.Za HO447.o pl))) (Zb pB));replace HO_3:=reR HO_3 ho0 hb;replace HO445:=reR HO445 ho0 hb;replace HO447:=reR HO447 ho0 hb;replace HB:=bS hb;obtain ⟨Ao19,co19,eo19⟩:=Kd.Zj HO450.o;subst eo19)|(refine gL (some 26) Tryz.func162 #[.slice Ao19 t448.length co19,.int .i64 1] (h:=?_);(with_reducible refine (Zz.calls k1 _ _ t448 1 t451 _ ?side1 ?side2 A12.o).mono ?_);(case side1=>exact Kd.Zx (Kd.Zd HO450.o).2.2 pl);(case side2=>exact (Kd.Zd HO450.o).2.1);rintro e w20 ⟨v452,rfl,ho0,hb⟩;refine ⟨_,rfl,?_⟩;have HO453:=am (Kd.Zq (Kd.Zr (Kd.Zr (Kd.Zr (Kd.Zr ho0 (Kd.R_lt (Kd.Za HO_3.o pl))) (Kd.R_lt (Kd.Za HO445.o pl))) (Kd.R_lt (Kd.Za HO447.o pl))) (Kd.R_lt (Kd.Za HO450.o pl))) (Zb pB));replace HO_3:=reR HO_3 ho0 hb;replace HO445:=reR HO445 ho0 hb;replace HO447:=reR HO447 ho0 hb;replace HO450:=reR HO450 ho0 hb;replace HB:=bS hb;obtain ⟨Ao21,co21,eo21⟩:=Kd.Zj HO453.o;subst eo21)|(refine gL (some 29) Tryz.func138 #[.slice Ao21 t451.length co21,.slice Ao15 x3_1.length co15] (h:=?_);(with_reducible refine (Zax.calls _ _ t451 _ _ x3_1 t454 _ ?side1 ?side2 ?side3 ?side4 A13.o).mono ?_);(case side1=>exact Kd.Zx (Kd.Zd HO453.o).2.2 pl);(case side2=>exact (Kd.Zd HO453.o).2.1);(case side3=>exact Kd.Zx (Kd.Zd HO_3.o).2.2 pl);(case side4=>exact (Kd.Zd HO_3.o).2.1);rintro e w22 ⟨rfl,hb⟩;refine ⟨_,rfl,?_⟩;replace HO_3:=rbl HO_3 hb;replace HO445:=rbl HO445 hb;replace HO447:=rbl HO447 hb;replace HO450:=rbl HO450 hb;replace HO453:=rbl HO453 hb;replace HB:=bS hb))
        go_ret
        exact ⟨_,by first|rfl|(simp [Zak,Zal] <;> rfl)|(simp only [<- hji3];first|rfl|(simp [Zak,Zal] <;> rfl))|(simp [*,Zak,Zal] <;> rfl),by refine rp ?_;exact Kd.Zi HO_3.o (fun _ hk=>trivial),pB⟩
       ·rw [if_neg c14] at H
        have c14b0:decide (0<=t454)=false:=decide_eq_false c14
        clear c14
        have H':=am H
        clear H
        obtain ⟨Ao23,co23,eo23⟩:=Kd.Zj HO_3.o
        subst eo23
        go_wp2_with (first|(refine gL (some 20) Tryz.func127 #[.slice A0 l0.length c0,.slice Ao23 x3_1.length co23] (h:=?_);(with_reducible refine (Zcx.calls _ _ l0 _ _ x3_1 t442 t443 _ ?side1 ?side2 ?side3 ?side4 A10.o).mono ?_);(case side1=>exact cB HR0 HB);(case side2=>exact HC0.o);(case side3=>exact Kd.Zx (Kd.Zd HO_3.o).2.2 pl);(case side4=>exact (Kd.Zd HO_3.o).2.1);rintro e w24 ⟨v444,v446,rfl,ho0,ho1,hb⟩;refine ⟨_,rfl,?_⟩;have HO445:=am (Kd.Zq (Kd.Zr ho0 (Kd.R_lt (Kd.Za HO_3.o pl))) (Zb pB));have HO447:=am (Kd.Zq (Kd.Zr ho1 (Kd.R_lt (Kd.Za HO_3.o pl))) (Zb pB));replace HO_3:=am (Kd.Zi (Kd.Zc7 (Kd.Zc7 (Kd.Zgo (Kd.Za HO_3.o pl) hb) (Kd.Zap ho0)) (Kd.Zap ho1)) (fun _ h_=>h_.1));replace HB:=bS hb;obtain ⟨Ao25,co25,eo25⟩:=Kd.Zj HO445.o;subst eo25)|(refine gL (some 25) Tryz.func131 #[.slice Ao23 x3_1.length co23,.slice Ao25 t442.length co25] (h:=?_);(with_reducible refine (Zac.calls k1 _ _ x3_1 _ _ t442 t448 _ ?side1 ?side2 ?side3 ?side4 A11.o).mono ?_);(case side1=>exact Kd.Zx (Kd.Zd HO_3.o).2.2 pl);(case side2=>exact (Kd.Zd HO_3.o).2.1);(case side3=>exact Kd.Zx (Kd.Zd HO445.o).2.2 pl);(case side4=>exact (Kd.Zd HO445.o).2.1);rintro e w26 ⟨v449,rfl,ho0,hb⟩;refine ⟨_,rfl,?_⟩;have HO450:=am (Kd.Zq (Kd.Zr (Kd.Zr (Kd.Zr ho0 (Kd.R_lt (Kd.Za HO_3.o pl))) (Kd.R_lt (Kd.Za HO445.o pl))) (Kd.R_lt (Kd.Za HO447.o pl))) (Zb pB));replace HO_3:=reR HO_3 ho0 hb;replace HO445:=reR HO445 ho0 hb;replace HO447:=reR HO447 ho0 hb;replace HB:=bS hb;obtain ⟨Ao27,co27,eo27⟩:=Kd.Zj HO450.o;subst eo27)|(refine gL (some 26) Tryz.func162 #[.slice Ao27 t448.length co27,.int .i64 1] (h:=?_);(with_reducible refine (Zz.calls k1 _ _ t448 1 t451 _ ?side1 ?side2 A12.o).mono ?_);(case side1=>exact Kd.Zx (Kd.Zd HO450.o).2.2 pl);(case side2=>exact (Kd.Zd HO450.o).2.1);rintro e w28 ⟨v452,rfl,ho0,hb⟩;refine ⟨_,rfl,?_⟩;have HO453:=am (Kd.Zq (Kd.Zr (Kd.Zr (Kd.Zr (Kd.Zr ho0 (Kd.R_lt (Kd.Za HO_3.o pl))) (Kd.R_lt (Kd.Za HO445.o pl))) (Kd.R_lt (Kd.Za HO447.o pl))) (Kd.R_lt (Kd.Za HO450.o pl))) (Zb pB));replace HO_3:=reR HO_3 ho0 hb;replace HO445:=reR HO445 ho0 hb;replace HO447:=reR HO447 ho0 hb;replace HO450:=reR HO450 ho0 hb;replace HB:=bS hb;obtain ⟨Ao29,co29,eo29⟩:=Kd.Zj HO453.o;subst eo29)|(refine gL (some 29) Tryz.func138 #[.slice Ao29 t451.length co29,.slice Ao23 x3_1.length co23] (h:=?_);(with_reducible refine (Zax.calls _ _ t451 _ _ x3_1 t454 _ ?side1 ?side2 ?side3 ?side4 A13.o).mono ?_);(case side1=>exact Kd.Zx (Kd.Zd HO453.o).2.2 pl);(case side2=>exact (Kd.Zd HO453.o).2.1);(case side3=>exact Kd.Zx (Kd.Zd HO_3.o).2.2 pl);(case side4=>exact (Kd.Zd HO_3.o).2.1);rintro e w30 ⟨rfl,hb⟩;refine ⟨_,rfl,?_⟩;replace HO_3:=rbl HO_3 hb;replace HO445:=rbl HO445 hb;replace HO447:=rbl HO447 hb;replace HO450:=rbl HO450 hb;replace HO453:=rbl HO453 hb;replace HB:=bS hb))
        go_roundg k1
        case measure=>have := HK1.out;omega
        case rel=>exact ⟨(t451),(by first|exact H'|(have H_:=H'.out;simp only [<- hji3] at H_;exact ⟨H_⟩)|(refine ⟨?_⟩;have H_:=H'.out;simp only [<- hji3] at H_ ⊢;exact H_)),⟨by have := HK1.out;omega⟩,⟨by refine rp ?_;exact Kd.Zi HO453.o (fun _ hk=>trivial)⟩,⟨pB⟩⟩
    ·rw [if_neg c6] at H
     exact absurd H (by simp)
   ·rw [if_neg c5] at H
    exact absurd H (by simp)
  ·rw [if_neg c4] at H
   exact absurd H (by simp)
def Zfq.f (k:Nat) (l0:List Int):Option (List Int × Int):=(Za0.f l0).bind fun t455=>(if t455=0 then ((Zbt.f k l0).bind fun t456=>(some (t456,0))) else (some (([]:List Int),t455)))
theorem Zfq.calls (k:Nat) (A0:Option Addr) (c0:Nat) (l0:List Int) (r1:List Int) (r2:Int) (w:World) (hr0:Kd.C (Kd.int .u32) w A0 l0.length l0) (hc0:l0.length<=c0) (h:Zfq.f k l0=some (r1,r2)) :
  Calls Tryz.prog 82 #[.slice A0 l0.length c0] w fun e w' => ∃ v0_:Value,e=.returned (.tuple #[v0_,.int .i64 r2])/\Kd.R (Kd.int .u32) 85 w' w.heap.size (fun _=>True) v0_ r1/\Below w.heap.size w w':=by
 have HR0:=am hr0
 have HC0:=am hc0
 clear hr0 hc0
 have HB:=am (Below.refl w.heap.size w)
 have H:((Za0.f l0).bind fun t455=>(if t455=0 then ((Zbt.f k l0).bind fun t456=>(some (t456,0))) else (some (([]:List Int),t455))))=some (r1,r2):=h
 clear h
 obtain ⟨t455,A2,H⟩:=ob H
 by_cases c3:t455=0
 ·rw [if_pos c3] at H
  have c3b0:(t455 == 0)=true:=beq_iff_eq.mpr c3
  have c3b1:(t455 != 0)=false:=bne_eq_false_iff_eq.mpr c3
  clear c3
  obtain ⟨t456,A4,H⟩:=ob H
  simp only [Option.some.injEq,Prod.mk.injEq] at H
  obtain ⟨rfl,rfl⟩:=H
  go_enter Tryz.func82,Tryz.ntmps82
  go_wp2_with (first|(refine gL (some 6) Tryz.func108 #[.slice A0 l0.length c0] (h:=?_);(with_reducible refine (Za0.calls _ _ l0 t455 _ ?side1 ?side2 A2.o).mono ?_);(case side1=>refine cp ?_;exact HR0.o);(case side2=>exact HC0.o);rintro e w' ⟨rfl,⟨nd,rfl⟩⟩;refine ⟨_,rfl,?_⟩)|(refine gL (some 11) Tryz.func135 #[.slice A0 l0.length c0] (h:=?_);(with_reducible refine (Zbt.calls k _ _ l0 t456 _ ?side1 ?side2 A4.o).mono ?_);(case side1=>refine cp ?_;exact HR0.o);(case side2=>exact HC0.o);rintro e w5 ⟨v457,rfl,ho0,hb⟩;refine ⟨_,rfl,?_⟩;have HO458:=am (Kd.Zq ho0 (Zb pB));replace HB:=bS hb))
  go_ret2
  exact ⟨_,pE,by refine rp ?_;exact HO458.o,pB⟩
 ·rw [if_neg c3] at H
  have c3b0:(t455 == 0)=false:=beq_eq_false_iff_ne.mpr c3
  have c3b1:(t455 != 0)=true:=bne_iff_ne.mpr c3
  simp only [Option.some.injEq,Prod.mk.injEq] at H
  obtain ⟨rfl,rfl⟩:=H
  go_enter Tryz.func82,Tryz.ntmps82
  go_wp2_with (first|(refine gL (some 6) Tryz.func108 #[.slice A0 l0.length c0] (h:=?_);(with_reducible refine (Za0.calls _ _ l0 t455 _ ?side1 ?side2 A2.o).mono ?_);(case side1=>refine cp ?_;exact HR0.o);(case side2=>exact HC0.o);rintro e w' ⟨rfl,⟨nd,rfl⟩⟩;refine ⟨_,rfl,?_⟩))
  go_ret2
  exact ⟨_,pE,pN,pB⟩
end YtjbjkmccfocikaaGreatDoor.B
end
end Go.Proofs
