/- QuotHalf, part 4 of 7 of its proof (no condition); names with a low line are shortened throughout. -/
import Derived.Test.YtjbjkmccfocikaaGreatDoorZQuotHalf2
set_option linter.unusedVariables false
set_option linter.unusedSimpArgs false
set_option maxRecDepth 100000
set_option maxHeartbeats 8000000
namespace Go.Proofs
section
namespace YtjbjkmccfocikaaGreatDoor.B
open Go.RowKit YtjbjkmccfocikaaGreatDoorW.PrintWords YtjbjkmccfocikaaGreatDoorW.PrintLast YtjbjkmccfocikaaGreatDoorW.PrintMore
attribute [local go_sem] Zb5 Zb7 Zcs Zct Zbn Zbo Zb6 Zb8
def Zdm.f (k:Nat) (l0:List Int) (l1:List Int):Option (List Int × List Int × Int):=(Zdh.f k l0 l1).bind fun t134=>(if t134=0 then (if (l1.length:Int)=0 then (some (([]:List Int),([]:List Int),53)) else ((Zcx.f l0 l1).bind fun bt135=>(some (bt135.1,bt135.2,0)))) else (some (([]:List Int),([]:List Int),t134)))
theorem Zdm.calls (k:Nat) (A0:Option Addr) (c0:Nat) (l0:List Int) (A1:Option Addr) (c1:Nat) (l1:List Int) (r1:List Int) (r2:List Int) (r3:Int) (w:World) (hr0:Kd.C (Kd.int .u32) w A0 l0.length l0) (hc0:l0.length<=c0) (hr1:Kd.C (Kd.int .u32) w A1 l1.length l1) (hc1:l1.length<=c1) (h:Zdm.f k l0 l1=some (r1,r2,r3)) :
  Calls Tryz.prog 69 #[.slice A0 l0.length c0,.slice A1 l1.length c1] w fun e w' => ∃ v0_ v1_:Value,e=.returned (.tuple #[v0_,v1_,.int .i64 r3])/\Kd.R (Kd.int .u32) 85 w' w.heap.size (fun k_=>some k_ ≠ (v1_:Value).ownBlock) v0_ r1/\Kd.R (Kd.int .u32) 85 w' w.heap.size (fun k_=>some k_ ≠ (v0_:Value).ownBlock) v1_ r2/\Below w.heap.size w w':=by
 have HR0:=am hr0
 have HC0:=am hc0
 clear hr0 hc0
 have HR1:=am hr1
 have HC1:=am hc1
 clear hr1 hc1
 have HB:=am (Below.refl w.heap.size w)
 have H:((Zdh.f k l0 l1).bind fun t134=>(if t134=0 then (if (l1.length:Int)=0 then (some (([]:List Int),([]:List Int),53)) else ((Zcx.f l0 l1).bind fun bt135=>(some (bt135.1,bt135.2,0)))) else (some (([]:List Int),([]:List Int),t134))))=some (r1,r2,r3):=h
 clear h
 obtain ⟨t134,A3,H⟩:=ob H
 by_cases c4:t134=0
 ·rw [if_pos c4] at H
  have c4b0:(t134 == 0)=true:=beq_iff_eq.mpr c4
  have c4b1:(t134 != 0)=false:=bne_eq_false_iff_eq.mpr c4
  clear c4
  by_cases c5:(l1.length:Int)=0
  ·rw [if_pos c5] at H
   have c5b0:((l1.length:Int) == 0)=true:=beq_iff_eq.mpr c5
   have c5b1:((l1.length:Int) != 0)=false:=bne_eq_false_iff_eq.mpr c5
   clear c5
   simp only [Option.some.injEq,Prod.mk.injEq] at H
   obtain ⟨rfl,rfl,rfl⟩:=H
   go_enter Tryz.func69,Tryz.ntmps69
   go_wp2_with (first|(refine gL (some 12) Tryz.func126 #[.slice A0 l0.length c0,.slice A1 l1.length c1] (h:=?_);(with_reducible refine (Zdh.calls k _ _ l0 _ _ l1 t134 _ ?side1 ?side2 ?side3 ?side4 A3.o).mono ?_);(case side1=>refine cp ?_;exact HR0.o);(case side2=>exact HC0.o);(case side3=>refine cp ?_;exact HR1.o);(case side4=>exact HC1.o);rintro e w6 ⟨rfl,hb⟩;refine ⟨_,rfl,?_⟩;replace HB:=bS hb))
   go_ret3
   exact ⟨_,_,pE,pN,pN,pB⟩
  ·rw [if_neg c5] at H
   have c5b0:((l1.length:Int) == 0)=false:=beq_eq_false_iff_ne.mpr c5
   have c5b1:((l1.length:Int) != 0)=true:=bne_iff_ne.mpr c5
   have c5b2:¬ (l1=[]):=fun h_=>c5 (by rw [h_];rfl)
   obtain ⟨⟨t135,t136⟩,A7,H⟩:=ob H;(try dsimp only at H)
   simp only [Option.some.injEq,Prod.mk.injEq] at H
   obtain ⟨rfl,rfl,rfl⟩:=H
   go_enter Tryz.func69,Tryz.ntmps69
   go_wp2_with (first|(refine gL (some 12) Tryz.func126 #[.slice A0 l0.length c0,.slice A1 l1.length c1] (h:=?_);(with_reducible refine (Zdh.calls k _ _ l0 _ _ l1 t134 _ ?side1 ?side2 ?side3 ?side4 A3.o).mono ?_);(case side1=>refine cp ?_;exact HR0.o);(case side2=>exact HC0.o);(case side3=>refine cp ?_;exact HR1.o);(case side4=>exact HC1.o);rintro e w8 ⟨rfl,hb⟩;refine ⟨_,rfl,?_⟩;replace HB:=bS hb)|(refine gL (some 22) Tryz.func127 #[.slice A0 l0.length c0,.slice A1 l1.length c1] (h:=?_);(with_reducible refine (Zcx.calls _ _ l0 _ _ l1 t135 t136 _ ?side1 ?side2 ?side3 ?side4 A7.o).mono ?_);(case side1=>exact cB HR0 HB);(case side2=>exact HC0.o);(case side3=>exact cB HR1 HB);(case side4=>exact HC1.o);rintro e w9 ⟨v137,v139,rfl,ho0,ho1,hb⟩;refine ⟨_,rfl,?_⟩;have HO138:=am (Kd.Zq ho0 (Zb pB));have HO140:=am (Kd.Zq ho1 (Zb pB));replace HB:=bS hb))
   go_ret3
   exact ⟨_,_,pE,by refine rp ?_;exact HO138.o,by refine rp ?_;exact HO140.o,pB⟩
 ·rw [if_neg c4] at H
  have c4b0:(t134 == 0)=false:=beq_eq_false_iff_ne.mpr c4
  have c4b1:(t134 != 0)=true:=bne_iff_ne.mpr c4
  simp only [Option.some.injEq,Prod.mk.injEq] at H
  obtain ⟨rfl,rfl,rfl⟩:=H
  go_enter Tryz.func69,Tryz.ntmps69
  go_wp2_with (first|(refine gL (some 12) Tryz.func126 #[.slice A0 l0.length c0,.slice A1 l1.length c1] (h:=?_);(with_reducible refine (Zdh.calls k _ _ l0 _ _ l1 t134 _ ?side1 ?side2 ?side3 ?side4 A3.o).mono ?_);(case side1=>refine cp ?_;exact HR0.o);(case side2=>exact HC0.o);(case side3=>refine cp ?_;exact HR1.o);(case side4=>exact HC1.o);rintro e w10 ⟨rfl,hb⟩;refine ⟨_,rfl,?_⟩;replace HB:=bS hb))
  go_ret3
  exact ⟨_,_,pE,pN,pN,pB⟩
def Zc5.f (k:Nat) (a0:Int):Option (List Int):=(Zv.f k (([(a0) % 4294967296,(a0 / 4294967296) % 4294967296]:List Int))).bind fun t144=>(some t144)
theorem Zc5.calls (k:Nat) (a0:Int) (r:List Int) (w:World) (h:Zc5.f k a0=some r) :
  Calls Tryz.prog 76 #[.int .u64 a0] w fun e w' => ∃ v0_:Value,e=.returned (v0_)/\Kd.R (Kd.int .u32) 85 w' w.heap.size (fun _=>True) v0_ r/\Below w.heap.size w w':=by
 have HB:=am (Below.refl w.heap.size w)
 have H:((Zv.f k (([(a0) % 4294967296,(a0 / 4294967296) % 4294967296]:List Int))).bind fun t144=>(some t144))=some r:=h
 clear h
 obtain ⟨y141,hy141⟩:∃ y_:List Int,y_=(([(a0) % 4294967296,(a0 / 4294967296) % 4294967296]:List Int)):=⟨_,rfl⟩
 replace H:((Zv.f k y141).bind fun t144=>(some t144))=some r:=by have hy_:=hy141;exact pH
 have Ny141:=am hy141
 clear hy141
 obtain ⟨t144,A2,H⟩:=ob H
 obtain rfl:=Option.some.inj H
 go_enter Tryz.func76,Tryz.ntmps76
 go_wp2_with (first|((with_reducible refine gd 8 ?_);refine Kd.Zg8 (Kd.int .u32) _ 85 ?hg (N:=8) ?hd (xs:=([(a0) % 4294967296,(a0 / 4294967296) % 4294967296]:List Int)) (inner:=[.int .u32 ((a0) % 4294967296),.int .u32 ((a0 / 4294967296) % 4294967296)]) (ok:=fun _=>True) (okp:=fun _=>True) ?hr ?hp (fun _ hk=>hk) trivial (Below.refl _ _) (Nat.le_refl _) (by simp) ?_;(case hd=>rfl);(case hg=>rfl);(case hr=>first|(go_simp;done)|(go_simp;rfl));(case hp=>exact (Reps.one (show Kd.M (Kd.int .u32) _ _ _ ((a0) % 4294967296) [.int .u32 ((a0) % 4294967296)] from rfl) (Reps.one (show Kd.M (Kd.int .u32) _ _ _ ((a0 / 4294967296) % 4294967296) [.int .u32 ((a0 / 4294967296) % 4294967296)] from rfl) (Reps.none _ _))));intro v142 w3 ho4 hb hg_ hnew_;clear hg_ hnew_;(first|rw [<- Ny141.out] at ho4|(simp only [Int.reduceToNat] at ho4;rw [<- Ny141.out] at ho4));have HO143:=am (Kd.Zq ho4 (Zb pB));replace HB:=bS hb;clear hb ho4;obtain ⟨Ao5,co5,eo5⟩:=Kd.Zj HO143.o;subst eo5)|(refine gL (some 9) Tryz.func132 #[.slice Ao5 y141.length co5] (h:=?_);(with_reducible refine (Zv.calls k (fun k_=>some k_=(.slice Ao5 y141.length co5:Value).ownBlock) (.slice Ao5 y141.length co5) y141 t144 w _ ?side1 ?side2 A2.o).mono ?_);(case side1=>exact pB);(case side2=>exact Kd.Zbl rfl HO143.o);rintro e w6 ⟨v145,rfl,ho0,hb,hkp⟩;refine ⟨_,rfl,?_⟩;have HO146:=am (Kd.Zi (ok':=fun k_=>True) ho0 (fun k_ hk_=>trivial));replace HB:=am hb;clear HO143))
 go_ret
 exact ⟨_,pE,by refine rp ?_;exact HO146.o,pB⟩
end YtjbjkmccfocikaaGreatDoor.B
end
section
namespace YtjbjkmccfocikaaGreatDoor.P
open Go.RowKit YtjbjkmccfocikaaGreatDoor.B YtjbjkmccfocikaaGreatDoorW.PrintWords YtjbjkmccfocikaaGreatDoorW.PrintLast YtjbjkmccfocikaaGreatDoorW.PrintMore YtjbjkmccfocikaaGreatDoor.P.Nm
theorem Zge {m n:Nat} (hm:nd m<=1000000) (hn:nd n<=1000000):Tells (fun k=>Zae.f k (limbs m) (limbs n)) (limbs (m*n)):=by
 have := Zok (Zc3 m) (Zc3 n) (Nat.le_trans (Zev m) hm) (Nat.le_trans (Zev n) hn)
 rw [Zdc,Zdc] at this;exact this
theorem Zjm {m n:Nat} (hm:nd m<=1000000) (hn:nd n<=1000000):Tells (fun k=>Zac.f k (limbs m) (limbs n)) (limbs (m+n)):=by
 have := Znz (Zc3 m) (Zc3 n) (Nat.le_trans (Zev m) hm) (Nat.le_trans (Zev n) hn)
 rw [Zdc,Zdc] at this;exact this
theorem Zn5 {m n:Nat} (hm:nd m<=1000000) (hn:nd n<=1000000):Zax.f (limbs m) (limbs n)=some (cmpN m n):=by
 unfold Zax.f
 rw [Zfd hm,Zfd hn,Bool.and_self,if_pos rfl,Zdc,Zdc]
 congr 1
 unfold cmpI cmpN
 by_cases h1:m < n
 ·rw [if_pos h1,if_pos (by omega)]
 ·rw [if_neg h1,if_neg (by omega)]
  by_cases h2:n < m
  ·rw [if_pos h2,if_pos (by omega)]
  ·rw [if_neg h2,if_neg (by omega)]
theorem Zoa {m n:Nat} (h0:n ≠ 0) (hm:nd m<=1000000) (hn:nd n<=1000000):Zcx.f (limbs m) (limbs n)=some (limbs (m / n),limbs (m % n)):=by
 unfold Zcx.f
 rw [Zfd hm,Zfd hn,decide_eq_true (Zdt h0),Zdc,Zdc];rfl
theorem Zla {m:Nat} (hm:nd m<=1000000) (b:Nat) (h0:0 < b) (hb:b < 4294967296):Zcu.f (limbs m) (b:Int)=some (limbs (m / b),((m % b:Nat):Int)):=by
 unfold Zcu.f
 rw [Zfd hm,decide_eq_true (show (0:Int) < (b:Int) by omega),decide_eq_true (show (b:Int) < 4294967296 by omega),Zdc,Int.toNat_natCast];rfl
theorem Zs9 (m n:Nat):nd (m*n)<=nd m+nd n:=by
 refine Zgv ?_
 rw [Nat.pow_add]
 exact Nat.mul_lt_mul'' (Zhu m) (Zhu n)
theorem Zq8 (m n:Nat):nd (m+n)<=max (nd m) (nd n)+1:=by
 refine Zgv ?_
 have h1:=Zhu m
 have h2:=Zhu n
 have h3:=Nat.pow_le_pow_right (show 0 < 10 by omega) (Nat.le_max_left (nd m) (nd n))
 have h4:=Nat.pow_le_pow_right (show 0 < 10 by omega) (Nat.le_max_right (nd m) (nd n))
 rw [Nat.pow_succ];omega
theorem Zj3 (k:Nat):nd (10 ^ k)=k+1:=Ztz (Nat.le_refl _) (Nat.pow_lt_pow_right (by omega) (by omega))
theorem Zi9:∀ (f n o b:Nat),n<=f->n<=2400->nd (o*b ^ n)<=100000->1<=o->1<=b->nd b<=100000->Tells (fun k=>Zbu.l0 k (n:Int) (limbs o) (limbs b)) (limbs (o*b ^ n))
 | f,0,o,b,hf,hn,hd,ho,hb,hb2=>by
  refine Tells.succ ?_
  simp only [Zbu.l0]
  exact Tells.ifn (by omega) ((Tells.pure _).val (by rw [Nat.pow_zero,Nat.mul_one]))
 | 0,n+1,o,b,hf,hn,hd,ho,hb,hb2=>by omega
 | f+1,n+1,o,b,hf,hn,hd,ho,hb,hb2=>by
  have hbp:∀ k,1<=b ^ k:=fun k=>Nat.pow_pos (by omega)
  have hdo:nd o<=100000:=Nat.le_trans (Zer (Nat.le_mul_of_pos_right o (hbp (n+1)))) hd
  have hhalf:n+1=2*((n+1) / 2)+(n+1) % 2:=(Nat.div_add_mod (n+1) 2).symm
  have hpw:b ^ (n+1)=(b*b) ^ ((n+1) / 2)*b ^ ((n+1) % 2):=by
   conv=>lhs;rw [hhalf]
   rw [Nat.pow_add,Nat.pow_mul,Nat.pow_two]
  have e1:Int.tmod ((n+1:Nat):Int) 2=(((n+1) % 2:Nat):Int):=by rw [Int.tmod_eq_emod_of_nonneg (by omega)];omega
  have e2:Int.tdiv ((n+1:Nat):Int) 2=(((n+1) / 2:Nat):Int):=by rw [Int.tdiv_eq_ediv_of_nonneg (by omega)];omega
  have hobb:=Zge (m:=o) (n:=b) (by omega) (by omega)
  have hbb:=Zge (m:=b) (n:=b) (by omega) (by omega)
  have sq:∀ o',o'*(b*b) ^ ((n+1) / 2)=o*b ^ (n+1)->1<=o'->Tells (fun k=>if ((n+1:Nat):Int) > 1 then ((Zae.f k (limbs b) (limbs b)).bind fun t=>Zbu.l0 k (((n+1) / 2:Nat):Int) (limbs o') t) else Zbu.l0 k (((n+1) / 2:Nat):Int) (limbs o') (limbs b)) (limbs (o*b ^ (n+1))):=fun o' ho' ho1=>by
   by_cases hn1:1 < n+1
   ·have hnd2:nd (b*b)<=100000:=by
     refine Nat.le_trans (Zer ?_) hd
     rw [<- ho']
     have h1:(b*b) ^ 1<=(b*b) ^ ((n+1) / 2):=Nat.pow_le_pow_right (Nat.mul_pos (by omega) (by omega)) (by omega)
     rw [Nat.pow_one] at h1
     exact Nat.le_trans h1 (Nat.le_mul_of_pos_left _ (by omega))
    have ih:=Zi9 f ((n+1) / 2) o' (b*b) (by omega) (by omega) (by rw [ho'];exact hd) ho1 (Nat.mul_pos (by omega) (by omega)) hnd2
    rw [ho'] at ih
    exact Tells.ifp (by omega) (hbb.bind ih)
   ·have hz:(n+1) / 2=0:=by omega
    have ih:=Zi9 f 0 o' b (by omega) (by omega) (by rw [Nat.pow_zero,Nat.mul_one];rw [hz,Nat.pow_zero,Nat.mul_one] at ho';rw [ho'];exact hd) ho1 hb hb2
    rw [hz,Nat.pow_zero,Nat.mul_one] at ho'
    rw [hz]
    exact Tells.ifn (by omega) (ih.val (by rw [Nat.pow_zero,Nat.mul_one,ho']))
  refine Tells.succ ?_
  simp only [Zbu.l0]
  rw [e1,e2,w64c (by omega)]
  refine Tells.ifp (by omega) ?_
  by_cases ho2:(n+1) % 2=1
  ·refine Tells.ifp (by omega) (hobb.bind (sq (o*b) ?_ (Nat.mul_pos (by omega) (by omega))))
   rw [hpw,ho2,Nat.pow_one,Nat.mul_assoc,Nat.mul_comm b]
  ·refine Tells.ifn (by omega) (sq o ?_ ho)
   rw [hpw,show (n+1) % 2=0 by omega,Nat.pow_zero,Nat.mul_one]
theorem Zk5 (n:Nat) (h:n<=2400):Tells (fun k=>Zbu.f k (n:Int)) (limbs (10 ^ n)):=by
 have h1:=Zi9 n n 1 10 (Nat.le_refl _) h (by rw [Nat.one_mul,Zj3];omega) (by omega) (by omega) (by rw [show nd 10=2 from Zj3 1];omega)
 rw [Nat.one_mul] at h1
 exact h1
theorem Znl (n:Nat) (h:n<=2400):Tells (fun k=>Zf4.f k (n:Int)) (limbs (10 ^ n),0):=by
 unfold Zf4.f
 exact Tells.ifn (by omega) (Tells.ifn (by omega) ((Zk5 n h).bind (Tells.pure _)))
theorem Zhc (l:List Int) (hl:l.length<=9223372036854775807):Za0.f l=some (chkL l):=by
 unfold Za0.f;exact Zjt l hl
theorem Zjr {n:Nat} (h:(limbs n).length<=256):chkL (limbs n)=0:=(Zkr (Zc3 n)).2 (Zp7 h)
theorem chkN {n:Nat} (h:(limbs n).length<=256):Za0.f (limbs n)=some 0:=by rw [Zhc _ (by omega),Zjr h]
theorem cmpOr2 (a b:Int):Tells (fun k=>Zbr.f k [a,b]) (if a=0 then b else a):=by
 unfold Zbr.f
 refine Tells.succ ?_
 simp only [Zbr.l0]
 refine Tells.ifp (by simp) (Tells.ifp (by decide) (Tells.ifp (by simp) ?_))
 have e0:rd [a,b] 0=a:=rfl
 have e1:rd [a,b] 1=b:=rfl
 have e2:wrap64 (0+1)=1:=by decide +kernel
 have e3:wrap64 (1+1)=2:=by decide +kernel
 rw [e0,e2]
 by_cases h:a=0
 ·refine Tells.ifp h ?_
  rw [if_pos h]
  refine Tells.succ ?_
  simp only [Zbr.l0]
  rw [e1,e3]
  refine Tells.ifp (by simp) (Tells.ifp (by decide) (Tells.ifp (by simp) ?_))
  by_cases h2:b=0
  ·refine Tells.ifp h2 (Tells.succ ?_)
   simp only [Zbr.l0]
   refine Tells.ifn (by simp) ((Tells.pure _).val h2.symm)
  ·exact Tells.ifn h2 (Tells.pure _)
 ·refine Tells.ifn h ?_
  rw [if_neg h]
  exact Tells.pure _
theorem Zh3 {m n:Nat} (hm:(limbs m).length<=256) (hn:(limbs n).length<=256):Tells (fun k=>Zdh.f k (limbs m) (limbs n)) 0:=by
 unfold Zdh.f
 rw [chkN hm,chkN hn]
 exact (Tells.pure _).bind ((Tells.pure _).bind ((cmpOr2 0 0).bind (Tells.pure _)))
theorem Zq4 (n:Nat):Zd3.f (limbs n)=some (fit n):=by
 unfold Zd3.f fit
 by_cases h:(limbs n).length<=256
 ·rw [if_neg (by omega),if_pos h]
 ·rw [if_pos (by omega),if_neg h]
theorem Zoc {n:Nat} (h:(limbs n).length<=256):fit n=(limbs n,0):=by unfold fit;rw [if_pos h]
theorem Zj2 {n k:Nat} (h:(limbs n).length<=k):nd n<=10*k:=by
 refine Zgv (Nat.lt_of_lt_of_le (Zl5 n) ?_)
 refine Nat.le_trans (Nat.pow_le_pow_right (by omega) h) ?_
 rw [Nat.pow_mul]
 exact Nat.pow_le_pow_left (by decide) _
theorem Zdu {n:Nat} (h:(limbs n).length<=256):nd n<=2560:=Zj2 h
theorem Zgn (n:Nat) (h:n < 18446744073709551616):Tells (fun k=>Zc5.f k (n:Int)) (limbs n):=by
 unfold Zc5.f
 have e1:((n:Int) / 4294967296) % 4294967296=((n / 4294967296:Nat):Int):=by omega
 rw [emod32,e1]
 refine (Zdi (n:=n) (Dg.cons (by omega) (by omega) (Dg.one (by omega) (by omega))) ?_ (by simp)).bind (Tells.pure _)
 rw [Zb1,val_one];omega
theorem Znc {m n:Nat} (hm:(limbs m).length<=256) (hn:(limbs n).length<=256):Tells (fun k=>Zeq.f k (limbs m) (limbs n)) (fit (m+n)):=by
 have h1:=Zdu hm
 have h2:=Zdu hn
 unfold Zeq.f
 refine (Zh3 hm hn).bind (Tells.ifp rfl ((Zjm (m:=m) (n:=n) (by omega) (by omega)).bind ?_))
 rw [Zq4]
 exact (Tells.pure _).bind (Tells.pure _)
theorem Zjg {m n:Nat} (hm:(limbs m).length<=256) (hn:(limbs n).length<=256):Tells (fun k=>Zdn.f k (limbs m) (limbs n)) (fit (m*n)):=by
 have h1:=Zdu hm
 have h2:=Zdu hn
 unfold Zdn.f
 refine (Zh3 hm hn).bind (Tells.ifp rfl ((Zge (m:=m) (n:=n) (by omega) (by omega)).bind ?_))
 rw [Zq4]
 exact (Tells.pure _).bind (Tells.pure _)
theorem Zhd {m n:Nat} (hm:(limbs m).length<=256) (hn:(limbs n).length<=256):Tells (fun k=>Zdm.f k (limbs m) (limbs n)) (if n=0 then ([],[],53) else (limbs (m / n),limbs (m % n),0)):=by
 have h1:=Zdu hm
 have h2:=Zdu hn
 unfold Zdm.f
 refine (Zh3 hm hn).bind (Tells.ifp rfl ?_)
 by_cases h:n=0
 ·subst h
  exact Tells.ifp (by rw [Zfp];rfl) (Tells.pure _)
 ·have hl0:0 < (limbs n).length:=List.length_pos_iff.2 (Zdt h)
  rw [if_neg h,Zoa h (by omega) (by omega)]
  exact Tells.ifn (by omega) ((Tells.pure _).bind (Tells.pure _))
theorem Zip {m n:Nat} (hm:(limbs m).length<=256) (hn:(limbs n).length<=256):Tells (fun k=>Zdg.f k (limbs m) (limbs n)) (cmpN m n,0):=by
 have h1:=Zdu hm
 have h2:=Zdu hn
 unfold Zdg.f
 rw [chkN hm,chkN hn]
 refine (Tells.pure _).bind ((Tells.pure _).bind ((cmpOr2 0 0).bind (Tells.ifp rfl ?_)))
 rw [Zn5 (by omega) (by omega)]
 exact (Tells.pure _).bind (Tells.pure _)
theorem Zsy (l:List Int) (hl:l.length<=1000000):∀ (d i:Nat) (x:List Int),l.length - 2*i<=d->2*i<=l.length+1->x.length=l.length->(∀ p,p < l.length->x.getD p 0=if p < i\/l.length - i<=p then l.getD (l.length - 1 - p) 0 else l.getD p 0) ->
  Tells (fun k=>Zk.l0 k x (i:Int) ((l.length:Int) - 1 - i)) l.reverse:=by
 have fin:∀ (x:List Int),x.length=l.length->(∀ p,p < l.length->x.getD p 0=l.getD (l.length - 1 - p) 0)->x=l.reverse:=fun x hx h=>by
  refine List.ext_getElem (by simp [hx]) (fun p h1 h2=>?_)
  have := h p (by omega)
  rw [getD_in h1,getD_in (by omega)] at this
  rw [this,List.getElem_reverse]
 intro d
 induction d with
 | zero =>
  intro i x hd hi hx h
  have c:¬ ((i:Int) < (l.length:Int) - 1 - i):=by omega
  refine Tells.succ ?_
  simp only [Zk.l0]
  refine Tells.ifn c ((Tells.pure _).val (fin x hx (fun p hp=>?_)))
  rw [h p hp]
  by_cases hq:p < i\/l.length - i<=p
  ·rw [if_pos hq]
  ·rw [if_neg hq,show l.length - 1 - p=p by omega]
 | succ d ih =>
  intro i x hd hi hx h
  by_cases c:(i:Int) < (l.length:Int) - 1 - i
  ·obtain ⟨j,hj⟩:∃ j:Nat,(l.length:Int) - 1 - i=j:=⟨l.length - 1 - i,by omega⟩
   have hij:i < j:=by omega
   have hjl:j < l.length:=by omega
   have hxi:=h i (by omega)
   have hxj:=h j hjl
   rw [if_neg (by omega)] at hxi hxj
   have hnext:=ih (i+1) ((x.set i (x.getD j 0)).set j (x.getD i 0)) (by omega) (by omega) (by simp [hx]) (fun p hp=>by
    by_cases hpj:p=j
    ·subst hpj
     rw [List.getD,List.getElem?_set_self (by simp;omega),if_pos (by omega),hxi,show l.length - 1 - p=i by omega];rfl
    ·rw [getD_set_ne _ (Ne.symm hpj)]
     by_cases hpi:p=i
     ·subst hpi
      rw [List.getD,List.getElem?_set_self (by omega),if_pos (by omega),hxj,show l.length - 1 - p=j by omega];rfl
     ·rw [getD_set_ne _ (Ne.symm hpi),h p hp]
      by_cases hq:p < i\/l.length - i<=p
      ·rw [if_pos hq,if_pos (by omega)]
      ·rw [if_neg hq,if_neg (by omega)])
   have e2:(l.length:Int) - 1 - ((i+1:Nat):Int)=(j:Int) - 1:=by omega
   rw [e2] at hnext
   rw [hj]
   refine Tells.succ ?_
   simp only [Zk.l0]
   rw [rd_n,rd_n,Int.toNat_natCast,Int.toNat_natCast,w64s (by omega),w64d (by omega)]
   exact Tells.ifp (by omega) (Tells.ifp (by omega) (Tells.ifp (by omega) (Tells.ifp (by omega) (Tells.ifp (by omega) hnext))))
  ·refine Tells.succ ?_
   simp only [Zk.l0]
   refine Tells.ifn c ((Tells.pure _).val (fin x hx (fun p hp=>?_)))
   rw [h p hp]
   by_cases hq:p < i\/l.length - i<=p
   ·rw [if_pos hq]
   ·rw [if_neg hq,show l.length - 1 - p=p by omega]
theorem Znv (l:List Int) (hl:l.length<=1000000):Tells (fun k=>Zk.f k l) l.reverse:=by
 have h:=Zsy l hl _ 0 l (Nat.le_refl _) (by omega) rfl (fun p hp=>by rw [if_neg (by omega)])
 unfold Zk.f
 rw [w64d (by omega)]
 have e:(l.length:Int) - 1 - ((0:Nat):Int)=(l.length:Int) - 1:=by omega
 rw [e] at h
 exact h
theorem Zln (n:Nat) (hn:nd n<=1000000) (q:Nat) (hl0:∀ D:List Int,D++digs q=digs n->Tells (fun k=>Zat.l0 k (D.map fun d=>48+d) (limbs q)) (decT n,0)) :
  ∀ (e:Nat),e<=9 -> ∀ (r:Nat) (D:List Int),r < 10 ^ e->D++digs (r+q*10 ^ e)=digs n ->
  Tells (fun k=>Zat.l1 k (D.map fun d=>48+d) (limbs q) (r:Int) ((9 - e:Nat):Int)) (decT n,0)
 | 0,he,r,D,hr,hD=>by
  rw [Nat.pow_zero,Nat.mul_one] at hD
  obtain rfl:r=0:=by rw [Nat.pow_zero] at hr;omega
  rw [Nat.zero_add] at hD
  refine Tells.succ ?_
  simp only [Zat.l1]
  exact Tells.ifn (by omega) (hl0 D hD)
 | e+1,he,r,D,hr,hD=>by
  have hr9:r < 1000000000:=Nat.lt_of_lt_of_le hr (Nat.le_trans (Nat.pow_le_pow_right (by omega) he) (by decide))
  have hlen:D.length<=1000000:=by
   have := congrArg List.length hD
   rw [List.length_append] at this
   have h2:(digs n).length<=1000000:=hn
   omega
  have ih:=Zln n hn q hl0 e (by omega)
  have go:r+q*10 ^ (e+1) ≠ 0->Tells (fun k=>Zat.l1 k ((D.map fun d=>48+d) ++ [(48+(Int.tmod (r:Int) 10)) % 256]) (limbs q) ((Int.tdiv (r:Int) 10) % 4294967296) (wrap64 (((9 - (e+1):Nat):Int)+1))) (decT n,0):=fun hne=>by
   have hpw:10 ^ (e+1)=10*10 ^ e:=by rw [Nat.pow_succ,Nat.mul_comm]
   have e1:(r+q*10 ^ (e+1)) % 10=r % 10:=by rw [hpw,Nat.mul_left_comm,Nat.add_mul_mod_self_left]
   have e2:(r+q*10 ^ (e+1)) / 10=r / 10+q*10 ^ e:=by rw [hpw,Nat.mul_left_comm,Nat.add_mul_div_left _ _ (by omega)]
   have hstep:=Zdp hne
   rw [e1,e2] at hstep
   have h2:=ih (r / 10) (D ++ [((r % 10:Nat):Int)]) ((Nat.div_lt_iff_lt_mul (by omega)).2 (by rw [Nat.mul_comm,<- hpw];exact hr)) (by rw [List.append_assoc,List.singleton_append,<- hstep];exact hD)
   rw [List.map_append] at h2
   have f1:(48+(Int.tmod (r:Int) 10)) % 256=48+((r % 10:Nat):Int):=by rw [tmodc];omega
   have f2:(Int.tdiv (r:Int) 10) % 4294967296=((r / 10:Nat):Int):=by rw [Int.tdiv_eq_ediv_of_nonneg (by omega)];omega
   have f3:9 - (e+1)+1=9 - e:=by omega
   rw [f1,f2,w64s (by omega),f3]
   exact h2
  have c1:((9 - (e+1):Nat):Int) < 9:=by omega
  have c2:(D.map fun d=>48+d).length < 140737488355328:=by rw [List.length_map];omega
  refine Tells.succ ?_
  simp only [Zat.l1]
  refine Tells.ifp c1 ?_
  by_cases hq:q=0
  ·subst hq
   refine Tells.ifn (by rw [Zfp];simp) ?_
   by_cases hr0:r=0
   ·subst hr0
    rw [Nat.zero_mul,Nat.add_zero] at hD
    exact Tells.ifn (by omega) (hl0 D hD)
   ·exact Tells.ifp (by omega) (Tells.ifp c2 (go (by omega)))
  ·have hl1:0 < (limbs q).length:=List.length_pos_iff.2 (Zdt hq)
   exact Tells.ifp (by omega) (Tells.ifp c2 (go (by have := Nat.mul_pos (Nat.pos_of_ne_zero hq) (Zcf (e+1));omega)))
theorem Zpm (n:Nat) (hn:nd n<=1000000):∀ (f x:Nat) (D:List Int),x<=f->D++digs x=digs n->Tells (fun k=>Zat.l0 k (D.map fun d=>48+d) (limbs x)) (decT n,0):=by
 have fin:∀ D:List Int,D=digs n->Tells (fun k=>Zat.l0 k (D.map fun d=>48+d) (limbs 0)) (decT n,0):=fun D hD=>by
  have hl:(digs n).length<=1000000:=hn
  refine Tells.succ ?_
  simp only [Zat.l0]
  refine Tells.ifn (by rw [Zfp];simp) ?_
  by_cases h0:n=0
  ·subst h0
   subst hD
   exact Tells.ifp rfl (Tells.pure _)
  ·have hpos:0 < (digs n).length:=Zg5 h0
   refine Tells.ifn (by rw [List.length_map,hD];omega) ((Znv _ (by rw [List.length_map,hD];exact hl)).bind ((Tells.pure _).val ?_))
   rw [<- List.map_reverse,hD,Zm9 n h0]
 intro f
 induction f with
 | zero =>
  intro x D hf hD
  obtain rfl:x=0:=by omega
  rw [Zfb,List.append_nil] at hD
  exact fin D hD
 | succ f ih =>
  intro x D hf hD
  by_cases h0:x=0
  ·subst h0
   rw [Zfb,List.append_nil] at hD
   exact fin D hD
  ·have hx:nd x<=1000000:=by
    have := congrArg List.length hD
    rw [List.length_append] at this
    have h2:(digs n).length<=1000000:=hn
    show (digs x).length<=_
    omega
   have hpos:0 < (limbs x).length:=List.length_pos_iff.2 (Zdt h0)
   have h1:=Zln n hn (x / 1000000000) (fun D' hD'=>ih (x / 1000000000) D' (by omega) hD') 9 (by omega) (x % 1000000000) D (Nat.mod_lt _ (by omega)) (by
    rw [show x % 1000000000+x / 1000000000*10 ^ 9=x by omega];exact hD)
   refine Tells.succ ?_
   simp only [Zat.l0]
   rw [show (1000000000:Int)=((1000000000:Nat):Int) from rfl,Zla hx 1000000000 (by omega) (by omega)]
   exact Tells.ifp (by omega) ((Tells.pure _).bind h1)
theorem Zf0 {n:Nat} (h:(limbs n).length<=256):Tells (fun k=>Zat.f k (limbs n)) (decT n,0):=by
 have hn:=Zdu h
 unfold Zat.f
 rw [chkN h]
 exact (Tells.pure _).bind (Tells.ifp rfl (Zpm n (by omega) n n [] (Nat.le_refl _) rfl))
end YtjbjkmccfocikaaGreatDoor.P
end
section
namespace YtjbjkmccfocikaaGreatDoor.B
open Go.RowKit YtjbjkmccfocikaaGreatDoorW.PrintWords YtjbjkmccfocikaaGreatDoorW.PrintLast YtjbjkmccfocikaaGreatDoorW.PrintMore
attribute [local go_sem] Zb5 Zb7 Zcs Zct Zbn Zbo Zb6 Zb8
def Zm.l0:Nat->List Int->Bool->List Int->Int->Option (Bool × List Int × Int × Int)
 | 0,_,_,_,_=>none
 | k+1,x4,x523000,x523001,x523002=>if 0 < (x4.length:Int) then (if (rd x4 0)=0 then (if 1<=(x4.length:Int) then (Zm.l0 k (x4.drop (1:Int).toNat) x523000 x523001 (wrap64 (x523002+1))) else (none)) else (if (x4.length:Int) > 300 then (some (false,([]:List Int),0,51)) else (if x523002 < (-1000) then (some (false,([]:List Int),0,52)) else (if x523002 > 1000 then (some (false,([]:List Int),0,52)) else ((Zw.f k x4).bind fun t531=>(some (x523000,t531,x523002,0))))))) else (none)
def Zm.f (k:Nat) (a0_0:Bool) (l0_1:List Int) (a0_2:Int):Option (Bool × List Int × Int × Int):=(Zah.f k l0_1).bind fun t524=>(if (t524.length:Int)=0 then (some (false,([]:List Int),0,0)) else (Zm.l0 k t524 a0_0 ([]:List Int) a0_2))
def Zm.T11:Bool × List (List Nat × List Nat):=(true,[([],[]),([0],[0]),([],[]),([2],[2]),([],[]),([4],[4]),([1,3,5],[1,3,5]),([6,3,0,1,2,3,4,5,6],[6]),([7,0,1,2,3,4,5,6,7],[])])
def Zm.B11:List Nat:=[0,1,0,4,0,16,63,127,255]
theorem Zm.tab11:rtab .any (opsOf Tryz.f23 11)=Zm.T11:=by kernel_rfl
theorem Zm.bits11:waitsOk Zm.T11.2 Zm.B11=true:=by kernel_rfl
theorem Zm.calls (k:Nat) (a0_0:Bool) (P0_1_:Nat->Prop) (u9000_:Value) (l0_1:List Int) (a0_2:Int) (r1:Bool) (r2:List Int) (r3:Int) (r4:Int) (w0 w:World) (hB:Below w0.heap.size w0 w) (ho0_1:Kd.R (Kd.int .i64) 3 w w0.heap.size P0_1_ u9000_ l0_1) (h:Zm.f k a0_0 l0_1 a0_2=some (r1,r2,r3,r4)) :
  Calls Tryz.prog 23 #[.agg #[.bool a0_0,u9000_,.int .i64 a0_2]] w fun e w' => ∃ v1_:Value,e=.returned (.tuple #[.agg #[.bool r1,v1_,.int .i64 r3],.int .i64 r4])/\Kd.R (Kd.int .u32) 85 w' w0.heap.size (fun k_=>(P0_1_ k_\/w.heap.size<=k_)) v1_ r2/\Below w0.heap.size w0 w'/\Kept w w' (fun k_=>P0_1_ k_):=by
 have hu30:=Tryz.underlying30
 have hu24:=Tryz.underlying24
 have HO0_1:=am (show Kd.R (Kd.int .i64) 3 w w0.heap.size (fun k_=>(P0_1_ k_\/w.heap.size<=k_)) u9000_ l0_1 from Kd.Zi ho0_1 (fun k_ hk=>(.inl hk)))
 have HK:=am (Kept.refl w (fun k_=>P0_1_ k_))
 have HW0:=am hB.size
 have HB:=am hB
 clear hB
 have H:((Zah.f k l0_1).bind fun t524=>(if (t524.length:Int)=0 then (some (false,([]:List Int),0,0)) else (Zm.l0 k t524 a0_0 ([]:List Int) a0_2)))=some (r1,r2,r3,r4):=h
 clear h
 obtain ⟨t524,A2,H⟩:=ob H
 by_cases c3:(t524.length:Int)=0
 ·rw [if_pos c3] at H
  have c3b0:((t524.length:Int) == 0)=true:=beq_iff_eq.mpr c3
  have c3b1:((t524.length:Int) != 0)=false:=bne_eq_false_iff_eq.mpr c3
  clear c3
  simp only [Option.some.injEq,Prod.mk.injEq] at H
  obtain ⟨rfl,rfl,rfl,rfl⟩:=H
  obtain ⟨Ao4,co4,eo4⟩:=Kd.Zj HO0_1.o
  subst eo4
  go_enter Tryz.func23,Tryz.ntmps23
  go_wp2_with (first|((with_reducible refine gd 1 ?_);refine bx 1 #[.bool a0_0,.slice Ao4 l0_1.length co4,.int .i64 a0_2] 30 (h:=?_);intro gb522 hg w5 hbox hb;have BK522:=am hbox;have GW522:=am ((by rw [hg];exact (by first|exact HK.out.1|exact (show Kept w _ (fun k_=>P0_1_ k_) from by repeat (first|(with_reducible first|exact HK.out|apply Kept.alloc|apply Kept.drewN|apply Kept.drew)|exact HK.out)).1):w.heap.size<=gb522));have GE522:=am ((gw hg pB:w0.heap.size<=gb522));replace HO0_1:=rbl HO0_1 hb;replace HK:=am (Kept.below (S:=(fun k_=>P0_1_ k_)) (by repeat (first|(with_reducible first|exact HK.out|apply Kept.alloc|apply Kept.drewN|apply Kept.drew)|exact HK.out)) hb);replace HB:=bS hb;clear hb hbox hg)|((with_reducible refine gd 2 ?_);refine bx 2 #[.bool false,.slice none 0 0,.int .i64 0] 24 (h:=?_);intro gb523 hg w6 hbox hb;have BK523:=am hbox;have GW523:=am ((by rw [hg];exact (by first|exact HK.out.1|exact (show Kept w _ (fun k_=>P0_1_ k_) from by repeat (first|(with_reducible first|exact HK.out|apply Kept.alloc|apply Kept.drewN|apply Kept.drew|refine Kept.setCell ?_ (.inr GW522.o) _)|exact HK.out)).1):w.heap.size<=gb523));have GE523:=am ((gw hg pB:w0.heap.size<=gb523));have NB522_523:=nL hg BK522;have NB523_522:=nG hg BK522;replace HO0_1:=rbl HO0_1 hb;replace BK522:=bb BK522 hb;replace HK:=am (Kept.below (S:=(fun k_=>P0_1_ k_)) (by repeat (first|(with_reducible first|exact HK.out|apply Kept.alloc|apply Kept.drewN|apply Kept.drew|refine Kept.setCell ?_ (.inr GW522.o) _)|exact HK.out)) hb);replace HB:=bS hb;clear hb hbox hg;have hnb7:=NB522_523.o;have hnc7:=NB523_522.o;obtain ⟨_,_,_,_,_,_⟩:=cEc BK522.o)|(refine gL (some 7) Tryz.func79 #[.slice Ao4 l0_1.length co4] (h:=?_);(with_reducible refine (Zah.calls k (fun k_=>some k_=(.slice Ao4 l0_1.length co4:Value).ownBlock) (.slice Ao4 l0_1.length co4) l0_1 t524 w0 _ ?side1 ?side2 A2.o).mono ?_);(case side1=>exact pB);(case side2=>exact Kd.Zbl rfl HO0_1.o);rintro e w9 ⟨v525,rfl,ho0,hb,hkp⟩;refine ⟨_,rfl,?_⟩;have HO526:=am (Kd.Zi (ok':=fun k_=>(P0_1_ k_\/w.heap.size<=k_)) ho0 (fun k_ hk_=>Or.elim hk_ (fun hs_=>(HO0_1.o.1 k_ (hs_).symm)) (fun hn_=>(.inr (Nat.le_trans (by first|exact HK.out.1|exact (show Kept w _ (fun k_=>P0_1_ k_) from by repeat (first|(with_reducible first|exact HK.out|apply Kept.alloc|apply Kept.drewN|apply Kept.drew|refine Kept.setCell ?_ (.inr GW522.o) _|refine Kept.setCell ?_ (.inr GW523.o) _)|exact HK.out)).1) hn_)))));replace BK522:=am (Zar (Zc BK522.o pl) hkp (fun e_=>Kd.R_ne HO0_1.o BK522.o (by decide) e_));replace BK523:=am (Zar (Zc BK523.o pl) hkp (fun e_=>Kd.R_ne HO0_1.o BK523.o (by decide) e_));replace HK:=am (Kept.then_ (S:=(fun k_=>P0_1_ k_)) (by repeat (first|(with_reducible first|exact HK.out|apply Kept.alloc|apply Kept.drewN|apply Kept.drew|refine Kept.setCell ?_ (.inr GW522.o) _|refine Kept.setCell ?_ (.inr GW523.o) _)|exact HK.out)) hkp (fun k_ hs_=>(fun e_=>(HO0_1.o.1 k_ e_.symm)) hs_));replace HB:=am hb;clear HO0_1;obtain ⟨Ao10,co10,eo10⟩:=Kd.Zj HO526.o;subst eo10;obtain ⟨_,_,_,_,_,_⟩:=cEc BK523.o))
  refine bodyPost_ret (Za7 rfl _ _ gb523 24 #[.bool false,.slice none 0 0,.int .i64 0] (0,0) _ rfl (by exact p3 BK523) Tryz.underlying24 rfl (by kernel_rfl)) rfl ?_
  exact ⟨_,pE,pN,pB,by repeat (first|(with_reducible first|exact HK.out|apply Kept.alloc|apply Kept.drewN|apply Kept.drew|refine Kept.setCell ?_ (.inr GW522.o) _|refine Kept.setCell ?_ (.inr GW523.o) _)|exact HK.out)⟩
 ·rw [if_neg c3] at H
  have c3b0:((t524.length:Int) == 0)=false:=beq_eq_false_iff_ne.mpr c3
  have c3b1:((t524.length:Int) != 0)=true:=bne_iff_ne.mpr c3
  have c3b2:¬ (t524=[]):=fun h_=>c3 (by rw [h_];rfl)
  have H':=am H
  clear H
  obtain ⟨Ao12,co12,eo12⟩:=Kd.Zj HO0_1.o
  subst eo12
  go_enter Tryz.func23,Tryz.ntmps23
  go_wp2_with (first|((with_reducible refine gd 1 ?_);refine bx 1 #[.bool a0_0,.slice Ao12 l0_1.length co12,.int .i64 a0_2] 30 (h:=?_);intro gb522 hg w13 hbox hb;have BK522:=am hbox;have GW522:=am ((by rw [hg];exact (by first|exact HK.out.1|exact (show Kept w _ (fun k_=>P0_1_ k_) from by repeat (first|(with_reducible first|exact HK.out|apply Kept.alloc|apply Kept.drewN|apply Kept.drew)|exact HK.out)).1):w.heap.size<=gb522));have GE522:=am ((gw hg pB:w0.heap.size<=gb522));replace HO0_1:=rbl HO0_1 hb;replace HK:=am (Kept.below (S:=(fun k_=>P0_1_ k_)) (by repeat (first|(with_reducible first|exact HK.out|apply Kept.alloc|apply Kept.drewN|apply Kept.drew)|exact HK.out)) hb);replace HB:=bS hb;clear hb hbox hg)|((with_reducible refine gd 2 ?_);refine bx 2 #[.bool false,.slice none 0 0,.int .i64 0] 24 (h:=?_);intro gb523 hg w14 hbox hb;have BK523:=am hbox;have GW523:=am ((by rw [hg];exact (by first|exact HK.out.1|exact (show Kept w _ (fun k_=>P0_1_ k_) from by repeat (first|(with_reducible first|exact HK.out|apply Kept.alloc|apply Kept.drewN|apply Kept.drew|refine Kept.setCell ?_ (.inr GW522.o) _)|exact HK.out)).1):w.heap.size<=gb523));have GE523:=am ((gw hg pB:w0.heap.size<=gb523));have NB522_523:=nL hg BK522;have NB523_522:=nG hg BK522;replace HO0_1:=rbl HO0_1 hb;replace BK522:=bb BK522 hb;replace HK:=am (Kept.below (S:=(fun k_=>P0_1_ k_)) (by repeat (first|(with_reducible first|exact HK.out|apply Kept.alloc|apply Kept.drewN|apply Kept.drew|refine Kept.setCell ?_ (.inr GW522.o) _)|exact HK.out)) hb);replace HB:=bS hb;clear hb hbox hg;have hnb15:=NB522_523.o;have hnc15:=NB523_522.o;obtain ⟨_,_,_,_,_,_⟩:=cEc BK522.o)|(refine gL (some 7) Tryz.func79 #[.slice Ao12 l0_1.length co12] (h:=?_);(with_reducible refine (Zah.calls k (fun k_=>some k_=(.slice Ao12 l0_1.length co12:Value).ownBlock) (.slice Ao12 l0_1.length co12) l0_1 t524 w0 _ ?side1 ?side2 A2.o).mono ?_);(case side1=>exact pB);(case side2=>exact Kd.Zbl rfl HO0_1.o);rintro e w17 ⟨v525,rfl,ho0,hb,hkp⟩;refine ⟨_,rfl,?_⟩;have HO526:=am (Kd.Zi (ok':=fun k_=>(P0_1_ k_\/w.heap.size<=k_)) ho0 (fun k_ hk_=>Or.elim hk_ (fun hs_=>(HO0_1.o.1 k_ (hs_).symm)) (fun hn_=>(.inr (Nat.le_trans (by first|exact HK.out.1|exact (show Kept w _ (fun k_=>P0_1_ k_) from by repeat (first|(with_reducible first|exact HK.out|apply Kept.alloc|apply Kept.drewN|apply Kept.drew|refine Kept.setCell ?_ (.inr GW522.o) _|refine Kept.setCell ?_ (.inr GW523.o) _)|exact HK.out)).1) hn_)))));replace BK522:=am (Zar (Zc BK522.o pl) hkp (fun e_=>Kd.R_ne HO0_1.o BK522.o (by decide) e_));replace BK523:=am (Zar (Zc BK523.o pl) hkp (fun e_=>Kd.R_ne HO0_1.o BK523.o (by decide) e_));replace HK:=am (Kept.then_ (S:=(fun k_=>P0_1_ k_)) (by repeat (first|(with_reducible first|exact HK.out|apply Kept.alloc|apply Kept.drewN|apply Kept.drew|refine Kept.setCell ?_ (.inr GW522.o) _|refine Kept.setCell ?_ (.inr GW523.o) _)|exact HK.out)) hkp (fun k_ hs_=>(fun e_=>(HO0_1.o.1 k_ e_.symm)) hs_));replace HB:=am hb;clear HO0_1;obtain ⟨Ao18,co18,eo18⟩:=Kd.Zj HO526.o;subst eo18))
  go_loopg [4] k (fun kq v4 w' => ∃ (x4_1:List Int) (x523002_1:Int),Aside0 (Zm.l0 kq x4_1 a0_0 ([]:List Int) x523002_1=some (r1,r2,r3,r4))/\Aside0 (kq<=k)/\Aside0 (Kd.Q (Kd.int .i64) 3 w' w0.heap.size (fun k_=>(P0_1_ k_\/w.heap.size<=k_)) v4 x4_1)/\Aside0 (w'.heap[gb522]? = some (.cells #[.bool a0_0,(.slice Ao12 l0_1.length co12),.int .i64 x523002_1] 30 (0,0)))/\Aside0 (w'.heap[gb523]? = some (.cells #[.bool false,(.slice none 0 0),.int .i64 0] 24 (0,0)))/\Aside0 (Kept w w' (fun k_=>P0_1_ k_))/\Aside0 (Below w0.heap.size w0 w'))
  case atStart=>exact ⟨(t524),(a0_2),H',⟨Nat.le_refl _⟩,⟨Kd.Zqx (Kd.Za HO526.o pl)⟩,⟨Zc BK522.o pl⟩,⟨Zc BK523.o pl⟩,⟨by repeat (first|(with_reducible first|exact HK.out|apply Kept.alloc|apply Kept.drewN|apply Kept.drew|refine Kept.setCell ?_ (.inr GW522.o) _|refine Kept.setCell ?_ (.inr GW523.o) _)|exact HK.out)⟩,⟨pB⟩⟩
  case round =>
   clear H'
   obtain ⟨x4_1,x523002_1,HA,HK1,HO_4,BK522,BK523,HK,HB⟩:=hrel
   cases gk with
   | zero=>exact absurd HA.out (by simp [Zm.l0])
   | succ k1 =>
    have H:=HA.out
    clear HA
    simp only [Zm.l0] at H
    by_cases c19:0 < (x4_1.length:Int)
    ·rw [if_pos c19] at H
     have c19b0:decide (0 < (x4_1.length:Int))=true:=decide_eq_true c19
     have c19b1:decide (0 < x4_1.length)=true:=decide_eq_true (by omega)
     clear c19
     by_cases c20:(rd x4_1 0)=0
     ·rw [if_pos c20] at H
      have c20b0:((rd x4_1 0) == 0)=true:=beq_iff_eq.mpr c20
      have c20b1:((rd x4_1 0) != 0)=false:=bne_eq_false_iff_eq.mpr c20
      clear c20
      by_cases c21:1<=(x4_1.length:Int)
      ·rw [if_pos c21] at H
       have c21b0:=eq_true c21
       have c21b1:decide (1<=(x4_1.length:Int))=true:=decide_eq_true c21
       clear c21
       obtain ⟨y528,hy528⟩:∃ y_:List Int,y_=(x4_1.drop (1:Int).toNat):=⟨_,rfl⟩
       replace H:(Zm.l0 k1 y528 a0_0 ([]:List Int) (wrap64 (x523002_1+1)))=some (r1,r2,r3,r4):=by have hy_:=hy528;exact pH
       have Ny528:=am hy528
       clear hy528
       have H':=am H
       clear H
       obtain ⟨Ao22,co22,eo22,_⟩:=Kd.Zhg HO_4.o
       subst eo22
       have p527:0<=(0:Int):=(by omega)
       have q527:0 < (x4_1.length:Int):=of_decide_eq_true pQ
       obtain ⟨ad527,e527,hx527_0⟩:=Kd.Za4 (Kd.Zek HO_4.o).2.2 0 p527 q527
       cases e527
       have qi527:(0 < x4_1.length)=True:=eq_true (by omega)
       (try rw [show ((0:Int)).toNat=0 from rfl] at hx527_0)
       (try rw [Addr.add_zero'] at hx527_0)
       replace p527:=eq_true p527
       replace q527:=eq_true q527
       have q23:(1:Int)<=((x4_1.length:Int):Int):=of_decide_eq_true pQ
       obtain ⟨i023,hi023,_,hsz23,_⟩:=info_parts info3
       have hcut23:=Zpx (P:=Tryz.prog) 28 3 .i64 Tryz.underlying28 hi023 1 hsz23 (some ad527) x4_1.length co22 1 (by omega) q23
       have hr23:=Kd.Zss (k:=(1:Int).toNat) HO_4.o (by omega)
       obtain ⟨A23,hA23⟩:∃ A1,A1=(if co22=(1:Int).toNat then (some ad527) else ((some ad527):Option Addr).map (·.add ((1:Int).toNat*1))):=⟨_,rfl⟩
       obtain ⟨c23,hc23⟩:∃ c1,c1=co22 - (1:Int).toNat:=⟨_,rfl⟩
       have hy23:y528.length=x4_1.length - (1:Int).toNat:=(by rw [Ny528.out,List.length_drop])
       rw [<- Ny528.out] at hr23
       rw [<- hy23,<- hA23,<- hc23] at hcut23
       replace hr23:Kd.Q (Kd.int .i64) 3 wr w0.heap.size (fun k_=>(P0_1_ k_\/w.heap.size<=k_)) (.slice A23 y528.length c23) y528:=(by rw [hA23,hc23,hy23];exact hr23)
       have HE23:Aside0 ((Value.slice A23 y528.length c23).ownBlock=(.slice (some ad527) x4_1.length co22:Value).ownBlock):=⟨by rw [hA23];split <;> (cases ((some ad527):Option Addr) <;> rfl)⟩
       clear hy23 hi023 hsz23 HO_4 hA23 hc23
       have HO530:=am hr23
       clear hr23
       replace q23:=eq_true q23
       have hnb24:=NB522_523.o
       have hnc24:=NB523_522.o
       obtain ⟨_,_,_,_,_,_⟩:=cEc BK522.o
       go_wp2
       go_roundg k1
       case measure=>have := HK1.out;omega
       case rel=>exact ⟨(y528),(wrap64 (x523002_1+1)),H',⟨by have := HK1.out;omega⟩,⟨by (with_reducible repeat (first|apply Kd.Znn|apply Kd.Znq|apply Kd.Znp));exact Kd.Znr (Kd.Zts (p:=⟨gb522,2,none⟩) (Kd.Zrk HO530.o BK522.o (by decide)) (fun _ hk=>hk.2) (.int .i64 (wrap64 (x523002_1+1)))) (fun _ hk=>hk.1)⟩,⟨by refine bp ?_;refine Za3 (cs:=#[.bool a0_0,(.slice Ao12 l0_1.length co12),.int .i64 x523002_1]) ?_ 2 _ rfl;exact bp BK522.o⟩,⟨bf NB523_522.o BK523.o⟩,⟨by repeat (first|(with_reducible first|exact HK.out|apply Kept.alloc|apply Kept.drewN|apply Kept.drew|refine Kept.setCell ?_ (.inr GW522.o) _|refine Kept.setCell ?_ (.inr GW523.o) _)|exact HK.out)⟩,⟨pB⟩⟩
      ·rw [if_neg c21] at H
       exact absurd H (by simp)
     ·rw [if_neg c20] at H
      have c20b0:((rd x4_1 0) == 0)=false:=beq_eq_false_iff_ne.mpr c20
      have c20b1:((rd x4_1 0) != 0)=true:=bne_iff_ne.mpr c20
      by_cases c26:(x4_1.length:Int) > 300
      ·rw [if_pos c26] at H
       have c26b0:decide (300 < (x4_1.length:Int))=true:=decide_eq_true c26
       have c26b1:decide (300 < x4_1.length)=true:=decide_eq_true (by omega)
       clear c26
       simp only [Option.some.injEq,Prod.mk.injEq] at H
       obtain ⟨rfl,rfl,rfl,rfl⟩:=H
       obtain ⟨Ao27,co27,eo27,_⟩:=Kd.Zhg HO_4.o
       subst eo27
       have p527:0<=(0:Int):=(by omega)
       have q527:0 < (x4_1.length:Int):=of_decide_eq_true pQ
       obtain ⟨ad527,e527,hx527_0⟩:=Kd.Za4 (Kd.Zek HO_4.o).2.2 0 p527 q527
       cases e527
       have qi527:(0 < x4_1.length)=True:=eq_true (by omega)
       (try rw [show ((0:Int)).toNat=0 from rfl] at hx527_0)
       (try rw [Addr.add_zero'] at hx527_0)
       replace p527:=eq_true p527
       replace q527:=eq_true q527
       have hnb28:=NB523_522.o
       have hnc28:=NB522_523.o
       obtain ⟨_,_,_,_,_,_⟩:=cEc BK523.o
       go_wp2
       refine bodyPost_ret (Za7 rfl _ _ gb523 24 #[.bool false,.slice none 0 0,.int .i64 0] (0,0) _ rfl (by exact p3 BK523) Tryz.underlying24 rfl (by kernel_rfl)) rfl ?_
       exact ⟨_,pE,pN,pB,by repeat (first|(with_reducible first|exact HK.out|apply Kept.alloc|apply Kept.drewN|apply Kept.drew|refine Kept.setCell ?_ (.inr GW522.o) _|refine Kept.setCell ?_ (.inr GW523.o) _)|exact HK.out)⟩
      ·rw [if_neg c26] at H
       have c26b0:decide (300 < (x4_1.length:Int))=false:=decide_eq_false c26
       have c26b1:decide (300 < x4_1.length)=false:=decide_eq_false (by omega)
       clear c26
       by_cases c30:x523002_1 < (-1000)
       ·rw [if_pos c30] at H
        have c30b0:decide (x523002_1 < (-1000))=true:=decide_eq_true c30
        clear c30
        simp only [Option.some.injEq,Prod.mk.injEq] at H
        obtain ⟨rfl,rfl,rfl,rfl⟩:=H
        obtain ⟨Ao31,co31,eo31,_⟩:=Kd.Zhg HO_4.o
        subst eo31
        have p527:0<=(0:Int):=(by omega)
        have q527:0 < (x4_1.length:Int):=of_decide_eq_true pQ
        obtain ⟨ad527,e527,hx527_0⟩:=Kd.Za4 (Kd.Zek HO_4.o).2.2 0 p527 q527
        cases e527
        have qi527:(0 < x4_1.length)=True:=eq_true (by omega)
        (try rw [show ((0:Int)).toNat=0 from rfl] at hx527_0)
        (try rw [Addr.add_zero'] at hx527_0)
        replace p527:=eq_true p527
        replace q527:=eq_true q527
        have hnb32:=NB522_523.o
        have hnc32:=NB523_522.o
        obtain ⟨_,_,_,_,_,_⟩:=cEc BK522.o
        obtain ⟨_,_,_,_,_,_⟩:=cEc BK523.o
        go_wp2
        refine bodyPost_ret (Za7 rfl _ _ gb523 24 #[.bool false,.slice none 0 0,.int .i64 0] (0,0) _ rfl (by exact p3 BK523) Tryz.underlying24 rfl (by kernel_rfl)) rfl ?_
        exact ⟨_,pE,pN,pB,by repeat (first|(with_reducible first|exact HK.out|apply Kept.alloc|apply Kept.drewN|apply Kept.drew|refine Kept.setCell ?_ (.inr GW522.o) _|refine Kept.setCell ?_ (.inr GW523.o) _)|exact HK.out)⟩
       ·rw [if_neg c30] at H
        have c30b0:decide (x523002_1 < (-1000))=false:=decide_eq_false c30
        clear c30
        by_cases c35:x523002_1 > 1000
        ·rw [if_pos c35] at H
         have c35b0:decide (1000 < x523002_1)=true:=decide_eq_true c35
         clear c35
         simp only [Option.some.injEq,Prod.mk.injEq] at H
         obtain ⟨rfl,rfl,rfl,rfl⟩:=H
         obtain ⟨Ao36,co36,eo36,_⟩:=Kd.Zhg HO_4.o
         subst eo36
         have p527:0<=(0:Int):=(by omega)
         have q527:0 < (x4_1.length:Int):=of_decide_eq_true pQ
         obtain ⟨ad527,e527,hx527_0⟩:=Kd.Za4 (Kd.Zek HO_4.o).2.2 0 p527 q527
         cases e527
         have qi527:(0 < x4_1.length)=True:=eq_true (by omega)
         (try rw [show ((0:Int)).toNat=0 from rfl] at hx527_0)
         (try rw [Addr.add_zero'] at hx527_0)
         replace p527:=eq_true p527
         replace q527:=eq_true q527
         have hnb37:=NB522_523.o
         have hnc37:=NB523_522.o
         obtain ⟨_,_,_,_,_,_⟩:=cEc BK522.o
         obtain ⟨_,_,_,_,_,_⟩:=cEc BK523.o
         go_wp2
         refine bodyPost_ret (Za7 rfl _ _ gb523 24 #[.bool false,.slice none 0 0,.int .i64 0] (0,0) _ rfl (by exact p3 BK523) Tryz.underlying24 rfl (by kernel_rfl)) rfl ?_
         exact ⟨_,pE,pN,pB,by repeat (first|(with_reducible first|exact HK.out|apply Kept.alloc|apply Kept.drewN|apply Kept.drew|refine Kept.setCell ?_ (.inr GW522.o) _|refine Kept.setCell ?_ (.inr GW523.o) _)|exact HK.out)⟩
        ·rw [if_neg c35] at H
         have c35b0:decide (1000 < x523002_1)=false:=decide_eq_false c35
         clear c35
         obtain ⟨t531,A40,H⟩:=ob H
         simp only [Option.some.injEq,Prod.mk.injEq] at H
         obtain ⟨rfl,rfl,rfl,rfl⟩:=H
         obtain ⟨Ao41,co41,eo41,_⟩:=Kd.Zhg HO_4.o
         subst eo41
         have p527:0<=(0:Int):=(by omega)
         have q527:0 < (x4_1.length:Int):=of_decide_eq_true pQ
         obtain ⟨ad527,e527,hx527_0⟩:=Kd.Za4 (Kd.Zek HO_4.o).2.2 0 p527 q527
         cases e527
         have qi527:(0 < x4_1.length)=True:=eq_true (by omega)
         (try rw [show ((0:Int)).toNat=0 from rfl] at hx527_0)
         (try rw [Addr.add_zero'] at hx527_0)
         replace p527:=eq_true p527
         replace q527:=eq_true q527
         have hnb42:=NB522_523.o
         have hnc42:=NB523_522.o
         obtain ⟨_,_,_,_,_,_⟩:=cEc BK522.o
         try go_wp2
         replace HO_4:=am (Kd.Znp HO_4.o)
         replace BK522:=am (Zbb BK522.o)
         replace BK523:=am (Zbb BK523.o)
         replace HK:=am (Kept.drew HK.out)
         replace HB:=am (Zaz HB.o)
         refine start_ (n:=9) (S:=fun w'=>w'.cell? ⟨gb522,0,none⟩=some (.bool a0_0)/\w'.cell? ⟨gb522,1,none⟩=some ((.slice Ao12 l0_1.length co12))/\w'.cell? ⟨gb522,2,none⟩=some (.int .i64 x523002_1)) (ds:=[]) #[false,false,false,false,false,false,false,false,false] (by kernel_rfl) rfl rfl ⟨k0 BK522 0,k0 BK522 1,k0 BK522 2⟩ (fun hHeld=>?_);refine Zcq Zm.tab11 Zm.bits11 (fun HT_ HW_=>?_)
         generalize wr.drew=w44 at HO_4 BK522 BK523 HK HB hHeld ⊢
         refine pu 0 (some 37) #[true,false,false,false,false,false,false,false,false] (h:=?_)
         refine pu 2 (some 39) #[true,false,true,false,false,false,false,false,false] (h:=?_)
         refine pu 4 (some 41) #[true,false,true,false,true,false,false,false,false] (h:=?_)
         refine take_ (i:=1) (N:=some 38) (v:=?_) (a':=?_) #[true,true,true,false,true,false,false,false,false] rfl rfl (Zbi HT_.out HW_.out (by kernel_rfl)) (fun _ _ _ h=>h) (Or.inl ⟨by rfl,?_⟩) hHeld ?_ ?_
         rotate_left
         ·rintro w' ⟨s0,s1,s2⟩
          go_simp
          with_reducible rfl
         rotate_left
         ·exact pP
         refine take_ (i:=5) (N:=some 42) (v:=?_) (a':=?_) #[true,true,true,false,true,true,false,false,false] rfl rfl (Zbi HT_.out HW_.out (by kernel_rfl)) (fun _ _ _ h=>h) (Or.inl ⟨by rfl,?_⟩) hHeld ?_ ?_
         rotate_left
         ·rintro w' ⟨s0,s1,s2⟩
          go_simp
          with_reducible rfl
         rotate_left
         ·exact pP
         refine one_ (i:=3) (N:=some 40) #[true,true,true,true,true,true,false,false,false] rfl rfl (Zbw HT_.out (by kernel_rfl)) (by decide) (fun K hK=>?_)
         refine goes_ Tryz.func80 (by kernel_rfl) rfl #[.slice (some ad527) x4_1.length co41] (by rfl) rfl rfl pA ?_
         with_reducible refine (Zw.calls k1 _ _ x4_1 t531 _ ?side1 ?side2 A40.o).mono ?_
         (case side1=>exact Kd.Zx (Kd.Zek HO_4.o).2.2 pl)
         (case side2=>exact (Kd.Zek HO_4.o).2.1)
         rintro e w45 ⟨v532,rfl,ho0,hb⟩
         refine ⟨_,rfl,?_⟩
         replace HO_4:=am (Kd.Zis (by (with_reducible repeat (first|apply Kd.Znn|apply Kd.Znq|apply Kd.Znp));exact HO_4.o) hb)
         have HO533:=am (Kd.Zq (Kd.Zet (M:=fun k_=>(P0_1_ k_\/w.heap.size<=k_)) ho0 (by first|exact HK.out.1|exact (show Kept w _ (fun k_=>P0_1_ k_) from by repeat (first|(with_reducible first|exact HK.out|apply Kept.alloc|apply Kept.drewN|apply Kept.drew|refine Kept.setCell ?_ (.inr GW522.o) _|refine Kept.setCell ?_ (.inr GW523.o) _)|exact HK.out)).1) (fun k_ h_=>.inr h_)) (Zb pB))
         replace BK522:=bb BK522 hb
         replace BK523:=bb BK523 hb
         replace HK:=am (Kept.below (S:=(fun k_=>P0_1_ k_)) (by repeat (first|(with_reducible first|exact HK.out|apply Kept.alloc|apply Kept.drewN|apply Kept.drew|refine Kept.setCell ?_ (.inr GW522.o) _|refine Kept.setCell ?_ (.inr GW523.o) _)|exact HK.out)) hb)
         replace HB:=bS hb
         obtain ⟨Ao46,co46,eo46⟩:=Kd.Zj HO533.o
         (first|subst eo46|(injection eo46 with f1_ f2_ f3_;have f4_:=f1_.symm;have f5_:=f3_.symm;clear f1_ f2_ f3_;subst f4_;subst f5_))
         refine hK.out _ _ ⟨k0 BK522 0,k0 BK522 1,k0 BK522 2⟩ (fun hHeld=>?_)
         clear hK K
         refine norm_ (a':=?_) ?_ ?_
         rotate_left
         ·show Act.put _ (some 40) _=_
          exact pP
         refine pu 6 (some 43) #[true,true,true,true,true,true,true,false,false] (h:=?_)
         refine one_ (i:=7) (N:=none) #[true,true,true,true,true,true,true,true,false] rfl rfl (Zbw HT_.out (by kernel_rfl)) (by decide) (fun K hK=>?_)
         have hs47:w45.cell? ⟨gb523,0,none⟩=some (.bool false):=k0 BK523 0
         have hfs47:=Zau BK523.o 0
         have hns47_0:=NB522_523.o
         have hms47_0:=NB523_522.o
         have hs48:w45.cell? ⟨gb523,1,none⟩=some (.slice none 0 0):=k0 BK523 1
         have hfs48:=Zau BK523.o 1
         have hns48_0:=NB522_523.o
         have hms48_0:=NB523_522.o
         have hs49:w45.cell? ⟨gb523,2,none⟩=some (.int .i64 0):=k0 BK523 2
         have hfs49:=Zau BK523.o 2
         have hns49_0:=NB522_523.o
         have hms49_0:=NB523_522.o
         refine skip_ (w1:=?_) (by rfl) rfl ?_ ?_
         rotate_left
         ·go_simp
          rfl
         refine hK.out _ _ ⟨((cell_far (p:=⟨gb523,_,none⟩) NB522_523.o _).trans (((cell_far (p:=⟨gb523,_,none⟩) NB522_523.o _).trans (((cell_far (p:=⟨gb523,_,none⟩) NB522_523.o _).trans (hHeld.1)))))),((cell_far (p:=⟨gb523,_,none⟩) NB522_523.o _).trans (((cell_far (p:=⟨gb523,_,none⟩) NB522_523.o _).trans (((cell_far (p:=⟨gb523,_,none⟩) NB522_523.o _).trans (hHeld.2.1)))))),((cell_far (p:=⟨gb523,_,none⟩) NB522_523.o _).trans (((cell_far (p:=⟨gb523,_,none⟩) NB522_523.o _).trans (((cell_far (p:=⟨gb523,_,none⟩) NB522_523.o _).trans (hHeld.2.2))))))⟩ (fun hHeld=>?_)
         clear hK K
         refine pu 8 (some 3) #[true,true,true,true,true,true,true,true,true] (h:=?_)
         refine done_ (Zdl HT_.out (by kernel_rfl)) ?_
         try go_wp2
         refine bodyPost_ret (Za7 rfl _ _ gb523 24 #[.bool a0_0,.slice Ao46 t531.length co46,.int .i64 x523002_1] (0,0) _ rfl (by exact p3 BK523) Tryz.underlying24 rfl (by kernel_rfl)) rfl ?_
         exact ⟨_,pE,by refine rp ?_;exact Kd.Zi (Kd.Zp (p:=⟨gb523,2,none⟩) (Kd.Zp (p:=⟨gb523,1,none⟩) (Kd.Zp (p:=⟨gb523,0,none⟩) (Kd.Zaa HO533.o BK523.o (by decide)) (fun _ hk=>hk.2) (.bool a0_0)) (fun _ hk=>hk.2) (.slice Ao46 t531.length co46)) (fun _ hk=>hk.2) (.int .i64 x523002_1)) (fun _ hk=>hk.1.1),pB,by repeat (first|(with_reducible first|exact HK.out|apply Kept.alloc|apply Kept.drewN|apply Kept.drew|refine Kept.setCell ?_ (.inr GW522.o) _|refine Kept.setCell ?_ (.inr GW523.o) _)|exact HK.out)⟩
    ·rw [if_neg c19] at H
     exact absurd H (by simp)
def Zn.f (k:Nat) (a0_0:Bool) (l0_1:List Int) (a0_2:Int):Option (Bool × List Int × Int):=(Zam.f k l0_1).bind fun t589=>(some (a0_0,t589,a0_2))
def Zn.T1:Bool × List (List Nat × List Nat):=(true,[([],[]),([0],[0]),([],[]),([2],[2]),([3],[3]),([],[]),([5],[5]),([1,4,6],[1,4,6]),([7,4,0,1,2,3,4,5,6,7],[7])])
def Zn.B1:List Nat:=[0,1,0,4,12,0,32,127,255]
theorem Zn.tab1:rtab .any (opsOf Tryz.f18 1)=Zn.T1:=by kernel_rfl
theorem Zn.bits1:waitsOk Zn.T1.2 Zn.B1=true:=by kernel_rfl
theorem Zn.calls (k:Nat) (a0_0:Bool) (A0_1:Option Addr) (c0_1:Nat) (l0_1:List Int) (a0_2:Int) (r1:Bool) (r2:List Int) (r3:Int) (w:World) (hr0_1:Kd.C (Kd.int .u32) w A0_1 l0_1.length l0_1) (hc0_1:l0_1.length<=c0_1) (h:Zn.f k a0_0 l0_1 a0_2=some (r1,r2,r3)) :
  Calls Tryz.prog 18 #[.agg #[.bool a0_0,.slice A0_1 l0_1.length c0_1,.int .i64 a0_2]] w fun e w' => ∃ v1_:Value,e=.returned (.agg #[.bool r1,v1_,.int .i64 r3])/\Kd.R (Kd.int .i64) 3 w' w.heap.size (fun _=>True) v1_ r2/\Below w.heap.size w w':=by
 have hu24:=Tryz.underlying24
 have hu30:=Tryz.underlying30
 have HR0_1:=am hr0_1
 have HC0_1:=am hc0_1
 clear hr0_1 hc0_1
 have HB:=am (Below.refl w.heap.size w)
 have H:((Zam.f k l0_1).bind fun t589=>(some (a0_0,t589,a0_2)))=some (r1,r2,r3):=h
 clear h
 obtain ⟨t589,A2,H⟩:=ob H
 simp only [Option.some.injEq,Prod.mk.injEq] at H
 obtain ⟨rfl,rfl,rfl⟩:=H
 go_enter Tryz.func18,Tryz.ntmps18
 try go_wp2_with (first|((with_reducible refine gd 1 ?_);refine bx 1 #[.bool a0_0,.slice A0_1 l0_1.length c0_1,.int .i64 a0_2] 24 (h:=?_);intro gb587 hg w3 hbox hb;have BK587:=am hbox;have GW587:=gW hg;replace HB:=bS hb;clear hb hbox hg)|((with_reducible refine gd 2 ?_);refine bx 2 #[.bool false,.slice none 0 0,.int .i64 0] 30 (h:=?_);intro gb588 hg w4 hbox hb;have BK588:=am hbox;have GW588:=gW hg;have NB587_588:=nL hg BK587;have NB588_587:=nG hg BK587;replace BK587:=bb BK587 hb;replace HB:=bS hb;clear hb hbox hg))
 replace BK587:=am (Zbb BK587.o)
 replace BK588:=am (Zbb BK588.o)
 replace HB:=am (Zaz HB.o)
 refine start_ (n:=9) (S:=fun w'=>w'.cell? ⟨gb587,0,none⟩=some (.bool a0_0)/\w'.cell? ⟨gb587,1,none⟩=some (.slice A0_1 l0_1.length c0_1)/\w'.cell? ⟨gb587,2,none⟩=some (.int .i64 a0_2)) (ds:=[]) #[false,false,false,false,false,false,false,false,false] (by kernel_rfl) rfl rfl ⟨k0 BK587 0,k0 BK587 1,k0 BK587 2⟩ (fun hHeld=>?_);refine Zcq Zn.tab1 Zn.bits1 (fun HT_ HW_=>?_)
 generalize w4.drew=w5 at BK587 BK588 HB hHeld ⊢
 refine pu 0 (some 3) #[true,false,false,false,false,false,false,false,false] (h:=?_)
 refine pu 2 (some 5) #[true,false,true,false,false,false,false,false,false] (h:=?_)
 refine pu 5 (some 8) #[true,false,true,false,false,true,false,false,false] (h:=?_)
 refine take_ (i:=1) (N:=some 4) (v:=?_) (a':=?_) #[true,true,true,false,false,true,false,false,false] rfl rfl (Zbi HT_.out HW_.out (by kernel_rfl)) (fun _ _ _ h=>h) (Or.inl ⟨by rfl,?_⟩) hHeld ?_ ?_
 rotate_left
 ·rintro w' ⟨s0,s1,s2⟩
  go_simp
  with_reducible rfl
 rotate_left
 ·exact pP
 refine take_ (i:=3) (N:=some 6) (v:=?_) (a':=?_) #[true,true,true,true,false,true,false,false,false] rfl rfl (Zbi HT_.out HW_.out (by kernel_rfl)) (fun _ _ _ h=>h) (Or.inl ⟨by rfl,?_⟩) hHeld ?_ ?_
 rotate_left
 ·rintro w' ⟨s0,s1,s2⟩
  go_simp
  with_reducible rfl
 rotate_left
 ·exact pP
 refine take_ (i:=6) (N:=some 9) (v:=?_) (a':=?_) #[true,true,true,true,false,true,true,false,false] rfl rfl (Zbi HT_.out HW_.out (by kernel_rfl)) (fun _ _ _ h=>h) (Or.inl ⟨by rfl,?_⟩) hHeld ?_ ?_
 rotate_left
 ·rintro w' ⟨s0,s1,s2⟩
  go_simp
  with_reducible rfl
 rotate_left
 ·exact pP
 refine one_ (i:=4) (N:=some 7) #[true,true,true,true,true,true,true,false,false] rfl rfl (Zbw HT_.out (by kernel_rfl)) (by decide) (fun K hK=>?_)
 refine goes_ Tryz.func66 (by kernel_rfl) rfl #[.slice A0_1 l0_1.length c0_1] (by rfl) rfl rfl pA ?_
 with_reducible refine (Zam.calls k _ _ l0_1 t589 _ ?side1 ?side2 A2.o).mono ?_
 (case side1=>exact cB HR0_1 HB)
 (case side2=>exact HC0_1.o)
 rintro e w6 ⟨v590,rfl,ho0,hb⟩
 refine ⟨_,rfl,?_⟩
 have HO591:=am (Kd.Zq ho0 (Zb pB))
 replace BK587:=bb BK587 hb
 replace BK588:=bb BK588 hb
 replace HB:=bS hb
 obtain ⟨Ao7,co7,eo7⟩:=Kd.Zj HO591.o
 (first|subst eo7|(injection eo7 with f1_ f2_ f3_;have f4_:=f1_.symm;have f5_:=f3_.symm;clear f1_ f2_ f3_;subst f4_;subst f5_))
 refine hK.out _ _ ⟨k0 BK587 0,k0 BK587 1,k0 BK587 2⟩ (fun hHeld=>?_)
 clear hK K
 refine norm_ (a':=?_) ?_ ?_
 rotate_left
 ·show Act.put _ (some 7) _=_
  exact pP
 refine pu 7 (some 10) #[true,true,true,true,true,true,true,true,false] (h:=?_)
 refine one_ (i:=8) (N:=none) #[true,true,true,true,true,true,true,true,true] rfl rfl (Zbw HT_.out (by kernel_rfl)) (by decide) (fun K hK=>?_)
 have hs8:w6.cell? ⟨gb588,0,none⟩=some (.bool false):=k0 BK588 0
 have hfs8:=Zau BK588.o 0
 have hns8_0:=NB587_588.o
 have hms8_0:=NB588_587.o
 have hs9:w6.cell? ⟨gb588,1,none⟩=some (.slice none 0 0):=k0 BK588 1
 have hfs9:=Zau BK588.o 1
 have hns9_0:=NB587_588.o
 have hms9_0:=NB588_587.o
 have hs10:w6.cell? ⟨gb588,2,none⟩=some (.int .i64 0):=k0 BK588 2
 have hfs10:=Zau BK588.o 2
 have hns10_0:=NB587_588.o
 have hms10_0:=NB588_587.o
 refine skip_ (w1:=?_) (by rfl) rfl ?_ ?_
 rotate_left
 ·go_simp
  rfl
 refine hK.out _ _ ⟨((cell_far (p:=⟨gb588,_,none⟩) NB587_588.o _).trans (((cell_far (p:=⟨gb588,_,none⟩) NB587_588.o _).trans (((cell_far (p:=⟨gb588,_,none⟩) NB587_588.o _).trans (hHeld.1)))))),((cell_far (p:=⟨gb588,_,none⟩) NB587_588.o _).trans (((cell_far (p:=⟨gb588,_,none⟩) NB587_588.o _).trans (((cell_far (p:=⟨gb588,_,none⟩) NB587_588.o _).trans (hHeld.2.1)))))),((cell_far (p:=⟨gb588,_,none⟩) NB587_588.o _).trans (((cell_far (p:=⟨gb588,_,none⟩) NB587_588.o _).trans (((cell_far (p:=⟨gb588,_,none⟩) NB587_588.o _).trans (hHeld.2.2))))))⟩ (fun hHeld=>?_)
 clear hK K
 refine done_ (Zdl HT_.out (by kernel_rfl)) ?_
 try go_wp2
 refine bodyPost_ret (results_cell_row rfl _ _ gb588 30 #[.bool a0_0,.slice Ao7 t589.length co7,.int .i64 a0_2] (0,0) _ rfl (by exact p3 BK588) Tryz.underlying30 rfl (by kernel_rfl)) rfl ?_
 exact ⟨_,pE,by refine rp ?_;exact Kd.Zi (Kd.Zp (p:=⟨gb588,2,none⟩) (Kd.Zp (p:=⟨gb588,1,none⟩) (Kd.Zp (p:=⟨gb588,0,none⟩) (Kd.Zaa HO591.o BK588.o (by decide)) (fun _ hk=>hk.2) (.bool a0_0)) (fun _ hk=>hk.2) (.slice Ao7 t589.length co7)) (fun _ hk=>hk.2) (.int .i64 a0_2)) (fun _ hk=>trivial),pB⟩
mutual
def Zo.j0:Nat->Bool->Bool->List Int->Int->Option (Int)
 | 0,_,_,_,_=>none
 | k+1,x13,x648000,x648001,x648002=>if x13=true then (some 9) else ((Zn.f k x648000 x648001 x648002).bind fun bt649=>(if (bt649.2.1.length:Int)=0 then (if x648000=true then (Zo.j1 k true) else (Zo.j1 k (x648002 != 0))) else (if 0 < (bt649.2.1.length:Int) then (if (rd bt649.2.1 0)=0 then (some 9) else (if (bt649.2.1.length:Int) > 300 then (some 9) else (if x648002 < (-1000) then (some 9) else (if x648002 > 1000 then (some 9) else (some 0))))) else (none))))
def Zo.j1:Nat->Bool->Option (Int)
 | 0,_=>none
 | k+1,x26=>if x26=true then (some 9) else (some 0)
end
def Zo.f (k:Nat) (a0_0:Bool) (l0_1:List Int) (a0_2:Int):Option (Int):=(Zb3.f l0_1).bind fun t648=>(if t648=0 then (Zo.j0 k (decide ((l0_1.length:Int) > 40)) a0_0 l0_1 a0_2) else (Zo.j0 k true a0_0 l0_1 a0_2))
theorem Zo.calls (k:Nat) (a0_0:Bool) (A0_1:Option Addr) (c0_1:Nat) (l0_1:List Int) (a0_2:Int) (r:Int) (w:World) (hr0_1:Kd.C (Kd.int .u32) w A0_1 l0_1.length l0_1) (hc0_1:l0_1.length<=c0_1) (h:Zo.f k a0_0 l0_1 a0_2=some r) :
  Calls Tryz.prog 33 #[.agg #[.bool a0_0,.slice A0_1 l0_1.length c0_1,.int .i64 a0_2]] w fun e w'=>e=.returned (.int .i64 r)/\Below w.heap.size w w':=by
 have hu24:=Tryz.underlying24
 have hu30:=Tryz.underlying30
 have HR0_1:=am hr0_1
 have HC0_1:=am hc0_1
 clear hr0_1 hc0_1
 have HB:=am (Below.refl w.heap.size w)
 have H:((Zb3.f l0_1).bind fun t648=>(if t648=0 then (Zo.j0 k (decide ((l0_1.length:Int) > 40)) a0_0 l0_1 a0_2) else (Zo.j0 k true a0_0 l0_1 a0_2)))=some r:=h
 clear h
 have HC2:=am H
 clear H
 go_enter Tryz.func33,Tryz.ntmps33
 go_upto_region 1 with (first|((with_reducible refine gd 1 ?_);(try (refine Zao (by rfl) ?_;dsimp only));refine bx 1 #[.bool a0_0,.slice A0_1 l0_1.length c0_1,.int .i64 a0_2] 24 (h:=?_);intro gb647 hg w3 hbox hb;have BK647:=am hbox;have GW647:=gW hg;replace HB:=bS hb;clear hb hbox hg))
 (try simp only [Act.put,List.setIfInBounds_toArray,List.set_cons_zero,List.set_cons_succ])
 go_cut [13] (fun v13 wc => ∃ (kq:Nat) (x13_1:Bool),v13=.bool x13_1/\Aside0 (Zo.j0 kq x13_1 a0_0 l0_1 a0_2=some r)/\Aside0 (kq<=k)/\Aside0 (wc.heap[gb647]? = some (.cells #[.bool a0_0,(.slice A0_1 l0_1.length c0_1),.int .i64 a0_2] 24 (0,0)))/\Aside0 (Below w.heap.size w wc))
 case first =>
  have H:=HC2.o
  clear HC2
  obtain ⟨t648,A4,H⟩:=ob H
  by_cases c5:t648=0
  ·rw [if_pos c5] at H
   have c5b0:(t648 == 0)=true:=beq_iff_eq.mpr c5
   have c5b1:(t648 != 0)=false:=bne_eq_false_iff_eq.mpr c5
   clear c5
   (first|rw [c5b0]|(simp only [Zcd,Zdb];rw [c5b0])|skip)
   have H':=am H
   clear H
   obtain ⟨_,_,_,_,_,_⟩:=cEc BK647.o
   go_wp2_with (first|(refine gL (some 6) Tryz.func91 #[.slice A0_1 l0_1.length c0_1] (h:=?_);(with_reducible refine (Zb3.calls _ _ l0_1 t648 _ ?side1 ?side2 A4.o).mono ?_);(case side1=>exact cB HR0_1 HB);(case side2=>exact HC0_1.o);rintro e w' ⟨rfl,⟨nd,rfl⟩⟩;refine ⟨_,rfl,?_⟩))
   go_meet
   case rel=>exact ⟨_,(decide ((l0_1.length:Int) > 40)),pR,H',⟨by first|omega|exact Nat.le_refl _⟩,⟨Zc BK647.o pl⟩,⟨pB⟩⟩
  ·rw [if_neg c5] at H
   have c5b0:(t648 == 0)=false:=beq_eq_false_iff_ne.mpr c5
   have c5b1:(t648 != 0)=true:=bne_iff_ne.mpr c5
   (first|rw [c5b0]|(simp only [Zcd,Zdb];rw [c5b0])|skip)
   have H':=am H
   clear H
   obtain ⟨_,_,_,_,_,_⟩:=cEc BK647.o
   go_wp2_with (first|(refine gL (some 6) Tryz.func91 #[.slice A0_1 l0_1.length c0_1] (h:=?_);(with_reducible refine (Zb3.calls _ _ l0_1 t648 _ ?side1 ?side2 A4.o).mono ?_);(case side1=>exact cB HR0_1 HB);(case side2=>exact HC0_1.o);rintro e w' ⟨rfl,⟨nd,rfl⟩⟩;refine ⟨_,rfl,?_⟩))
   go_meet
   case rel=>exact ⟨_,(true),pR,H',⟨by first|omega|exact Nat.le_refl _⟩,⟨Zc BK647.o pl⟩,⟨pB⟩⟩
 case rest =>
  clear HC2
  obtain ⟨kq,x13_1,rfl,HA,HJ1,BK647,HB⟩:=hcut
  cases kq with
  | zero=>exact absurd HA.out (by simp [Zo.j0])
  | succ kj1 =>
   have H:=HA.out
   clear HA
   simp only [Zo.j0] at H
   by_cases c8:x13_1=true
   ·subst c8
    rw [if_pos rfl] at H
    obtain rfl:=Option.some.inj H
    go_wp2
    go_ret
    exact ⟨pE,pB⟩
   ·replace c8:=Bool.eq_false_iff.mpr c8
    subst c8
    rw [if_neg (show ¬ (false=true) by decide)] at H
    obtain ⟨⟨t649,t650,t653⟩,A9,H⟩:=ob H;(try dsimp only at H)
    by_cases c10:(t650.length:Int)=0
    ·rw [if_pos c10] at H
     have c10b0:((t650.length:Int) == 0)=true:=beq_iff_eq.mpr c10
     have c10b1:((t650.length:Int) != 0)=false:=bne_eq_false_iff_eq.mpr c10
     clear c10
     have HC11:=am H
     clear H
     obtain ⟨_,_,_,_,_,_⟩:=cEc BK647.o
     go_upto_region 5 with (first|(refine gL (some 15) Tryz.func18 #[.agg #[.bool a0_0,.slice A0_1 l0_1.length c0_1,.int .i64 a0_2]] (h:=?_);(with_reducible refine (Zn.calls kj1 a0_0 _ _ l0_1 a0_2 t649 t650 t653 _ ?side1 ?side2 A9.o).mono ?_);(case side1=>exact cB HR0_1 HB);(case side2=>exact HC0_1.o);rintro e w13 ⟨v651,rfl,ho0,hb⟩;refine ⟨_,rfl,?_⟩;have HO652:=am (Kd.Zq ho0 (Zb pB));replace BK647:=bb BK647 hb;replace HB:=bS hb)|((with_reducible refine gd 3 ?_);(try (refine Zao (by rfl) ?_;dsimp only));refine bx 3 #[.bool false,.slice none 0 0,.int .i64 0] 30 (h:=?_);intro gb654 hg w14 hbox hb;have BK654:=am hbox;have GW654:=gW hg;have GE654:=gW hg;have NB647_654:=nL hg BK647;have NB654_647:=nG hg BK647;replace HO652:=rbl HO652 hb;replace BK647:=bb BK647 hb;replace HB:=bS hb;clear hb hbox hg;have hnb15:=NB654_647.o;have hnc15:=NB647_654.o;obtain ⟨_,_,_,_,_,_⟩:=cEc BK654.o;obtain ⟨Ao17,co17,eo17⟩:=Kd.Zj HO652.o;subst eo17))
     (try simp only [Act.put,List.setIfInBounds_toArray,List.set_cons_zero,List.set_cons_succ])
     go_cut [26] (fun v26 wc => ∃ (kq:Nat) (x26_10:Bool),v26=.bool x26_10/\Aside0 (Zo.j1 kq x26_10=some r)/\Aside0 (kq<=kj1)/\Aside0 (Kd.R (Kd.int .i64) 3 wc w.heap.size (fun _=>True) (.slice Ao17 t650.length co17) t650)/\Aside0 (wc.heap[gb647]? = some (.cells #[.bool a0_0,(.slice A0_1 l0_1.length c0_1),.int .i64 a0_2] 24 (0,0)))/\Aside0 (wc.heap[gb654]? = some (.cells #[.bool t649,(.slice Ao17 t650.length co17),.int .i64 t653] 30 (0,0)))/\Aside0 (Below w.heap.size w wc))
     case first =>
      have H:=HC11.o
      clear HC11
      by_cases c18:a0_0=true
      ·subst c18
       rw [if_pos rfl] at H
       have H':=am H
       clear H
       have hnb19:=NB647_654.o
       have hnc19:=NB654_647.o
       obtain ⟨_,_,_,_,_,_⟩:=cEc BK647.o
       go_wp2
       go_meet
       case rel=>exact ⟨_,(true),pR,H',⟨by have := HJ1.o;first|omega|exact Nat.le_refl _⟩,⟨by refine rp ?_;exact Kd.Zi (Kd.Zp (p:=⟨gb654,2,none⟩) (Kd.Zp (p:=⟨gb654,1,none⟩) (Kd.Zp (p:=⟨gb654,0,none⟩) (Kd.Zaa HO652.o BK654.o (by decide)) (fun _ hk=>hk.2) (.bool t649)) (fun _ hk=>hk.2) (.slice Ao17 t650.length co17)) (fun _ hk=>hk.2) (.int .i64 t653)) (fun _ hk=>trivial)⟩,⟨bf NB647_654.o BK647.o⟩,⟨by exact p3 BK654⟩,⟨pB⟩⟩
      ·replace c18:=Bool.eq_false_iff.mpr c18
       subst c18
       rw [if_neg (show ¬ (false=true) by decide)] at H
       have H':=am H
       clear H
       have hnb21:=NB647_654.o
       have hnc21:=NB654_647.o
       obtain ⟨_,_,_,_,_,_⟩:=cEc BK647.o
       go_wp2
       go_meet
       case rel=>exact ⟨_,((a0_2 != 0)),pR,H',⟨by have := HJ1.o;first|omega|exact Nat.le_refl _⟩,⟨by refine rp ?_;exact Kd.Zi (Kd.Zp (p:=⟨gb654,2,none⟩) (Kd.Zp (p:=⟨gb654,1,none⟩) (Kd.Zp (p:=⟨gb654,0,none⟩) (Kd.Zaa HO652.o BK654.o (by decide)) (fun _ hk=>hk.2) (.bool t649)) (fun _ hk=>hk.2) (.slice Ao17 t650.length co17)) (fun _ hk=>hk.2) (.int .i64 t653)) (fun _ hk=>trivial)⟩,⟨bf NB647_654.o BK647.o⟩,⟨by exact p3 BK654⟩,⟨pB⟩⟩
     case rest =>
      clear HC11
      obtain ⟨kq,x26_10,rfl,HA,HJ10,HO_655001,BK647,BK654,HB⟩:=hcut
      cases kq with
      | zero=>exact absurd HA.out (by simp [Zo.j1])
      | succ kj10 =>
       have H:=HA.out
       clear HA
       simp only [Zo.j1] at H
       by_cases c23:x26_10=true
       ·subst c23
        rw [if_pos rfl] at H
        obtain rfl:=Option.some.inj H
        go_wp2
        go_ret
        exact ⟨pE,pB⟩
       ·replace c23:=Bool.eq_false_iff.mpr c23
        subst c23
        rw [if_neg (show ¬ (false=true) by decide)] at H
        obtain rfl:=Option.some.inj H
        go_wp2
        go_ret
        exact ⟨pE,pB⟩
    ·rw [if_neg c10] at H
     have c10b0:((t650.length:Int) == 0)=false:=beq_eq_false_iff_ne.mpr c10
     have c10b1:((t650.length:Int) != 0)=true:=bne_iff_ne.mpr c10
     have c10b2:¬ (t650=[]):=fun h_=>c10 (by rw [h_];rfl)
     by_cases c24:0 < (t650.length:Int)
     ·rw [if_pos c24] at H
      have c24b0:decide (0 < (t650.length:Int))=true:=decide_eq_true c24
      have c24b1:decide (0 < t650.length)=true:=decide_eq_true (by omega)
      clear c24
      by_cases c25:(rd t650 0)=0
      ·rw [if_pos c25] at H
       have c25b0:((rd t650 0) == 0)=true:=beq_iff_eq.mpr c25
       have c25b1:((rd t650 0) != 0)=false:=bne_eq_false_iff_eq.mpr c25
       clear c25
       obtain rfl:=Option.some.inj H
       obtain ⟨_,_,_,_,_,_⟩:=cEc BK647.o
       go_wp2_with (first|(refine gL (some 15) Tryz.func18 #[.agg #[.bool a0_0,.slice A0_1 l0_1.length c0_1,.int .i64 a0_2]] (h:=?_);(with_reducible refine (Zn.calls kj1 a0_0 _ _ l0_1 a0_2 t649 t650 t653 _ ?side1 ?side2 A9.o).mono ?_);(case side1=>exact cB HR0_1 HB);(case side2=>exact HC0_1.o);rintro e w27 ⟨v651,rfl,ho0,hb⟩;refine ⟨_,rfl,?_⟩;have HO652:=am (Kd.Zq ho0 (Zb pB));replace BK647:=bb BK647 hb;replace HB:=bS hb)|((with_reducible refine gd 3 ?_);(try (refine Zao (by rfl) ?_;dsimp only));refine bx 3 #[.bool false,.slice none 0 0,.int .i64 0] 30 (h:=?_);intro gb654 hg w28 hbox hb;have BK654:=am hbox;have GW654:=gW hg;have GE654:=gW hg;have NB647_654:=nL hg BK647;have NB654_647:=nG hg BK647;replace HO652:=rbl HO652 hb;replace BK647:=bb BK647 hb;replace HB:=bS hb;clear hb hbox hg;have hnb29:=NB654_647.o;have hnc29:=NB647_654.o;obtain ⟨_,_,_,_,_,_⟩:=cEc BK654.o;obtain ⟨Ao31,co31,eo31⟩:=Kd.Zj HO652.o;subst eo31;have p655:0<=(0:Int):=(by omega);have q655:0 < (t650.length:Int):=of_decide_eq_true pQ;obtain ⟨ad655,e655,hx655_0⟩:=Kd.Za4 (Kd.Zd HO652.o).2.2 0 p655 q655;cases e655;have qi655:(0 < t650.length)=True:=eq_true (by omega);(try rw [show ((0:Int)).toNat=0 from rfl] at hx655_0);(try rw [Addr.add_zero'] at hx655_0);have hn655_0:ad655.block ≠ gb654:=Kd.Zdo (Kd.R_ne HO652.o BK654.o (by decide));have hn655_1:ad655.block ≠ gb654:=Kd.Zdo (Kd.R_ne HO652.o BK654.o (by decide));have hn655_2:ad655.block ≠ gb654:=Kd.Zdo (Kd.R_ne HO652.o BK654.o (by decide));replace hx655_0:=(cell_far (p:=⟨gb654,0,none⟩) (by first|(rw [Zba];exact hn655_0)|(show (Addr.add _ _).block ≠ _;rw [Zba];exact hn655_0)|exact hn655_0) (.bool t649)).trans hx655_0;replace hx655_0:=(cell_far (p:=⟨gb654,1,none⟩) (by first|(rw [Zba];exact hn655_1)|(show (Addr.add _ _).block ≠ _;rw [Zba];exact hn655_1)|exact hn655_1) (.slice (some ad655) t650.length co31)).trans hx655_0;replace hx655_0:=(cell_far (p:=⟨gb654,2,none⟩) (by first|(rw [Zba];exact hn655_2)|(show (Addr.add _ _).block ≠ _;rw [Zba];exact hn655_2)|exact hn655_2) (.int .i64 t653)).trans hx655_0;clear hn655_0 hn655_1 hn655_2;replace p655:=eq_true p655;replace q655:=eq_true q655))
       go_ret
       exact ⟨pE,pB⟩
      ·rw [if_neg c25] at H
       have c25b0:((rd t650 0) == 0)=false:=beq_eq_false_iff_ne.mpr c25
       have c25b1:((rd t650 0) != 0)=true:=bne_iff_ne.mpr c25
       by_cases c32:(t650.length:Int) > 300
       ·rw [if_pos c32] at H
        have c32b0:decide (300 < (t650.length:Int))=true:=decide_eq_true c32
        have c32b1:decide (300 < t650.length)=true:=decide_eq_true (by omega)
        clear c32
        obtain rfl:=Option.some.inj H
        obtain ⟨_,_,_,_,_,_⟩:=cEc BK647.o
        go_wp2_with (first|(refine gL (some 15) Tryz.func18 #[.agg #[.bool a0_0,.slice A0_1 l0_1.length c0_1,.int .i64 a0_2]] (h:=?_);(with_reducible refine (Zn.calls kj1 a0_0 _ _ l0_1 a0_2 t649 t650 t653 _ ?side1 ?side2 A9.o).mono ?_);(case side1=>exact cB HR0_1 HB);(case side2=>exact HC0_1.o);rintro e w34 ⟨v651,rfl,ho0,hb⟩;refine ⟨_,rfl,?_⟩;have HO652:=am (Kd.Zq ho0 (Zb pB));replace BK647:=bb BK647 hb;replace HB:=bS hb)|((with_reducible refine gd 3 ?_);(try (refine Zao (by rfl) ?_;dsimp only));refine bx 3 #[.bool false,.slice none 0 0,.int .i64 0] 30 (h:=?_);intro gb654 hg w35 hbox hb;have BK654:=am hbox;have GW654:=gW hg;have GE654:=gW hg;have NB647_654:=nL hg BK647;have NB654_647:=nG hg BK647;replace HO652:=rbl HO652 hb;replace BK647:=bb BK647 hb;replace HB:=bS hb;clear hb hbox hg;have hnb36:=NB654_647.o;have hnc36:=NB647_654.o;obtain ⟨_,_,_,_,_,_⟩:=cEc BK654.o;obtain ⟨Ao38,co38,eo38⟩:=Kd.Zj HO652.o;subst eo38;have p655:0<=(0:Int):=(by omega);have q655:0 < (t650.length:Int):=of_decide_eq_true pQ;obtain ⟨ad655,e655,hx655_0⟩:=Kd.Za4 (Kd.Zd HO652.o).2.2 0 p655 q655;cases e655;have qi655:(0 < t650.length)=True:=eq_true (by omega);(try rw [show ((0:Int)).toNat=0 from rfl] at hx655_0);(try rw [Addr.add_zero'] at hx655_0);have hn655_0:ad655.block ≠ gb654:=Kd.Zdo (Kd.R_ne HO652.o BK654.o (by decide));have hn655_1:ad655.block ≠ gb654:=Kd.Zdo (Kd.R_ne HO652.o BK654.o (by decide));have hn655_2:ad655.block ≠ gb654:=Kd.Zdo (Kd.R_ne HO652.o BK654.o (by decide));replace hx655_0:=(cell_far (p:=⟨gb654,0,none⟩) (by first|(rw [Zba];exact hn655_0)|(show (Addr.add _ _).block ≠ _;rw [Zba];exact hn655_0)|exact hn655_0) (.bool t649)).trans hx655_0;replace hx655_0:=(cell_far (p:=⟨gb654,1,none⟩) (by first|(rw [Zba];exact hn655_1)|(show (Addr.add _ _).block ≠ _;rw [Zba];exact hn655_1)|exact hn655_1) (.slice (some ad655) t650.length co38)).trans hx655_0;replace hx655_0:=(cell_far (p:=⟨gb654,2,none⟩) (by first|(rw [Zba];exact hn655_2)|(show (Addr.add _ _).block ≠ _;rw [Zba];exact hn655_2)|exact hn655_2) (.int .i64 t653)).trans hx655_0;clear hn655_0 hn655_1 hn655_2;replace p655:=eq_true p655;replace q655:=eq_true q655))
        go_ret
        exact ⟨pE,pB⟩
       ·rw [if_neg c32] at H
        have c32b0:decide (300 < (t650.length:Int))=false:=decide_eq_false c32
        have c32b1:decide (300 < t650.length)=false:=decide_eq_false (by omega)
        clear c32
        by_cases c39:a0_2 < (-1000)
        ·rw [if_pos c39] at H
         have c39b0:decide (a0_2 < (-1000))=true:=decide_eq_true c39
         clear c39
         obtain rfl:=Option.some.inj H
         obtain ⟨_,_,_,_,_,_⟩:=cEc BK647.o
         go_wp2_with (first|(refine gL (some 15) Tryz.func18 #[.agg #[.bool a0_0,.slice A0_1 l0_1.length c0_1,.int .i64 a0_2]] (h:=?_);(with_reducible refine (Zn.calls kj1 a0_0 _ _ l0_1 a0_2 t649 t650 t653 _ ?side1 ?side2 A9.o).mono ?_);(case side1=>exact cB HR0_1 HB);(case side2=>exact HC0_1.o);rintro e w41 ⟨v651,rfl,ho0,hb⟩;refine ⟨_,rfl,?_⟩;have HO652:=am (Kd.Zq ho0 (Zb pB));replace BK647:=bb BK647 hb;replace HB:=bS hb)|((with_reducible refine gd 3 ?_);(try (refine Zao (by rfl) ?_;dsimp only));refine bx 3 #[.bool false,.slice none 0 0,.int .i64 0] 30 (h:=?_);intro gb654 hg w42 hbox hb;have BK654:=am hbox;have GW654:=gW hg;have GE654:=gW hg;have NB647_654:=nL hg BK647;have NB654_647:=nG hg BK647;replace HO652:=rbl HO652 hb;replace BK647:=bb BK647 hb;replace HB:=bS hb;clear hb hbox hg;have hnb43:=NB654_647.o;have hnc43:=NB647_654.o;obtain ⟨_,_,_,_,_,_⟩:=cEc BK654.o;obtain ⟨Ao45,co45,eo45⟩:=Kd.Zj HO652.o;subst eo45;have p655:0<=(0:Int):=(by omega);have q655:0 < (t650.length:Int):=of_decide_eq_true pQ;obtain ⟨ad655,e655,hx655_0⟩:=Kd.Za4 (Kd.Zd HO652.o).2.2 0 p655 q655;cases e655;have qi655:(0 < t650.length)=True:=eq_true (by omega);(try rw [show ((0:Int)).toNat=0 from rfl] at hx655_0);(try rw [Addr.add_zero'] at hx655_0);have hn655_0:ad655.block ≠ gb654:=Kd.Zdo (Kd.R_ne HO652.o BK654.o (by decide));have hn655_1:ad655.block ≠ gb654:=Kd.Zdo (Kd.R_ne HO652.o BK654.o (by decide));have hn655_2:ad655.block ≠ gb654:=Kd.Zdo (Kd.R_ne HO652.o BK654.o (by decide));replace hx655_0:=(cell_far (p:=⟨gb654,0,none⟩) (by first|(rw [Zba];exact hn655_0)|(show (Addr.add _ _).block ≠ _;rw [Zba];exact hn655_0)|exact hn655_0) (.bool t649)).trans hx655_0;replace hx655_0:=(cell_far (p:=⟨gb654,1,none⟩) (by first|(rw [Zba];exact hn655_1)|(show (Addr.add _ _).block ≠ _;rw [Zba];exact hn655_1)|exact hn655_1) (.slice (some ad655) t650.length co45)).trans hx655_0;replace hx655_0:=(cell_far (p:=⟨gb654,2,none⟩) (by first|(rw [Zba];exact hn655_2)|(show (Addr.add _ _).block ≠ _;rw [Zba];exact hn655_2)|exact hn655_2) (.int .i64 t653)).trans hx655_0;clear hn655_0 hn655_1 hn655_2;replace p655:=eq_true p655;replace q655:=eq_true q655;obtain ⟨_,_,_,_,_,_⟩:=cEc BK647.o))
         go_ret
         exact ⟨pE,pB⟩
        ·rw [if_neg c39] at H
         have c39b0:decide (a0_2 < (-1000))=false:=decide_eq_false c39
         clear c39
         by_cases c47:a0_2 > 1000
         ·rw [if_pos c47] at H
          have c47b0:decide (1000 < a0_2)=true:=decide_eq_true c47
          clear c47
          obtain rfl:=Option.some.inj H
          obtain ⟨_,_,_,_,_,_⟩:=cEc BK647.o
          go_wp2_with (first|(refine gL (some 15) Tryz.func18 #[.agg #[.bool a0_0,.slice A0_1 l0_1.length c0_1,.int .i64 a0_2]] (h:=?_);(with_reducible refine (Zn.calls kj1 a0_0 _ _ l0_1 a0_2 t649 t650 t653 _ ?side1 ?side2 A9.o).mono ?_);(case side1=>exact cB HR0_1 HB);(case side2=>exact HC0_1.o);rintro e w49 ⟨v651,rfl,ho0,hb⟩;refine ⟨_,rfl,?_⟩;have HO652:=am (Kd.Zq ho0 (Zb pB));replace BK647:=bb BK647 hb;replace HB:=bS hb)|((with_reducible refine gd 3 ?_);(try (refine Zao (by rfl) ?_;dsimp only));refine bx 3 #[.bool false,.slice none 0 0,.int .i64 0] 30 (h:=?_);intro gb654 hg w50 hbox hb;have BK654:=am hbox;have GW654:=gW hg;have GE654:=gW hg;have NB647_654:=nL hg BK647;have NB654_647:=nG hg BK647;replace HO652:=rbl HO652 hb;replace BK647:=bb BK647 hb;replace HB:=bS hb;clear hb hbox hg;have hnb51:=NB654_647.o;have hnc51:=NB647_654.o;obtain ⟨_,_,_,_,_,_⟩:=cEc BK654.o;obtain ⟨Ao53,co53,eo53⟩:=Kd.Zj HO652.o;subst eo53;have p655:0<=(0:Int):=(by omega);have q655:0 < (t650.length:Int):=of_decide_eq_true pQ;obtain ⟨ad655,e655,hx655_0⟩:=Kd.Za4 (Kd.Zd HO652.o).2.2 0 p655 q655;cases e655;have qi655:(0 < t650.length)=True:=eq_true (by omega);(try rw [show ((0:Int)).toNat=0 from rfl] at hx655_0);(try rw [Addr.add_zero'] at hx655_0);have hn655_0:ad655.block ≠ gb654:=Kd.Zdo (Kd.R_ne HO652.o BK654.o (by decide));have hn655_1:ad655.block ≠ gb654:=Kd.Zdo (Kd.R_ne HO652.o BK654.o (by decide));have hn655_2:ad655.block ≠ gb654:=Kd.Zdo (Kd.R_ne HO652.o BK654.o (by decide));replace hx655_0:=(cell_far (p:=⟨gb654,0,none⟩) (by first|(rw [Zba];exact hn655_0)|(show (Addr.add _ _).block ≠ _;rw [Zba];exact hn655_0)|exact hn655_0) (.bool t649)).trans hx655_0;replace hx655_0:=(cell_far (p:=⟨gb654,1,none⟩) (by first|(rw [Zba];exact hn655_1)|(show (Addr.add _ _).block ≠ _;rw [Zba];exact hn655_1)|exact hn655_1) (.slice (some ad655) t650.length co53)).trans hx655_0;replace hx655_0:=(cell_far (p:=⟨gb654,2,none⟩) (by first|(rw [Zba];exact hn655_2)|(show (Addr.add _ _).block ≠ _;rw [Zba];exact hn655_2)|exact hn655_2) (.int .i64 t653)).trans hx655_0;clear hn655_0 hn655_1 hn655_2;replace p655:=eq_true p655;replace q655:=eq_true q655;obtain ⟨_,_,_,_,_,_⟩:=cEc BK647.o))
          go_ret
          exact ⟨pE,pB⟩
         ·rw [if_neg c47] at H
          have c47b0:decide (1000 < a0_2)=false:=decide_eq_false c47
          clear c47
          obtain rfl:=Option.some.inj H
          obtain ⟨_,_,_,_,_,_⟩:=cEc BK647.o
          go_wp2_with (first|(refine gL (some 15) Tryz.func18 #[.agg #[.bool a0_0,.slice A0_1 l0_1.length c0_1,.int .i64 a0_2]] (h:=?_);(with_reducible refine (Zn.calls kj1 a0_0 _ _ l0_1 a0_2 t649 t650 t653 _ ?side1 ?side2 A9.o).mono ?_);(case side1=>exact cB HR0_1 HB);(case side2=>exact HC0_1.o);rintro e w56 ⟨v651,rfl,ho0,hb⟩;refine ⟨_,rfl,?_⟩;have HO652:=am (Kd.Zq ho0 (Zb pB));replace BK647:=bb BK647 hb;replace HB:=bS hb)|((with_reducible refine gd 3 ?_);(try (refine Zao (by rfl) ?_;dsimp only));refine bx 3 #[.bool false,.slice none 0 0,.int .i64 0] 30 (h:=?_);intro gb654 hg w57 hbox hb;have BK654:=am hbox;have GW654:=gW hg;have GE654:=gW hg;have NB647_654:=nL hg BK647;have NB654_647:=nG hg BK647;replace HO652:=rbl HO652 hb;replace BK647:=bb BK647 hb;replace HB:=bS hb;clear hb hbox hg;have hnb58:=NB654_647.o;have hnc58:=NB647_654.o;obtain ⟨_,_,_,_,_,_⟩:=cEc BK654.o;obtain ⟨Ao60,co60,eo60⟩:=Kd.Zj HO652.o;subst eo60;have p655:0<=(0:Int):=(by omega);have q655:0 < (t650.length:Int):=of_decide_eq_true pQ;obtain ⟨ad655,e655,hx655_0⟩:=Kd.Za4 (Kd.Zd HO652.o).2.2 0 p655 q655;cases e655;have qi655:(0 < t650.length)=True:=eq_true (by omega);(try rw [show ((0:Int)).toNat=0 from rfl] at hx655_0);(try rw [Addr.add_zero'] at hx655_0);have hn655_0:ad655.block ≠ gb654:=Kd.Zdo (Kd.R_ne HO652.o BK654.o (by decide));have hn655_1:ad655.block ≠ gb654:=Kd.Zdo (Kd.R_ne HO652.o BK654.o (by decide));have hn655_2:ad655.block ≠ gb654:=Kd.Zdo (Kd.R_ne HO652.o BK654.o (by decide));replace hx655_0:=(cell_far (p:=⟨gb654,0,none⟩) (by first|(rw [Zba];exact hn655_0)|(show (Addr.add _ _).block ≠ _;rw [Zba];exact hn655_0)|exact hn655_0) (.bool t649)).trans hx655_0;replace hx655_0:=(cell_far (p:=⟨gb654,1,none⟩) (by first|(rw [Zba];exact hn655_1)|(show (Addr.add _ _).block ≠ _;rw [Zba];exact hn655_1)|exact hn655_1) (.slice (some ad655) t650.length co60)).trans hx655_0;replace hx655_0:=(cell_far (p:=⟨gb654,2,none⟩) (by first|(rw [Zba];exact hn655_2)|(show (Addr.add _ _).block ≠ _;rw [Zba];exact hn655_2)|exact hn655_2) (.int .i64 t653)).trans hx655_0;clear hn655_0 hn655_1 hn655_2;replace p655:=eq_true p655;replace q655:=eq_true q655;obtain ⟨_,_,_,_,_,_⟩:=cEc BK647.o))
          go_ret
          exact ⟨pE,pB⟩
     ·rw [if_neg c24] at H
      exact absurd H (by simp)
def Za6.f (a0_0:Bool) (l0_1:List Int) (a0_2:Int):Option (Bool × List Int × Int):=if a0_0=true then (some (false,l0_1,a0_2)) else (some (decide ((l0_1.length:Int) > 0),l0_1,a0_2))
theorem Za6.calls (a0_0:Bool) (P0_1_:Nat->Prop) (u9000_:Value) (l0_1:List Int) (a0_2:Int) (r1:Bool) (r2:List Int) (r3:Int) (w0 w:World) (hB:Below w0.heap.size w0 w) (ho0_1:Kd.R (Kd.int .i64) 3 w w0.heap.size P0_1_ u9000_ l0_1) (h:Za6.f a0_0 l0_1 a0_2=some (r1,r2,r3)) :
  Calls Tryz.prog 78 #[.agg #[.bool a0_0,u9000_,.int .i64 a0_2]] w fun e w' => ∃ v1_:Value,e=.returned (.agg #[.bool r1,v1_,.int .i64 r3])/\Kd.R (Kd.int .i64) 3 w' w0.heap.size (fun k_=>(P0_1_ k_\/w.heap.size<=k_)) v1_ r2/\Below w0.heap.size w0 w'/\Kept w w' (fun k_=>P0_1_ k_):=by
 have hu30:=Tryz.underlying30
 have HO0_1:=am (show Kd.R (Kd.int .i64) 3 w w0.heap.size (fun k_=>(P0_1_ k_\/w.heap.size<=k_)) u9000_ l0_1 from Kd.Zi ho0_1 (fun k_ hk=>(.inl hk)))
 have HK:=am (Kept.refl w (fun k_=>P0_1_ k_))
 have HW0:=am hB.size
 have HB:=am hB
 clear hB
 have H:(if a0_0=true then (some (false,l0_1,a0_2)) else (some (decide ((l0_1.length:Int) > 0),l0_1,a0_2)))=some (r1,r2,r3):=h
 clear h
 by_cases c2:a0_0=true
 ·subst c2
  rw [if_pos rfl] at H
  simp only [Option.some.injEq,Prod.mk.injEq] at H
  obtain ⟨rfl,rfl,rfl⟩:=H
  obtain ⟨Ao3,co3,eo3⟩:=Kd.Zj HO0_1.o
  subst eo3
  go_enter Tryz.func78,Tryz.ntmps78
  go_wp2_with (first|((with_reducible refine gd 1 ?_);(try (refine Zao (by rfl) ?_;dsimp only));refine bx 1 #[.bool true,.slice Ao3 l0_1.length co3,.int .i64 a0_2] 30 (h:=?_);intro gb801 hg w4 hbox hb;have BK801:=am hbox;have GW801:=am ((by rw [hg];exact (by first|exact HK.out.1|exact (show Kept w _ (fun k_=>P0_1_ k_) from by repeat (first|(with_reducible first|exact HK.out|apply Kept.alloc|apply Kept.drewN|apply Kept.drew)|exact HK.out)).1):w.heap.size<=gb801));have GE801:=am ((gw hg pB:w0.heap.size<=gb801));replace HO0_1:=rbl HO0_1 hb;replace HK:=am (Kept.below (S:=(fun k_=>P0_1_ k_)) (by repeat (first|(with_reducible first|exact HK.out|apply Kept.alloc|apply Kept.drewN|apply Kept.drew)|exact HK.out)) hb);replace HB:=bS hb;clear hb hbox hg)|((with_reducible refine gd 2 ?_);(try (refine Zao (by rfl) ?_;dsimp only));refine bx 2 #[.bool false,.slice none 0 0,.int .i64 0] 30 (h:=?_);intro gb802 hg w5 hbox hb;have BK802:=am hbox;have GW802:=am ((by rw [hg];exact (by first|exact HK.out.1|exact (show Kept w _ (fun k_=>P0_1_ k_) from by repeat (first|(with_reducible first|exact HK.out|apply Kept.alloc|apply Kept.drewN|apply Kept.drew|refine Kept.setCell ?_ (.inr GW801.o) _)|exact HK.out)).1):w.heap.size<=gb802));have GE802:=am ((gw hg pB:w0.heap.size<=gb802));have NB801_802:=nL hg BK801;have NB802_801:=nG hg BK801;replace HO0_1:=rbl HO0_1 hb;replace BK801:=bb BK801 hb;replace HK:=am (Kept.below (S:=(fun k_=>P0_1_ k_)) (by repeat (first|(with_reducible first|exact HK.out|apply Kept.alloc|apply Kept.drewN|apply Kept.drew|refine Kept.setCell ?_ (.inr GW801.o) _)|exact HK.out)) hb);replace HB:=bS hb;clear hb hbox hg;have hnb6:=NB801_802.o;have hnc6:=NB802_801.o;obtain ⟨_,_,_,_,_,_⟩:=cEc BK801.o;obtain ⟨_,_,_,_,_,_⟩:=cEc BK802.o))
  refine bodyPost_ret (results_cell_row rfl _ _ gb802 30 #[.bool false,.slice Ao3 l0_1.length co3,.int .i64 a0_2] (0,0) _ rfl (by refine bp ?_;refine Za3 (cs:=#[.bool false,.slice Ao3 l0_1.length co3,.int .i64 0]) ?_ 2 _ rfl;refine bp ?_;refine Za3 (cs:=#[.bool false,.slice none 0 0,.int .i64 0]) ?_ 1 _ rfl;refine bp ?_;refine Za3 (cs:=#[.bool false,.slice none 0 0,.int .i64 0]) ?_ 0 _ rfl;refine bq ?_ NB802_801;exact bp BK802.o) Tryz.underlying30 rfl (by kernel_rfl)) rfl ?_
  exact ⟨_,pE,by refine rp ?_;exact Kd.Zi (Kd.Zp (p:=⟨gb802,2,none⟩) (Kd.Zp (p:=⟨gb802,1,none⟩) (Kd.Zp (p:=⟨gb802,0,none⟩) (Kd.Zp (p:=⟨gb801,0,none⟩) (Kd.Zaa (Kd.Zaa HO0_1.o BK801.o (by decide)) BK802.o (by decide)) (fun _ hk=>hk.1.2) (.bool false)) (fun _ hk=>hk.2) (.bool false)) (fun _ hk=>hk.2) (.slice Ao3 l0_1.length co3)) (fun _ hk=>hk.2) (.int .i64 a0_2)) (fun _ hk=>hk.1.1),pB,by repeat (first|(with_reducible first|exact HK.out|apply Kept.alloc|apply Kept.drewN|apply Kept.drew|refine Kept.setCell ?_ (.inr GW801.o) _|refine Kept.setCell ?_ (.inr GW802.o) _)|exact HK.out)⟩
 ·replace c2:=Bool.eq_false_iff.mpr c2
  subst c2
  rw [if_neg (show ¬ (false=true) by decide)] at H
  simp only [Option.some.injEq,Prod.mk.injEq] at H
  obtain ⟨rfl,rfl,rfl⟩:=H
  obtain ⟨Ao9,co9,eo9⟩:=Kd.Zj HO0_1.o
  subst eo9
  rw [show decide ((l0_1.length:Int) > 0)=decide (0 < l0_1.length) by simp]
  go_enter Tryz.func78,Tryz.ntmps78
  go_wp2_with (first|((with_reducible refine gd 1 ?_);(try (refine Zao (by rfl) ?_;dsimp only));refine bx 1 #[.bool false,.slice Ao9 l0_1.length co9,.int .i64 a0_2] 30 (h:=?_);intro gb801 hg w10 hbox hb;have BK801:=am hbox;have GW801:=am ((by rw [hg];exact (by first|exact HK.out.1|exact (show Kept w _ (fun k_=>P0_1_ k_) from by repeat (first|(with_reducible first|exact HK.out|apply Kept.alloc|apply Kept.drewN|apply Kept.drew)|exact HK.out)).1):w.heap.size<=gb801));have GE801:=am ((gw hg pB:w0.heap.size<=gb801));replace HO0_1:=rbl HO0_1 hb;replace HK:=am (Kept.below (S:=(fun k_=>P0_1_ k_)) (by repeat (first|(with_reducible first|exact HK.out|apply Kept.alloc|apply Kept.drewN|apply Kept.drew)|exact HK.out)) hb);replace HB:=bS hb;clear hb hbox hg)|((with_reducible refine gd 2 ?_);(try (refine Zao (by rfl) ?_;dsimp only));refine bx 2 #[.bool false,.slice none 0 0,.int .i64 0] 30 (h:=?_);intro gb802 hg w11 hbox hb;have BK802:=am hbox;have GW802:=am ((by rw [hg];exact (by first|exact HK.out.1|exact (show Kept w _ (fun k_=>P0_1_ k_) from by repeat (first|(with_reducible first|exact HK.out|apply Kept.alloc|apply Kept.drewN|apply Kept.drew|refine Kept.setCell ?_ (.inr GW801.o) _)|exact HK.out)).1):w.heap.size<=gb802));have GE802:=am ((gw hg pB:w0.heap.size<=gb802));have NB801_802:=nL hg BK801;have NB802_801:=nG hg BK801;replace HO0_1:=rbl HO0_1 hb;replace BK801:=bb BK801 hb;replace HK:=am (Kept.below (S:=(fun k_=>P0_1_ k_)) (by repeat (first|(with_reducible first|exact HK.out|apply Kept.alloc|apply Kept.drewN|apply Kept.drew|refine Kept.setCell ?_ (.inr GW801.o) _)|exact HK.out)) hb);replace HB:=bS hb;clear hb hbox hg;have hnb12:=NB801_802.o;have hnc12:=NB802_801.o;obtain ⟨_,_,_,_,_,_⟩:=cEc BK801.o;obtain ⟨_,_,_,_,_,_⟩:=cEc BK802.o))
  refine bodyPost_ret (results_cell_row rfl _ _ gb802 30 #[.bool (decide (0 < l0_1.length)),.slice Ao9 l0_1.length co9,.int .i64 a0_2] (0,0) _ rfl (by refine bp ?_;refine Za3 (cs:=#[.bool (decide (0 < l0_1.length)),.slice Ao9 l0_1.length co9,.int .i64 0]) ?_ 2 _ rfl;refine bp ?_;refine Za3 (cs:=#[.bool (decide (0 < l0_1.length)),.slice none 0 0,.int .i64 0]) ?_ 1 _ rfl;refine bp ?_;refine Za3 (cs:=#[.bool false,.slice none 0 0,.int .i64 0]) ?_ 0 _ rfl;refine bq ?_ NB802_801;exact bp BK802.o) Tryz.underlying30 rfl (by kernel_rfl)) rfl ?_
  exact ⟨_,pE,by refine rp ?_;exact Kd.Zi (Kd.Zp (p:=⟨gb802,2,none⟩) (Kd.Zp (p:=⟨gb802,1,none⟩) (Kd.Zp (p:=⟨gb802,0,none⟩) (Kd.Zp (p:=⟨gb801,0,none⟩) (Kd.Zaa (Kd.Zaa HO0_1.o BK801.o (by decide)) BK802.o (by decide)) (fun _ hk=>hk.1.2) (.bool (decide (0 < l0_1.length)))) (fun _ hk=>hk.2) (.bool (decide (0 < l0_1.length)))) (fun _ hk=>hk.2) (.slice Ao9 l0_1.length co9)) (fun _ hk=>hk.2) (.int .i64 a0_2)) (fun _ hk=>hk.1.1),pB,by repeat (first|(with_reducible first|exact HK.out|apply Kept.alloc|apply Kept.drewN|apply Kept.drew|refine Kept.setCell ?_ (.inr GW801.o) _|refine Kept.setCell ?_ (.inr GW802.o) _)|exact HK.out)⟩
def Za2.f (k:Nat) (a0_0:Bool) (l0_1:List Int) (a0_2:Int) (a1_0:Bool) (l1_1:List Int) (a1_2:Int):Option (Int):=(Zo.f k a0_0 l0_1 a0_2).bind fun t658=>(if t658=0 then ((Zo.f k a1_0 l1_1 a1_2).bind fun t659=>(if t659=0 then (some 0) else (some 9))) else (some 9))
theorem Za2.calls (k:Nat) (a0_0:Bool) (A0_1:Option Addr) (c0_1:Nat) (l0_1:List Int) (a0_2:Int) (a1_0:Bool) (A1_1:Option Addr) (c1_1:Nat) (l1_1:List Int) (a1_2:Int) (r:Int) (w:World) (hr0_1:Kd.C (Kd.int .u32) w A0_1 l0_1.length l0_1) (hc0_1:l0_1.length<=c0_1) (hr1_1:Kd.C (Kd.int .u32) w A1_1 l1_1.length l1_1) (hc1_1:l1_1.length<=c1_1) (h:Za2.f k a0_0 l0_1 a0_2 a1_0 l1_1 a1_2=some r) :
  Calls Tryz.prog 64 #[.agg #[.bool a0_0,.slice A0_1 l0_1.length c0_1,.int .i64 a0_2],.agg #[.bool a1_0,.slice A1_1 l1_1.length c1_1,.int .i64 a1_2]] w fun e w'=>e=.returned (.int .i64 r)/\Below w.heap.size w w':=by
 have hu24:=Tryz.underlying24
 have HR0_1:=am hr0_1
 have HC0_1:=am hc0_1
 clear hr0_1 hc0_1
 have HR1_1:=am hr1_1
 have HC1_1:=am hc1_1
 clear hr1_1 hc1_1
 have HB:=am (Below.refl w.heap.size w)
 have H:((Zo.f k a0_0 l0_1 a0_2).bind fun t658=>(if t658=0 then ((Zo.f k a1_0 l1_1 a1_2).bind fun t659=>(if t659=0 then (some 0) else (some 9))) else (some 9)))=some r:=h
 clear h
 obtain ⟨t658,A3,H⟩:=ob H
 by_cases c4:t658=0
 ·rw [if_pos c4] at H
  have c4b0:(t658 == 0)=true:=beq_iff_eq.mpr c4
  have c4b1:(t658 != 0)=false:=bne_eq_false_iff_eq.mpr c4
  clear c4
  obtain ⟨t659,A5,H⟩:=ob H
  by_cases c6:t659=0
  ·rw [if_pos c6] at H
   have c6b0:(t659 == 0)=true:=beq_iff_eq.mpr c6
   have c6b1:(t659 != 0)=false:=bne_eq_false_iff_eq.mpr c6
   clear c6
   obtain rfl:=Option.some.inj H
   go_enter Tryz.func64,Tryz.ntmps64
   go_wp2_with (first|((with_reducible refine gd 2 ?_);refine bx 2 #[.bool a0_0,.slice A0_1 l0_1.length c0_1,.int .i64 a0_2] 24 (h:=?_);intro gb656 hg w7 hbox hb;have BK656:=am hbox;have GW656:=gW hg;have GE656:=gW hg;replace HB:=bS hb;clear hb hbox hg)|((with_reducible refine gd 3 ?_);refine bx 3 #[.bool a1_0,.slice A1_1 l1_1.length c1_1,.int .i64 a1_2] 24 (h:=?_);intro gb657 hg w8 hbox hb;have BK657:=am hbox;have GW657:=gW hg;have GE657:=gW hg;have NB656_657:=nL hg BK656;have NB657_656:=nG hg BK656;replace BK656:=bb BK656 hb;replace HB:=bS hb;clear hb hbox hg;have hnb9:=NB656_657.o;have hnc9:=NB657_656.o;obtain ⟨_,_,_,_,_,_⟩:=cEc BK656.o)|(refine gL (some 6) Tryz.func33 #[.agg #[.bool a0_0,.slice A0_1 l0_1.length c0_1,.int .i64 a0_2]] (h:=?_);(with_reducible refine (Zo.calls k a0_0 _ _ l0_1 a0_2 t658 _ ?side1 ?side2 A3.o).mono ?_);(case side1=>exact cB HR0_1 HB);(case side2=>exact HC0_1.o);rintro e w11 ⟨rfl,hb⟩;refine ⟨_,rfl,?_⟩;replace BK656:=bb BK656 hb;replace BK657:=bb BK657 hb;replace HB:=bS hb;obtain ⟨_,_,_,_,_,_⟩:=cEc BK657.o)|(go_at_call 33;(with_reducible refine (Zo.calls k a1_0 _ _ l1_1 a1_2 t659 _ ?side1 ?side2 A5.o).mono ?_);(case side1=>exact cB HR1_1 HB);(case side2=>exact HC1_1.o);rintro e w13 ⟨rfl,hb⟩;replace BK656:=bb BK656 hb;replace BK657:=bb BK657 hb;replace HB:=bS hb))
   go_ret
   exact ⟨pE,pB⟩
  ·rw [if_neg c6] at H
   have c6b0:(t659 == 0)=false:=beq_eq_false_iff_ne.mpr c6
   have c6b1:(t659 != 0)=true:=bne_iff_ne.mpr c6
   obtain rfl:=Option.some.inj H
   go_enter Tryz.func64,Tryz.ntmps64
   go_wp2_with (first|((with_reducible refine gd 2 ?_);refine bx 2 #[.bool a0_0,.slice A0_1 l0_1.length c0_1,.int .i64 a0_2] 24 (h:=?_);intro gb656 hg w14 hbox hb;have BK656:=am hbox;have GW656:=gW hg;have GE656:=gW hg;replace HB:=bS hb;clear hb hbox hg)|((with_reducible refine gd 3 ?_);refine bx 3 #[.bool a1_0,.slice A1_1 l1_1.length c1_1,.int .i64 a1_2] 24 (h:=?_);intro gb657 hg w15 hbox hb;have BK657:=am hbox;have GW657:=gW hg;have GE657:=gW hg;have NB656_657:=nL hg BK656;have NB657_656:=nG hg BK656;replace BK656:=bb BK656 hb;replace HB:=bS hb;clear hb hbox hg;have hnb16:=NB656_657.o;have hnc16:=NB657_656.o;obtain ⟨_,_,_,_,_,_⟩:=cEc BK656.o)|(refine gL (some 6) Tryz.func33 #[.agg #[.bool a0_0,.slice A0_1 l0_1.length c0_1,.int .i64 a0_2]] (h:=?_);(with_reducible refine (Zo.calls k a0_0 _ _ l0_1 a0_2 t658 _ ?side1 ?side2 A3.o).mono ?_);(case side1=>exact cB HR0_1 HB);(case side2=>exact HC0_1.o);rintro e w18 ⟨rfl,hb⟩;refine ⟨_,rfl,?_⟩;replace BK656:=bb BK656 hb;replace BK657:=bb BK657 hb;replace HB:=bS hb;obtain ⟨_,_,_,_,_,_⟩:=cEc BK657.o)|(go_at_call 33;(with_reducible refine (Zo.calls k a1_0 _ _ l1_1 a1_2 t659 _ ?side1 ?side2 A5.o).mono ?_);(case side1=>exact cB HR1_1 HB);(case side2=>exact HC1_1.o);rintro e w20 ⟨rfl,hb⟩;replace BK656:=bb BK656 hb;replace BK657:=bb BK657 hb;replace HB:=bS hb))
   go_ret
   exact ⟨pE,pB⟩
 ·rw [if_neg c4] at H
  have c4b0:(t658 == 0)=false:=beq_eq_false_iff_ne.mpr c4
  have c4b1:(t658 != 0)=true:=bne_iff_ne.mpr c4
  obtain rfl:=Option.some.inj H
  go_enter Tryz.func64,Tryz.ntmps64
  go_wp2_with (first|((with_reducible refine gd 2 ?_);refine bx 2 #[.bool a0_0,.slice A0_1 l0_1.length c0_1,.int .i64 a0_2] 24 (h:=?_);intro gb656 hg w21 hbox hb;have BK656:=am hbox;have GW656:=gW hg;have GE656:=gW hg;replace HB:=bS hb;clear hb hbox hg)|((with_reducible refine gd 3 ?_);refine bx 3 #[.bool a1_0,.slice A1_1 l1_1.length c1_1,.int .i64 a1_2] 24 (h:=?_);intro gb657 hg w22 hbox hb;have BK657:=am hbox;have GW657:=gW hg;have GE657:=gW hg;have NB656_657:=nL hg BK656;have NB657_656:=nG hg BK656;replace BK656:=bb BK656 hb;replace HB:=bS hb;clear hb hbox hg;have hnb23:=NB656_657.o;have hnc23:=NB657_656.o;obtain ⟨_,_,_,_,_,_⟩:=cEc BK656.o)|(refine gL (some 6) Tryz.func33 #[.agg #[.bool a0_0,.slice A0_1 l0_1.length c0_1,.int .i64 a0_2]] (h:=?_);(with_reducible refine (Zo.calls k a0_0 _ _ l0_1 a0_2 t658 _ ?side1 ?side2 A3.o).mono ?_);(case side1=>exact cB HR0_1 HB);(case side2=>exact HC0_1.o);rintro e w25 ⟨rfl,hb⟩;refine ⟨_,rfl,?_⟩;replace BK656:=bb BK656 hb;replace BK657:=bb BK657 hb;replace HB:=bS hb))
  go_ret
  exact ⟨pE,pB⟩
def Zcj.f (a0_0:Bool) (l0_1:List Int) (a0_2:Int) (a1_0:Bool) (l1_1:List Int) (a1_2:Int):Option (Bool × List Int × Int × Bool × List Int × Int):=(Zbc.f l0_1 (wrap64 (a0_2 - (mn a0_2 a1_2)))).bind fun t755=>((Zbc.f l1_1 (wrap64 (a1_2 - (mn a0_2 a1_2)))).bind fun t758=>(some (a0_0,t755,mn a0_2 a1_2,a1_0,t758,mn a0_2 a1_2)))
theorem Zcj.calls (a0_0:Bool) (A0_1:Option Addr) (c0_1:Nat) (l0_1:List Int) (a0_2:Int) (a1_0:Bool) (A1_1:Option Addr) (c1_1:Nat) (l1_1:List Int) (a1_2:Int) (r1:Bool) (r2:List Int) (r3:Int) (r4:Bool) (r5:List Int) (r6:Int) (w:World) (hr0_1:Kd.C (Kd.int .i64) w A0_1 l0_1.length l0_1) (hc0_1:l0_1.length<=c0_1) (hr1_1:Kd.C (Kd.int .i64) w A1_1 l1_1.length l1_1) (hc1_1:l1_1.length<=c1_1) (h:Zcj.f a0_0 l0_1 a0_2 a1_0 l1_1 a1_2=some (r1,r2,r3,r4,r5,r6)) :
  Calls Tryz.prog 133 #[.agg #[.bool a0_0,.slice A0_1 l0_1.length c0_1,.int .i64 a0_2],.agg #[.bool a1_0,.slice A1_1 l1_1.length c1_1,.int .i64 a1_2]] w fun e w' => ∃ v1_ v4_:Value,e=.returned (.tuple #[.agg #[.bool r1,v1_,.int .i64 r3],.agg #[.bool r4,v4_,.int .i64 r6]])/\Kd.R (Kd.int .i64) 3 w' w.heap.size (fun k_=>some k_ ≠ (v4_:Value).ownBlock) v1_ r2/\Kd.R (Kd.int .i64) 3 w' w.heap.size (fun k_=>some k_ ≠ (v1_:Value).ownBlock) v4_ r5/\Below w.heap.size w w':=by
 have hu30:=Tryz.underlying30
 have HR0_1:=am hr0_1
 have HC0_1:=am hc0_1
 clear hr0_1 hc0_1
 have HR1_1:=am hr1_1
 have HC1_1:=am hc1_1
 clear hr1_1 hc1_1
 have HB:=am (Below.refl w.heap.size w)
 have H:((Zbc.f l0_1 (wrap64 (a0_2 - (mn a0_2 a1_2)))).bind fun t755=>((Zbc.f l1_1 (wrap64 (a1_2 - (mn a0_2 a1_2)))).bind fun t758=>(some (a0_0,t755,mn a0_2 a1_2,a1_0,t758,mn a0_2 a1_2))))=some (r1,r2,r3,r4,r5,r6):=h
 clear h
 obtain ⟨ji3,hji3⟩:∃ j_:Int,(mn a0_2 a1_2)=j_:=⟨_,rfl⟩
 replace H:((Zbc.f l0_1 (wrap64 (a0_2 - (ji3)))).bind fun t755=>((Zbc.f l1_1 (wrap64 (a1_2 - (ji3)))).bind fun t758=>(some (a0_0,t755,ji3,a1_0,t758,ji3))))=some (r1,r2,r3,r4,r5,r6):=by first|(rw [hji3] at H;exact H)|(simp only [hji3] at H ⊢;exact H)
 have hji3_:(if a1_2 < a0_2 then a1_2 else a0_2)=ji3:=hji3
 obtain ⟨t755,A4,H⟩:=ob H
 obtain ⟨t758,A5,H⟩:=ob H
 simp only [Option.some.injEq,Prod.mk.injEq] at H
 obtain ⟨rfl,rfl,rfl,rfl,rfl,rfl⟩:=H
 go_enter Tryz.func133,Tryz.ntmps133
 try go_wp2_with (first|((with_reducible refine gd 2 ?_);refine bx 2 #[.bool a0_0,.slice A0_1 l0_1.length c0_1,.int .i64 a0_2] 30 (h:=?_);intro gb751 hg w6 hbox hb;have BK751:=am hbox;have GW751:=gW hg;replace HB:=bS hb;clear hb hbox hg)|((with_reducible refine gd 3 ?_);refine bx 3 #[.bool a1_0,.slice A1_1 l1_1.length c1_1,.int .i64 a1_2] 30 (h:=?_);intro gb752 hg w7 hbox hb;have BK752:=am hbox;have GW752:=gW hg;have NB751_752:=nL hg BK751;have NB752_751:=nG hg BK751;replace BK751:=bb BK751 hb;replace HB:=bS hb;clear hb hbox hg)|((with_reducible refine gd 4 ?_);refine bx 4 #[.bool false,.slice none 0 0,.int .i64 0] 30 (h:=?_);intro gb753 hg w8 hbox hb;have BK753:=am hbox;have GW753:=gW hg;have NB751_753:=nL hg BK751;have NB753_751:=nG hg BK751;have NB752_753:=nL hg BK752;have NB753_752:=nG hg BK752;replace BK751:=bb BK751 hb;replace BK752:=bb BK752 hb;replace HB:=bS hb;clear hb hbox hg)|((with_reducible refine gd 5 ?_);refine bx 5 #[.bool false,.slice none 0 0,.int .i64 0] 30 (h:=?_);intro gb754 hg w9 hbox hb;have BK754:=am hbox;have GW754:=gW hg;have NB751_754:=nL hg BK751;have NB754_751:=nG hg BK751;have NB752_754:=nL hg BK752;have NB754_752:=nG hg BK752;have NB753_754:=nL hg BK753;have NB754_753:=nG hg BK753;replace BK751:=bb BK751 hb;replace BK752:=bb BK752 hb;replace BK753:=bb BK753 hb;replace HB:=bS hb;clear hb hbox hg;have hnb10:=NB751_752.o;have hnc10:=NB752_751.o;have hnb11:=NB751_753.o;have hnc11:=NB753_751.o;have hnb12:=NB751_754.o;have hnc12:=NB754_751.o;obtain ⟨_,_,_,_,_,_⟩:=cEc BK751.o;have hnb14:=NB752_753.o;have hnc14:=NB753_752.o;have hnb15:=NB752_754.o;have hnc15:=NB754_752.o;obtain ⟨_,_,_,_,_,_⟩:=cEc BK752.o)|((with_reducible refine Zdz (f:=93) rfl ?_);refine goesL_ (some 18) rfl rfl Tryz.func93 (by kernel_rfl) rfl #[.slice A0_1 l0_1.length c0_1,.int .i64 (wrap64 (a0_2 - (ji3)))] rfl (by (try simp only [List.map_toArray,List.map_cons,List.map_nil]);first|done|(simp only [hji3];rfl)|rfl|(simp only [List.length_drop,List.length_take];rfl)) ?_;(with_reducible refine (Zbc.calls _ _ l0_1 (wrap64 (a0_2 - (ji3))) t755 _ ?side1 ?side2 A4.o).mono ?_);(case side1=>exact cB HR0_1 HB);(case side2=>exact HC0_1.o);rintro e w17 ⟨v756,rfl,ho0,hb⟩;refine ⟨_,rfl,?_⟩;have HO757:=am (Kd.Zq ho0 (Zb pB));replace BK751:=bb BK751 hb;replace BK752:=bb BK752 hb;replace BK753:=bb BK753 hb;replace BK754:=bb BK754 hb;replace HB:=bS hb;obtain ⟨Ao18,co18,eo18⟩:=Kd.Zj HO757.o;subst eo18;obtain ⟨_,_,_,_,_,_⟩:=cEc BK751.o;obtain ⟨_,_,_,_,_,_⟩:=cEc BK752.o)|((with_reducible refine Zdz (f:=93) rfl ?_);refine goesL_ (some 28) rfl rfl Tryz.func93 (by kernel_rfl) rfl #[.slice A1_1 l1_1.length c1_1,.int .i64 (wrap64 (a1_2 - (ji3)))] rfl (by (try simp only [List.map_toArray,List.map_cons,List.map_nil]);first|done|(simp only [hji3];rfl)|rfl|(simp only [List.length_drop,List.length_take];rfl)) ?_;(with_reducible refine (Zbc.calls _ _ l1_1 (wrap64 (a1_2 - (ji3))) t758 _ ?side1 ?side2 A5.o).mono ?_);(case side1=>exact Kd.Zx HR1_1.o pB);(case side2=>exact HC1_1.o);rintro e w21 ⟨v759,rfl,ho0,hb⟩;refine ⟨_,rfl,?_⟩;have HO760:=am (Kd.Zq (Kd.Zr ho0 (Kd.R_lt (Kd.Za (Kd.Zi (Kd.Zp (p:=⟨gb751,2,none⟩) (Kd.Zp (p:=⟨gb751,1,none⟩) (Kd.Zaa HO757.o BK751.o (by decide)) (fun _ hk=>hk.2) (.slice Ao18 t755.length co18)) (fun _ hk=>hk.2) (.int .i64 ji3)) (fun _ h_=>h_.1)) pl))) (Zb pB));replace HO757:=am (Kd.Zbx (Kd.Za (Kd.Zi (Kd.Zp (p:=⟨gb751,2,none⟩) (Kd.Zp (p:=⟨gb751,1,none⟩) (Kd.Zaa HO757.o BK751.o (by decide)) (fun _ hk=>hk.2) (.slice Ao18 t755.length co18)) (fun _ hk=>hk.2) (.int .i64 ji3)) (fun _ h_=>h_.1)) pl) (Kd.Zap ho0) hb);replace BK751:=am (Zc (g:=gb751) (o:=.cells #[.bool a0_0,.slice Ao18 t755.length co18,.int .i64 ji3] 30 (0,0)) (by refine bp ?_;refine Za3 (cs:=#[.bool a0_0,.slice Ao18 t755.length co18,.int .i64 a0_2]) ?_ 2 _ rfl;refine bp ?_;refine Za3 (cs:=#[.bool a0_0,.slice A0_1 l0_1.length c0_1,.int .i64 a0_2]) ?_ 1 _ rfl;exact bp BK751.o) hb);replace BK752:=bfb NB752_751 BK752 hb;replace BK753:=bfb NB753_751 BK753 hb;replace BK754:=bfb NB754_751 BK754 hb;replace HB:=bS hb;obtain ⟨Ao22,co22,eo22⟩:=Kd.Zj HO760.o;subst eo22;obtain ⟨_,_,_,_,_,_⟩:=cEc BK752.o))
 have n0_:Aside0 (Kd.R (Kd.int .i64) 3 ((w21.setCell ⟨gb752,1,none⟩ (.slice Ao22 t758.length co22)).setCell ⟨gb752,2,none⟩ (.int .i64 ji3)) w.heap.size (fun k_=>some k_ ≠ (.slice Ao22 t758.length co22:Value).ownBlock) (.slice Ao18 t755.length co18) t755):=⟨by refine rp ?_;exact Kd.Zi (Kd.Zp (p:=⟨gb752,2,none⟩) (Kd.Zp (p:=⟨gb752,1,none⟩) (Kd.Zaa HO757.o BK752.o (by decide)) (fun _ hk=>hk.2) (.slice Ao22 t758.length co22)) (fun _ hk=>hk.2) (.int .i64 ji3)) (fun _ hk=>hk.1.2)⟩
 have n1_:Aside0 (Kd.R (Kd.int .i64) 3 ((w21.setCell ⟨gb752,1,none⟩ (.slice Ao22 t758.length co22)).setCell ⟨gb752,2,none⟩ (.int .i64 ji3)) w.heap.size (fun k_=>some k_ ≠ (.slice Ao18 t755.length co18:Value).ownBlock) (.slice Ao22 t758.length co22) t758):=⟨by refine rp ?_;exact Kd.Zi (Kd.Zp (p:=⟨gb752,2,none⟩) (Kd.Zp (p:=⟨gb752,1,none⟩) (Kd.Zaa HO760.o BK752.o (by decide)) (fun _ hk=>hk.2) (.slice Ao22 t758.length co22)) (fun _ hk=>hk.2) (.int .i64 ji3)) (fun _ hk=>hk.1.2)⟩
 have n2_:Aside0 (((w21.setCell ⟨gb752,1,none⟩ (.slice Ao22 t758.length co22)).setCell ⟨gb752,2,none⟩ (.int .i64 ji3)).heap[gb751]? = some (.cells #[.bool a0_0,.slice Ao18 t755.length co18,.int .i64 ji3] 30 (0,0))):=⟨bf NB751_752.o BK751.o⟩
 have n3_:Aside0 (((w21.setCell ⟨gb752,1,none⟩ (.slice Ao22 t758.length co22)).setCell ⟨gb752,2,none⟩ (.int .i64 ji3)).heap[gb752]? = some (.cells #[.bool a1_0,.slice Ao22 t758.length co22,.int .i64 ji3] 30 (0,0))):=⟨by refine bp ?_;refine Za3 (cs:=#[.bool a1_0,.slice Ao22 t758.length co22,.int .i64 a1_2]) ?_ 2 _ rfl;refine bp ?_;refine Za3 (cs:=#[.bool a1_0,.slice A1_1 l1_1.length c1_1,.int .i64 a1_2]) ?_ 1 _ rfl;exact bp BK752.o⟩
 have n4_:Aside0 (((w21.setCell ⟨gb752,1,none⟩ (.slice Ao22 t758.length co22)).setCell ⟨gb752,2,none⟩ (.int .i64 ji3)).heap[gb753]? = some (.cells #[.bool false,.slice none 0 0,.int .i64 0] 30 (0,0))):=⟨bf NB753_752.o BK753.o⟩
 have n5_:Aside0 (((w21.setCell ⟨gb752,1,none⟩ (.slice Ao22 t758.length co22)).setCell ⟨gb752,2,none⟩ (.int .i64 ji3)).heap[gb754]? = some (.cells #[.bool false,.slice none 0 0,.int .i64 0] 30 (0,0))):=⟨bf NB754_752.o BK754.o⟩
 have n6_:Aside0 (Below w.heap.size w ((w21.setCell ⟨gb752,1,none⟩ (.slice Ao22 t758.length co22)).setCell ⟨gb752,2,none⟩ (.int .i64 ji3))):=⟨pB⟩
 generalize ((w21.setCell ⟨gb752,1,none⟩ (.slice Ao22 t758.length co22)).setCell ⟨gb752,2,none⟩ (.int .i64 ji3))=w24 at n0_ n1_ n2_ n3_ n4_ n5_ n6_ ⊢
 have HO757:=n0_
 have HO760:=n1_
 have BK751:=n2_
 have BK752:=n3_
 have BK753:=n4_
 have BK754:=n5_
 have HB:=n6_
 clear n0_ n1_ n2_ n3_ n4_ n5_ n6_
 replace HO757:=am (Kd.Zem HO757.o)
 replace HO760:=am (Kd.Zem HO760.o)
 replace BK751:=am (Zbb BK751.o)
 replace BK752:=am (Zbb BK752.o)
 replace BK753:=am (Zbb BK753.o)
 replace BK754:=am (Zbb BK754.o)
 replace HB:=am (Zaz HB.o)
 refine start_ (n:=4) (S:=fun w'=>w'.cell? ⟨gb751,0,none⟩=some (.bool a0_0)/\w'.cell? ⟨gb751,1,none⟩=some (.slice Ao18 t755.length co18)/\w'.cell? ⟨gb751,2,none⟩=some (.int .i64 ji3)/\w'.cell? ⟨gb752,0,none⟩=some (.bool a1_0)/\w'.cell? ⟨gb752,1,none⟩=some (.slice Ao22 t758.length co22)/\w'.cell? ⟨gb752,2,none⟩=some (.int .i64 ji3)) (ds:=[]) #[false,false,false,false] (by kernel_rfl) rfl rfl ⟨k0 BK751 0,k0 BK751 1,k0 BK751 2,k0 BK752 0,k0 BK752 1,k0 BK752 2⟩ (fun hHeld=>?_)
 generalize w24.drew=w25 at HO757 HO760 BK751 BK752 BK753 BK754 HB hHeld ⊢
 refine take_ (i:=0) (N:=some 32) (v:=?_) (a':=?_) #[true,false,false,false] rfl rfl (by kernel_rfl) (fun _ _ _ h=>h) (Or.inl ⟨by rfl,?_⟩) hHeld ?_ ?_
 rotate_left
 ·rintro w' ⟨s0,s1,s2,s3,s4,s5⟩
  go_simp
  with_reducible rfl
 rotate_left
 ·exact pP
 refine take_ (i:=1) (N:=some 33) (v:=?_) (a':=?_) #[true,true,false,false] rfl rfl (by kernel_rfl) (fun _ _ _ h=>h) (Or.inl ⟨by rfl,?_⟩) hHeld ?_ ?_
 rotate_left
 ·rintro w' ⟨s0,s1,s2,s3,s4,s5⟩
  go_simp
  with_reducible rfl
 rotate_left
 ·exact pP
 refine one_ (i:=2) (N:=none) #[true,true,true,false] rfl rfl (by kernel_rfl) (by decide) (fun K hK=>?_)
 have hs26:w25.cell? ⟨gb753,0,none⟩=some (.bool false):=k0 BK753 0
 have hfs26:=Zau BK753.o 0
 have hns26_0:=NB751_753.o
 have hns26_1:=NB752_753.o
 have hns26_3:=NB754_753.o
 have hms26_0:=NB753_751.o
 have hms26_1:=NB753_752.o
 have hms26_3:=NB753_754.o
 have hs27:w25.cell? ⟨gb753,1,none⟩=some (.slice none 0 0):=k0 BK753 1
 have hfs27:=Zau BK753.o 1
 have hns27_0:=NB751_753.o
 have hns27_1:=NB752_753.o
 have hns27_3:=NB754_753.o
 have hms27_0:=NB753_751.o
 have hms27_1:=NB753_752.o
 have hms27_3:=NB753_754.o
 have hs28:w25.cell? ⟨gb753,2,none⟩=some (.int .i64 0):=k0 BK753 2
 have hfs28:=Zau BK753.o 2
 have hns28_0:=NB751_753.o
 have hns28_1:=NB752_753.o
 have hns28_3:=NB754_753.o
 have hms28_0:=NB753_751.o
 have hms28_1:=NB753_752.o
 have hms28_3:=NB753_754.o
 refine skip_ (w1:=?_) (by rfl) rfl ?_ ?_
 rotate_left
 ·go_simp
  rfl
 refine hK.out _ _ ⟨((cell_far (p:=⟨gb753,_,none⟩) NB751_753.o _).trans (((cell_far (p:=⟨gb753,_,none⟩) NB751_753.o _).trans (((cell_far (p:=⟨gb753,_,none⟩) NB751_753.o _).trans (hHeld.1)))))),((cell_far (p:=⟨gb753,_,none⟩) NB751_753.o _).trans (((cell_far (p:=⟨gb753,_,none⟩) NB751_753.o _).trans (((cell_far (p:=⟨gb753,_,none⟩) NB751_753.o _).trans (hHeld.2.1)))))),((cell_far (p:=⟨gb753,_,none⟩) NB751_753.o _).trans (((cell_far (p:=⟨gb753,_,none⟩) NB751_753.o _).trans (((cell_far (p:=⟨gb753,_,none⟩) NB751_753.o _).trans (hHeld.2.2.1)))))),((cell_far (p:=⟨gb753,_,none⟩) NB752_753.o _).trans (((cell_far (p:=⟨gb753,_,none⟩) NB752_753.o _).trans (((cell_far (p:=⟨gb753,_,none⟩) NB752_753.o _).trans (hHeld.2.2.2.1)))))),((cell_far (p:=⟨gb753,_,none⟩) NB752_753.o _).trans (((cell_far (p:=⟨gb753,_,none⟩) NB752_753.o _).trans (((cell_far (p:=⟨gb753,_,none⟩) NB752_753.o _).trans (hHeld.2.2.2.2.1)))))),((cell_far (p:=⟨gb753,_,none⟩) NB752_753.o _).trans (((cell_far (p:=⟨gb753,_,none⟩) NB752_753.o _).trans (((cell_far (p:=⟨gb753,_,none⟩) NB752_753.o _).trans (hHeld.2.2.2.2.2))))))⟩ (fun hHeld=>?_)
 clear hK K
 refine one_ (i:=3) (N:=none) #[true,true,true,true] rfl rfl (by kernel_rfl) (by decide) (fun K hK=>?_)
 have hs29:w25.cell? ⟨gb754,0,none⟩=some (.bool false):=k0 BK754 0
 have hfs29:=Zau BK754.o 0
 have hns29_0:=NB751_754.o
 have hns29_1:=NB752_754.o
 have hns29_2:=NB753_754.o
 have hms29_0:=NB754_751.o
 have hms29_1:=NB754_752.o
 have hms29_2:=NB754_753.o
 have hs30:w25.cell? ⟨gb754,1,none⟩=some (.slice none 0 0):=k0 BK754 1
 have hfs30:=Zau BK754.o 1
 have hns30_0:=NB751_754.o
 have hns30_1:=NB752_754.o
 have hns30_2:=NB753_754.o
 have hms30_0:=NB754_751.o
 have hms30_1:=NB754_752.o
 have hms30_2:=NB754_753.o
 have hs31:w25.cell? ⟨gb754,2,none⟩=some (.int .i64 0):=k0 BK754 2
 have hfs31:=Zau BK754.o 2
 have hns31_0:=NB751_754.o
 have hns31_1:=NB752_754.o
 have hns31_2:=NB753_754.o
 have hms31_0:=NB754_751.o
 have hms31_1:=NB754_752.o
 have hms31_2:=NB754_753.o
 refine skip_ (w1:=?_) (by rfl) rfl ?_ ?_
 rotate_left
 ·go_simp
  rfl
 refine hK.out _ _ ⟨((cell_far (p:=⟨gb754,_,none⟩) NB751_754.o _).trans (((cell_far (p:=⟨gb754,_,none⟩) NB751_754.o _).trans (((cell_far (p:=⟨gb754,_,none⟩) NB751_754.o _).trans (hHeld.1)))))),((cell_far (p:=⟨gb754,_,none⟩) NB751_754.o _).trans (((cell_far (p:=⟨gb754,_,none⟩) NB751_754.o _).trans (((cell_far (p:=⟨gb754,_,none⟩) NB751_754.o _).trans (hHeld.2.1)))))),((cell_far (p:=⟨gb754,_,none⟩) NB751_754.o _).trans (((cell_far (p:=⟨gb754,_,none⟩) NB751_754.o _).trans (((cell_far (p:=⟨gb754,_,none⟩) NB751_754.o _).trans (hHeld.2.2.1)))))),((cell_far (p:=⟨gb754,_,none⟩) NB752_754.o _).trans (((cell_far (p:=⟨gb754,_,none⟩) NB752_754.o _).trans (((cell_far (p:=⟨gb754,_,none⟩) NB752_754.o _).trans (hHeld.2.2.2.1)))))),((cell_far (p:=⟨gb754,_,none⟩) NB752_754.o _).trans (((cell_far (p:=⟨gb754,_,none⟩) NB752_754.o _).trans (((cell_far (p:=⟨gb754,_,none⟩) NB752_754.o _).trans (hHeld.2.2.2.2.1)))))),((cell_far (p:=⟨gb754,_,none⟩) NB752_754.o _).trans (((cell_far (p:=⟨gb754,_,none⟩) NB752_754.o _).trans (((cell_far (p:=⟨gb754,_,none⟩) NB752_754.o _).trans (hHeld.2.2.2.2.2))))))⟩ (fun hHeld=>?_)
 clear hK K
 refine done_ (by kernel_rfl) ?_
 try go_wp2
 refine bodyPost_ret (Zm7 rfl _ _ gb753 gb754 30 30 #[.bool a0_0,.slice Ao18 t755.length co18,.int .i64 ji3] #[.bool a1_0,.slice Ao22 t758.length co22,.int .i64 ji3] (0,0) (0,0) _ _ rfl (by refine bq ?_ NB753_754;refine bq ?_ NB753_754;refine bq ?_ NB753_754;exact p3 BK753) Tryz.underlying30 rfl (by kernel_rfl) rfl (by refine bp ?_;refine Za3 (cs:=#[.bool a1_0,.slice Ao22 t758.length co22,.int .i64 0]) ?_ 2 _ rfl;refine bp ?_;refine Za3 (cs:=#[.bool a1_0,.slice none 0 0,.int .i64 0]) ?_ 1 _ rfl;refine bp ?_;refine Za3 (cs:=#[.bool false,.slice none 0 0,.int .i64 0]) ?_ 0 _ rfl;refine bq ?_ NB754_753;refine bq ?_ NB754_753;refine bq ?_ NB754_753;exact bp BK754.o) Tryz.underlying30 rfl (by kernel_rfl)) rfl ?_
 exact ⟨_,_,by first|rfl|(simp [Zak,Zal] <;> rfl)|(simp only [<- hji3];first|rfl|(simp [Zak,Zal] <;> rfl))|(simp [*,Zak,Zal] <;> rfl),by refine rp ?_;exact Kd.Zi (Kd.Zp (p:=⟨gb754,2,none⟩) (Kd.Zp (p:=⟨gb754,1,none⟩) (Kd.Zp (p:=⟨gb754,0,none⟩) (Kd.Zp (p:=⟨gb753,2,none⟩) (Kd.Zp (p:=⟨gb753,1,none⟩) (Kd.Zp (p:=⟨gb753,0,none⟩) (Kd.Zaa (Kd.Zaa HO757.o BK753.o (by decide)) BK754.o (by decide)) (fun _ hk=>hk.1.2) (.bool a0_0)) (fun _ hk=>hk.1.2) (.slice Ao18 t755.length co18)) (fun _ hk=>hk.1.2) (.int .i64 ji3)) (fun _ hk=>hk.2) (.bool a1_0)) (fun _ hk=>hk.2) (.slice Ao22 t758.length co22)) (fun _ hk=>hk.2) (.int .i64 ji3)) (fun _ hk=>hk.1.1),by refine rp ?_;exact Kd.Zi (Kd.Zp (p:=⟨gb754,2,none⟩) (Kd.Zp (p:=⟨gb754,1,none⟩) (Kd.Zp (p:=⟨gb754,0,none⟩) (Kd.Zp (p:=⟨gb753,2,none⟩) (Kd.Zp (p:=⟨gb753,1,none⟩) (Kd.Zp (p:=⟨gb753,0,none⟩) (Kd.Zaa (Kd.Zaa HO760.o BK753.o (by decide)) BK754.o (by decide)) (fun _ hk=>hk.1.2) (.bool a0_0)) (fun _ hk=>hk.1.2) (.slice Ao18 t755.length co18)) (fun _ hk=>hk.1.2) (.int .i64 ji3)) (fun _ hk=>hk.2) (.bool a1_0)) (fun _ hk=>hk.2) (.slice Ao22 t758.length co22)) (fun _ hk=>hk.2) (.int .i64 ji3)) (fun _ hk=>hk.1.1),pB⟩
def Zaf.f (k:Nat) (a0_0:Bool) (l0_1:List Int) (a0_2:Int) (a1_0:Bool) (l1_1:List Int) (a1_2:Int):Option (Bool × List Int × Int):=(Zcj.f a0_0 l0_1 a0_2 a1_0 l1_1 a1_2).bind fun bt781=>(if (bt781.1 == bt781.2.2.2.1)=true then ((Zt.f k bt781.2.1 bt781.2.2.2.2.1).bind fun t791=>(some (bt781.1,t791,bt781.2.2.1))) else ((Zas.f k bt781.2.1 bt781.2.2.2.2.1).bind fun t794=>(if t794 >= 0 then ((Zy.f k bt781.2.1 bt781.2.2.2.2.1).bind fun t795=>(some (bt781.1,t795,bt781.2.2.1))) else ((Zy.f k bt781.2.2.2.2.1 bt781.2.1).bind fun t798=>(some (bt781.2.2.2.1,t798,bt781.2.2.1))))))
def Zaf.T2:Bool × List (List Nat × List Nat):=(true,[([],[]),([0],[0]),([],[]),([2],[2]),([],[]),([4],[4]),([3,5],[3,5]),([0,1,4,5],[]),([7,1,6,0,1,4,5],[1,7]),([0,1,2,3,4,5,6,7,8],[]),([9,6,8,0,1,2,3,4,5,6,7,8],[6,9])])
def Zaf.B2:List Nat:=[0,1,0,4,0,16,60,51,255,511,1023]
theorem Zaf.tab2:rtab .any (opsOf Tryz.f77 2)=Zaf.T2:=by kernel_rfl
theorem Zaf.bits2:waitsOk Zaf.T2.2 Zaf.B2=true:=by kernel_rfl
theorem Zaf.leaf {P:Prop} (h:P:=by
 go_enter Tryz.func77,Tryz.ntmps77
 try go_wp2_with (first|((with_reducible refine gd 2 ?_);refine bx 2 #[.bool a0_0,.slice A0_1 l0_1.length c0_1,.int .i64 a0_2] 30 (h:=?_);intro gb0z hg w1z hbox hb;have BK2z:=am hbox;have GW3z:=gW hg;replace HB:=bS hb;clear hb hbox hg)|((with_reducible refine gd 3 ?_);refine bx 3 #[.bool a1_0,.slice A1_1 l1_1.length c1_1,.int .i64 a1_2] 30 (h:=?_);intro gb5z hg w6z hbox hb;have BK7z:=am hbox;have GW8z:=gW hg;have NB10z:=nL hg BK2z;have NB11z:=nG hg BK2z;replace BK2z:=bb BK2z hb;replace HB:=bS hb;clear hb hbox hg)|((with_reducible refine gd 4 ?_);refine bx 4 #[.bool false,.slice none 0 0,.int .i64 0] 30 (h:=?_);intro gb12z hg w13z hbox hb;have BK14z:=am hbox;have GW15z:=gW hg;have NB17z:=nL hg BK2z;have NB18z:=nG hg BK2z;have NB19z:=nL hg BK7z;have NB20z:=nG hg BK7z;replace BK2z:=bb BK2z hb;replace BK7z:=bb BK7z hb;replace HB:=bS hb;clear hb hbox hg;have hnb21z:=NB10z.o;have hnc22z:=NB11z.o;have hnb23z:=NB17z.o;have hnc24z:=NB18z.o;obtain ⟨_,_,_,_,_,_⟩:=cEc BK2z.o;have hnb31z:=NB19z.o;have hnc32z:=NB20z.o;obtain ⟨_,_,_,_,_,_⟩:=cEc BK7z.o)|(refine gL (some 8) Tryz.func133 #[.agg #[.bool a0_0,.slice A0_1 l0_1.length c0_1,.int .i64 a0_2],.agg #[.bool a1_0,.slice A1_1 l1_1.length c1_1,.int .i64 a1_2]] (h:=?_);(with_reducible refine (Zcj.calls a0_0 _ _ l0_1 a0_2 a1_0 _ _ l1_1 a1_2 t781 t782 t785 t786 t787 t790 _ ?side1 ?side2 ?side3 ?side4 A3.o).mono ?_);(case side1=>exact cB HR0_1 HB);(case side2=>exact HC0_1.o);(case side3=>exact cB HR1_1 HB);(case side4=>exact HC1_1.o);rintro e w39z ⟨v40z,v41z,rfl,ho42z,ho43z,hb⟩;refine ⟨_,rfl,?_⟩;have HO44z:=am (Kd.Zq ho42z (Zb pB));have HO45z:=am (Kd.Zq ho43z (Zb pB));replace BK2z:=bb BK2z hb;replace BK7z:=bb BK7z hb;replace BK14z:=bb BK14z hb;replace HB:=bS hb;obtain ⟨_,_,_,_,_,_⟩:=cEc BK2z.o;obtain ⟨Ao52z,co53z,eo54z⟩:=Kd.Zj HO44z.o;subst eo54z;obtain ⟨_,_,_,_,_,_⟩:=cEc BK7z.o;obtain ⟨Ao61z,co62z,eo63z⟩:=Kd.Zj HO45z.o;subst eo63z)|(refine gL (some 37) Tryz.func94 #[.slice Ao52z t782.length co53z,.slice Ao61z t787.length co62z] (h:=?_);(with_reducible refine (Zas.calls k _ _ t782 _ _ t787 t794 _ ?side1 ?side2 ?side3 ?side4 A23.o).mono ?_);(case side1=>refine (Kd.Zd (e:=3) (base:=w.heap.size) (ok:=fun k_=>some k_ ≠ (.slice Ao61z t787.length co62z:Value).ownBlock) (n:=t782.length) (c:=co53z) ?_).2.2;exact (Kd.Za (Kd.Zi (Kd.Zi (Kd.Zp (p:=⟨gb5z,2,none⟩) (Kd.Zp (p:=⟨gb5z,1,none⟩) (Kd.Zp (p:=⟨gb5z,0,none⟩) (Kd.Zp (p:=⟨gb0z,2,none⟩) (Kd.Zp (p:=⟨gb0z,1,none⟩) (Kd.Zp (p:=⟨gb0z,0,none⟩) (Kd.Zaa (Kd.Zaa HO44z.o BK2z.o (by decide)) BK7z.o (by decide)) (fun _ hk=>hk.1.2) (.bool t781)) (fun _ hk=>hk.1.2) (.slice Ao52z t782.length co53z)) (fun _ hk=>hk.1.2) (.int .i64 t785)) (fun _ hk=>hk.2) (.bool t786)) (fun _ hk=>hk.2) (.slice Ao61z t787.length co62z)) (fun _ hk=>hk.2) (.int .i64 t790)) (fun _ h_=>h_.1)) (fun _ h_=>h_.1)) pl));(case side2=>exact (Kd.Zd HO44z.o).2.1);(case side3=>refine (Kd.Zd (e:=3) (base:=w.heap.size) (ok:=fun k_=>some k_ ≠ (.slice Ao52z t782.length co53z:Value).ownBlock) (n:=t787.length) (c:=co62z) ?_).2.2;exact (Kd.Za (Kd.Zi (Kd.Zi (Kd.Zp (p:=⟨gb5z,2,none⟩) (Kd.Zp (p:=⟨gb5z,1,none⟩) (Kd.Zp (p:=⟨gb5z,0,none⟩) (Kd.Zp (p:=⟨gb0z,2,none⟩) (Kd.Zp (p:=⟨gb0z,1,none⟩) (Kd.Zp (p:=⟨gb0z,0,none⟩) (Kd.Zaa (Kd.Zaa HO45z.o BK2z.o (by decide)) BK7z.o (by decide)) (fun _ hk=>hk.1.2) (.bool t781)) (fun _ hk=>hk.1.2) (.slice Ao52z t782.length co53z)) (fun _ hk=>hk.1.2) (.int .i64 t785)) (fun _ hk=>hk.2) (.bool t786)) (fun _ hk=>hk.2) (.slice Ao61z t787.length co62z)) (fun _ hk=>hk.2) (.int .i64 t790)) (fun _ h_=>h_.1)) (fun _ h_=>h_.1)) pl));(case side4=>exact (Kd.Zd HO45z.o).2.1);rintro e w' ⟨rfl,⟨nd,rfl⟩⟩;refine ⟨_,rfl,?_⟩)|(refine gL (some 43) Tryz.func134 #[.slice Ao52z t782.length co53z,.slice Ao61z t787.length co62z] (h:=?_);(with_reducible refine (Zy.calls k _ _ t782 _ _ t787 t795 _ ?side1 ?side2 ?side3 ?side4 A25.o).mono ?_);(case side1=>refine (Kd.Zd (e:=3) (base:=w.heap.size) (ok:=fun k_=>some k_ ≠ (.slice Ao61z t787.length co62z:Value).ownBlock) (n:=t782.length) (c:=co53z) ?_).2.2;exact (Kd.Za (Kd.Zi (Kd.Zi (Kd.Zp (p:=⟨gb5z,2,none⟩) (Kd.Zp (p:=⟨gb5z,1,none⟩) (Kd.Zp (p:=⟨gb5z,0,none⟩) (Kd.Zp (p:=⟨gb0z,2,none⟩) (Kd.Zp (p:=⟨gb0z,1,none⟩) (Kd.Zp (p:=⟨gb0z,0,none⟩) (Kd.Zaa (Kd.Zaa HO44z.o BK2z.o (by decide)) BK7z.o (by decide)) (fun _ hk=>hk.1.2) (.bool t781)) (fun _ hk=>hk.1.2) (.slice Ao52z t782.length co53z)) (fun _ hk=>hk.1.2) (.int .i64 t785)) (fun _ hk=>hk.2) (.bool t786)) (fun _ hk=>hk.2) (.slice Ao61z t787.length co62z)) (fun _ hk=>hk.2) (.int .i64 t790)) (fun _ h_=>h_.1)) (fun _ h_=>h_.1)) pl));(case side2=>exact (Kd.Zd HO44z.o).2.1);(case side3=>refine (Kd.Zd (e:=3) (base:=w.heap.size) (ok:=fun k_=>some k_ ≠ (.slice Ao52z t782.length co53z:Value).ownBlock) (n:=t787.length) (c:=co62z) ?_).2.2;exact (Kd.Za (Kd.Zi (Kd.Zi (Kd.Zp (p:=⟨gb5z,2,none⟩) (Kd.Zp (p:=⟨gb5z,1,none⟩) (Kd.Zp (p:=⟨gb5z,0,none⟩) (Kd.Zp (p:=⟨gb0z,2,none⟩) (Kd.Zp (p:=⟨gb0z,1,none⟩) (Kd.Zp (p:=⟨gb0z,0,none⟩) (Kd.Zaa (Kd.Zaa HO45z.o BK2z.o (by decide)) BK7z.o (by decide)) (fun _ hk=>hk.1.2) (.bool t781)) (fun _ hk=>hk.1.2) (.slice Ao52z t782.length co53z)) (fun _ hk=>hk.1.2) (.int .i64 t785)) (fun _ hk=>hk.2) (.bool t786)) (fun _ hk=>hk.2) (.slice Ao61z t787.length co62z)) (fun _ hk=>hk.2) (.int .i64 t790)) (fun _ h_=>h_.1)) (fun _ h_=>h_.1)) pl));(case side4=>exact (Kd.Zd HO45z.o).2.1);rintro e w64z ⟨v65z,rfl,ho42z,hb⟩;refine ⟨_,rfl,?_⟩;have HO66z:=am (Kd.Zq (Kd.Zr (Kd.Zr ho42z (Kd.R_lt (Kd.Za (Kd.Zi (Kd.Zi (Kd.Zp (p:=⟨gb5z,2,none⟩) (Kd.Zp (p:=⟨gb5z,1,none⟩) (Kd.Zp (p:=⟨gb5z,0,none⟩) (Kd.Zp (p:=⟨gb0z,2,none⟩) (Kd.Zp (p:=⟨gb0z,1,none⟩) (Kd.Zp (p:=⟨gb0z,0,none⟩) (Kd.Zaa (Kd.Zaa HO44z.o BK2z.o (by decide)) BK7z.o (by decide)) (fun _ hk=>hk.1.2) (.bool t781)) (fun _ hk=>hk.1.2) (.slice Ao52z t782.length co53z)) (fun _ hk=>hk.1.2) (.int .i64 t785)) (fun _ hk=>hk.2) (.bool t786)) (fun _ hk=>hk.2) (.slice Ao61z t787.length co62z)) (fun _ hk=>hk.2) (.int .i64 t790)) (fun _ h_=>h_.1)) (fun _ h_=>h_.1)) pl))) (Kd.R_lt (Kd.Za (Kd.Zi (Kd.Zi (Kd.Zp (p:=⟨gb5z,2,none⟩) (Kd.Zp (p:=⟨gb5z,1,none⟩) (Kd.Zp (p:=⟨gb5z,0,none⟩) (Kd.Zp (p:=⟨gb0z,2,none⟩) (Kd.Zp (p:=⟨gb0z,1,none⟩) (Kd.Zp (p:=⟨gb0z,0,none⟩) (Kd.Zaa (Kd.Zaa HO45z.o BK2z.o (by decide)) BK7z.o (by decide)) (fun _ hk=>hk.1.2) (.bool t781)) (fun _ hk=>hk.1.2) (.slice Ao52z t782.length co53z)) (fun _ hk=>hk.1.2) (.int .i64 t785)) (fun _ hk=>hk.2) (.bool t786)) (fun _ hk=>hk.2) (.slice Ao61z t787.length co62z)) (fun _ hk=>hk.2) (.int .i64 t790)) (fun _ h_=>h_.1)) (fun _ h_=>h_.1)) pl))) (Zb pB));replace HO44z:=am (Kd.Zbx (Kd.Za (Kd.Zi (Kd.Zi (Kd.Zp (p:=⟨gb5z,2,none⟩) (Kd.Zp (p:=⟨gb5z,1,none⟩) (Kd.Zp (p:=⟨gb5z,0,none⟩) (Kd.Zp (p:=⟨gb0z,2,none⟩) (Kd.Zp (p:=⟨gb0z,1,none⟩) (Kd.Zp (p:=⟨gb0z,0,none⟩) (Kd.Zaa (Kd.Zaa HO44z.o BK2z.o (by decide)) BK7z.o (by decide)) (fun _ hk=>hk.1.2) (.bool t781)) (fun _ hk=>hk.1.2) (.slice Ao52z t782.length co53z)) (fun _ hk=>hk.1.2) (.int .i64 t785)) (fun _ hk=>hk.2) (.bool t786)) (fun _ hk=>hk.2) (.slice Ao61z t787.length co62z)) (fun _ hk=>hk.2) (.int .i64 t790)) (fun _ h_=>h_.1)) (fun _ h_=>h_.1)) pl) (Kd.Zap ho42z) hb);replace HO45z:=am (Kd.Zbx (Kd.Za (Kd.Zi (Kd.Zi (Kd.Zp (p:=⟨gb5z,2,none⟩) (Kd.Zp (p:=⟨gb5z,1,none⟩) (Kd.Zp (p:=⟨gb5z,0,none⟩) (Kd.Zp (p:=⟨gb0z,2,none⟩) (Kd.Zp (p:=⟨gb0z,1,none⟩) (Kd.Zp (p:=⟨gb0z,0,none⟩) (Kd.Zaa (Kd.Zaa HO45z.o BK2z.o (by decide)) BK7z.o (by decide)) (fun _ hk=>hk.1.2) (.bool t781)) (fun _ hk=>hk.1.2) (.slice Ao52z t782.length co53z)) (fun _ hk=>hk.1.2) (.int .i64 t785)) (fun _ hk=>hk.2) (.bool t786)) (fun _ hk=>hk.2) (.slice Ao61z t787.length co62z)) (fun _ hk=>hk.2) (.int .i64 t790)) (fun _ h_=>h_.1)) (fun _ h_=>h_.1)) pl) (Kd.Zap ho42z) hb);replace BK2z:=am (Zc (g:=gb0z) (o:=.cells #[.bool t781,.slice Ao52z t782.length co53z,.int .i64 t785] 30 (0,0)) (by refine bq ?_ NB10z;refine bq ?_ NB10z;refine bq ?_ NB10z;exact p3 BK2z) hb);replace BK7z:=am (Zc (g:=gb5z) (o:=.cells #[.bool t786,.slice Ao61z t787.length co62z,.int .i64 t790] 30 (0,0)) (by refine bp ?_;refine Za3 (cs:=#[.bool t786,.slice Ao61z t787.length co62z,.int .i64 a1_2]) ?_ 2 _ rfl;refine bp ?_;refine Za3 (cs:=#[.bool t786,.slice A1_1 l1_1.length c1_1,.int .i64 a1_2]) ?_ 1 _ rfl;refine bp ?_;refine Za3 (cs:=#[.bool a1_0,.slice A1_1 l1_1.length c1_1,.int .i64 a1_2]) ?_ 0 _ rfl;refine bq ?_ NB11z;refine bq ?_ NB11z;refine bq ?_ NB11z;exact bp BK7z.o) hb);replace BK14z:=am (Zc (g:=gb12z) (o:=.cells #[.bool false,.slice none 0 0,.int .i64 0] 30 (0,0)) (by refine bq ?_ NB20z;refine bq ?_ NB20z;refine bq ?_ NB20z;refine bq ?_ NB18z;refine bq ?_ NB18z;refine bq ?_ NB18z;exact bp BK14z.o) hb);replace HB:=bS hb;obtain ⟨Ao67z,co68z,eo69z⟩:=Kd.Zj HO66z.o;subst eo69z;obtain ⟨hcz70z,hcz71z,hcz72z,hfz73z,hfz74z,hfz75z⟩:=cEc BK2z.o;obtain ⟨hcz76z,hcz77z,hcz78z,hfz79z,hfz80z,hfz81z⟩:=cEc BK14z.o)|(refine gL (some 30) Tryz.func85 #[.slice Ao52z t782.length co53z,.slice Ao61z t787.length co62z] (h:=?_);(with_reducible refine (Zt.calls k _ _ t782 _ _ t787 t791 _ ?side1 ?side2 ?side3 ?side4 A5.o).mono ?_);(case side1=>refine (Kd.Zd (e:=3) (base:=w.heap.size) (ok:=fun k_=>some k_ ≠ (.slice Ao61z t787.length co62z:Value).ownBlock) (n:=t782.length) (c:=co53z) ?_).2.2;exact (Kd.Za (Kd.Zi (Kd.Zi (Kd.Zp (p:=⟨gb5z,2,none⟩) (Kd.Zp (p:=⟨gb5z,1,none⟩) (Kd.Zp (p:=⟨gb5z,0,none⟩) (Kd.Zp (p:=⟨gb0z,2,none⟩) (Kd.Zp (p:=⟨gb0z,1,none⟩) (Kd.Zp (p:=⟨gb0z,0,none⟩) (Kd.Zaa (Kd.Zaa HO44z.o BK2z.o (by decide)) BK7z.o (by decide)) (fun _ hk=>hk.1.2) (.bool t781)) (fun _ hk=>hk.1.2) (.slice Ao52z t782.length co53z)) (fun _ hk=>hk.1.2) (.int .i64 t785)) (fun _ hk=>hk.2) (.bool t786)) (fun _ hk=>hk.2) (.slice Ao61z t787.length co62z)) (fun _ hk=>hk.2) (.int .i64 t790)) (fun _ h_=>h_.1)) (fun _ h_=>h_.1)) pl));(case side2=>exact (Kd.Zd HO44z.o).2.1);(case side3=>refine (Kd.Zd (e:=3) (base:=w.heap.size) (ok:=fun k_=>some k_ ≠ (.slice Ao52z t782.length co53z:Value).ownBlock) (n:=t787.length) (c:=co62z) ?_).2.2;exact (Kd.Za (Kd.Zi (Kd.Zi (Kd.Zp (p:=⟨gb5z,2,none⟩) (Kd.Zp (p:=⟨gb5z,1,none⟩) (Kd.Zp (p:=⟨gb5z,0,none⟩) (Kd.Zp (p:=⟨gb0z,2,none⟩) (Kd.Zp (p:=⟨gb0z,1,none⟩) (Kd.Zp (p:=⟨gb0z,0,none⟩) (Kd.Zaa (Kd.Zaa HO45z.o BK2z.o (by decide)) BK7z.o (by decide)) (fun _ hk=>hk.1.2) (.bool t781)) (fun _ hk=>hk.1.2) (.slice Ao52z t782.length co53z)) (fun _ hk=>hk.1.2) (.int .i64 t785)) (fun _ hk=>hk.2) (.bool t786)) (fun _ hk=>hk.2) (.slice Ao61z t787.length co62z)) (fun _ hk=>hk.2) (.int .i64 t790)) (fun _ h_=>h_.1)) (fun _ h_=>h_.1)) pl));(case side4=>exact (Kd.Zd HO45z.o).2.1);rintro e w64z ⟨v65z,rfl,ho42z,hb⟩;refine ⟨_,rfl,?_⟩;have HO66z:=am (Kd.Zq (Kd.Zr (Kd.Zr ho42z (Kd.R_lt (Kd.Za (Kd.Zi (Kd.Zi (Kd.Zp (p:=⟨gb5z,2,none⟩) (Kd.Zp (p:=⟨gb5z,1,none⟩) (Kd.Zp (p:=⟨gb5z,0,none⟩) (Kd.Zp (p:=⟨gb0z,2,none⟩) (Kd.Zp (p:=⟨gb0z,1,none⟩) (Kd.Zp (p:=⟨gb0z,0,none⟩) (Kd.Zaa (Kd.Zaa HO44z.o BK2z.o (by decide)) BK7z.o (by decide)) (fun _ hk=>hk.1.2) (.bool t781)) (fun _ hk=>hk.1.2) (.slice Ao52z t782.length co53z)) (fun _ hk=>hk.1.2) (.int .i64 t785)) (fun _ hk=>hk.2) (.bool t786)) (fun _ hk=>hk.2) (.slice Ao61z t787.length co62z)) (fun _ hk=>hk.2) (.int .i64 t790)) (fun _ h_=>h_.1)) (fun _ h_=>h_.1)) pl))) (Kd.R_lt (Kd.Za (Kd.Zi (Kd.Zi (Kd.Zp (p:=⟨gb5z,2,none⟩) (Kd.Zp (p:=⟨gb5z,1,none⟩) (Kd.Zp (p:=⟨gb5z,0,none⟩) (Kd.Zp (p:=⟨gb0z,2,none⟩) (Kd.Zp (p:=⟨gb0z,1,none⟩) (Kd.Zp (p:=⟨gb0z,0,none⟩) (Kd.Zaa (Kd.Zaa HO45z.o BK2z.o (by decide)) BK7z.o (by decide)) (fun _ hk=>hk.1.2) (.bool t781)) (fun _ hk=>hk.1.2) (.slice Ao52z t782.length co53z)) (fun _ hk=>hk.1.2) (.int .i64 t785)) (fun _ hk=>hk.2) (.bool t786)) (fun _ hk=>hk.2) (.slice Ao61z t787.length co62z)) (fun _ hk=>hk.2) (.int .i64 t790)) (fun _ h_=>h_.1)) (fun _ h_=>h_.1)) pl))) (Zb pB));replace HO44z:=am (Kd.Zbx (Kd.Za (Kd.Zi (Kd.Zi (Kd.Zp (p:=⟨gb5z,2,none⟩) (Kd.Zp (p:=⟨gb5z,1,none⟩) (Kd.Zp (p:=⟨gb5z,0,none⟩) (Kd.Zp (p:=⟨gb0z,2,none⟩) (Kd.Zp (p:=⟨gb0z,1,none⟩) (Kd.Zp (p:=⟨gb0z,0,none⟩) (Kd.Zaa (Kd.Zaa HO44z.o BK2z.o (by decide)) BK7z.o (by decide)) (fun _ hk=>hk.1.2) (.bool t781)) (fun _ hk=>hk.1.2) (.slice Ao52z t782.length co53z)) (fun _ hk=>hk.1.2) (.int .i64 t785)) (fun _ hk=>hk.2) (.bool t786)) (fun _ hk=>hk.2) (.slice Ao61z t787.length co62z)) (fun _ hk=>hk.2) (.int .i64 t790)) (fun _ h_=>h_.1)) (fun _ h_=>h_.1)) pl) (Kd.Zap ho42z) hb);replace HO45z:=am (Kd.Zbx (Kd.Za (Kd.Zi (Kd.Zi (Kd.Zp (p:=⟨gb5z,2,none⟩) (Kd.Zp (p:=⟨gb5z,1,none⟩) (Kd.Zp (p:=⟨gb5z,0,none⟩) (Kd.Zp (p:=⟨gb0z,2,none⟩) (Kd.Zp (p:=⟨gb0z,1,none⟩) (Kd.Zp (p:=⟨gb0z,0,none⟩) (Kd.Zaa (Kd.Zaa HO45z.o BK2z.o (by decide)) BK7z.o (by decide)) (fun _ hk=>hk.1.2) (.bool t781)) (fun _ hk=>hk.1.2) (.slice Ao52z t782.length co53z)) (fun _ hk=>hk.1.2) (.int .i64 t785)) (fun _ hk=>hk.2) (.bool t786)) (fun _ hk=>hk.2) (.slice Ao61z t787.length co62z)) (fun _ hk=>hk.2) (.int .i64 t790)) (fun _ h_=>h_.1)) (fun _ h_=>h_.1)) pl) (Kd.Zap ho42z) hb);replace BK2z:=am (Zc (g:=gb0z) (o:=.cells #[.bool t781,.slice Ao52z t782.length co53z,.int .i64 t785] 30 (0,0)) (by refine bq ?_ NB10z;refine bq ?_ NB10z;refine bq ?_ NB10z;exact p3 BK2z) hb);replace BK7z:=am (Zc (g:=gb5z) (o:=.cells #[.bool t786,.slice Ao61z t787.length co62z,.int .i64 t790] 30 (0,0)) (by refine bp ?_;refine Za3 (cs:=#[.bool t786,.slice Ao61z t787.length co62z,.int .i64 a1_2]) ?_ 2 _ rfl;refine bp ?_;refine Za3 (cs:=#[.bool t786,.slice A1_1 l1_1.length c1_1,.int .i64 a1_2]) ?_ 1 _ rfl;refine bp ?_;refine Za3 (cs:=#[.bool a1_0,.slice A1_1 l1_1.length c1_1,.int .i64 a1_2]) ?_ 0 _ rfl;refine bq ?_ NB11z;refine bq ?_ NB11z;refine bq ?_ NB11z;exact bp BK7z.o) hb);replace BK14z:=am (Zc (g:=gb12z) (o:=.cells #[.bool false,.slice none 0 0,.int .i64 0] 30 (0,0)) (by refine bq ?_ NB20z;refine bq ?_ NB20z;refine bq ?_ NB20z;refine bq ?_ NB18z;refine bq ?_ NB18z;refine bq ?_ NB18z;exact bp BK14z.o) hb);replace HB:=bS hb;obtain ⟨Ao67z,co68z,eo69z⟩:=Kd.Zj HO66z.o;subst eo69z;obtain ⟨hcz70z,hcz71z,hcz72z,hfz73z,hfz74z,hfz75z⟩:=cEc BK2z.o;obtain ⟨hcz76z,hcz77z,hcz78z,hfz79z,hfz80z,hfz81z⟩:=cEc BK14z.o))
 first
  | have q_:=A25
    refine bodyPost_ret (results_cell_row rfl _ _ gb12z 30 #[.bool t781,.slice Ao67z t795.length co68z,.int .i64 t785] (0,0) _ rfl (by refine bp ?_;refine Za3 (cs:=#[.bool t781,.slice Ao67z t795.length co68z,.int .i64 0]) ?_ 2 _ rfl;refine bp ?_;refine Za3 (cs:=#[.bool t781,.slice none 0 0,.int .i64 0]) ?_ 1 _ rfl;refine bp ?_;refine Za3 (cs:=#[.bool false,.slice none 0 0,.int .i64 0]) ?_ 0 _ rfl;refine bq ?_ NB18z;exact bp BK14z.o) Tryz.underlying30 rfl (by kernel_rfl)) rfl ?_
    exact ⟨_,pE,by refine rp ?_;exact Kd.Zi (Kd.Zp (p:=⟨gb12z,2,none⟩) (Kd.Zp (p:=⟨gb12z,1,none⟩) (Kd.Zp (p:=⟨gb12z,0,none⟩) (Kd.Zp (p:=⟨gb0z,1,none⟩) (Kd.Zaa (Kd.Zaa HO66z.o BK2z.o (by decide)) BK14z.o (by decide)) (fun _ hk=>hk.1.2) (.slice Ao67z t795.length co68z)) (fun _ hk=>hk.2) (.bool t781)) (fun _ hk=>hk.2) (.slice Ao67z t795.length co68z)) (fun _ hk=>hk.2) (.int .i64 t785)) (fun _ hk=>trivial),pB⟩
  | have q_:=A43
    have n0_:Aside0 (Kd.R (Kd.int .i64) 3 ((((((w39z.setCell ⟨gb0z,0,none⟩ (.bool t781)).setCell ⟨gb0z,1,none⟩ (.slice Ao52z t782.length co53z)).setCell ⟨gb0z,2,none⟩ (.int .i64 t785)).setCell ⟨gb5z,0,none⟩ (.bool t786)).setCell ⟨gb5z,1,none⟩ (.slice Ao61z t787.length co62z)).setCell ⟨gb5z,2,none⟩ (.int .i64 t790)) w.heap.size (fun k_=>some k_ ≠ (.slice Ao61z t787.length co62z:Value).ownBlock) (.slice Ao52z t782.length co53z) t782):=⟨by refine rp ?_;exact Kd.Zi (Kd.Zp (p:=⟨gb5z,2,none⟩) (Kd.Zp (p:=⟨gb5z,1,none⟩) (Kd.Zp (p:=⟨gb5z,0,none⟩) (Kd.Zp (p:=⟨gb0z,2,none⟩) (Kd.Zp (p:=⟨gb0z,1,none⟩) (Kd.Zp (p:=⟨gb0z,0,none⟩) (Kd.Zaa (Kd.Zaa HO44z.o BK2z.o (by decide)) BK7z.o (by decide)) (fun _ hk=>hk.1.2) (.bool t781)) (fun _ hk=>hk.1.2) (.slice Ao52z t782.length co53z)) (fun _ hk=>hk.1.2) (.int .i64 t785)) (fun _ hk=>hk.2) (.bool t786)) (fun _ hk=>hk.2) (.slice Ao61z t787.length co62z)) (fun _ hk=>hk.2) (.int .i64 t790)) (fun _ hk=>hk.1.1)⟩
    have n1_:Aside0 (Kd.R (Kd.int .i64) 3 ((((((w39z.setCell ⟨gb0z,0,none⟩ (.bool t781)).setCell ⟨gb0z,1,none⟩ (.slice Ao52z t782.length co53z)).setCell ⟨gb0z,2,none⟩ (.int .i64 t785)).setCell ⟨gb5z,0,none⟩ (.bool t786)).setCell ⟨gb5z,1,none⟩ (.slice Ao61z t787.length co62z)).setCell ⟨gb5z,2,none⟩ (.int .i64 t790)) w.heap.size (fun k_=>some k_ ≠ (.slice Ao52z t782.length co53z:Value).ownBlock) (.slice Ao61z t787.length co62z) t787):=⟨by refine rp ?_;exact Kd.Zi (Kd.Zp (p:=⟨gb5z,2,none⟩) (Kd.Zp (p:=⟨gb5z,1,none⟩) (Kd.Zp (p:=⟨gb5z,0,none⟩) (Kd.Zp (p:=⟨gb0z,2,none⟩) (Kd.Zp (p:=⟨gb0z,1,none⟩) (Kd.Zp (p:=⟨gb0z,0,none⟩) (Kd.Zaa (Kd.Zaa HO45z.o BK2z.o (by decide)) BK7z.o (by decide)) (fun _ hk=>hk.1.2) (.bool t781)) (fun _ hk=>hk.1.2) (.slice Ao52z t782.length co53z)) (fun _ hk=>hk.1.2) (.int .i64 t785)) (fun _ hk=>hk.2) (.bool t786)) (fun _ hk=>hk.2) (.slice Ao61z t787.length co62z)) (fun _ hk=>hk.2) (.int .i64 t790)) (fun _ hk=>hk.1.1)⟩
    have n2_:Aside0 (((((((w39z.setCell ⟨gb0z,0,none⟩ (.bool t781)).setCell ⟨gb0z,1,none⟩ (.slice Ao52z t782.length co53z)).setCell ⟨gb0z,2,none⟩ (.int .i64 t785)).setCell ⟨gb5z,0,none⟩ (.bool t786)).setCell ⟨gb5z,1,none⟩ (.slice Ao61z t787.length co62z)).setCell ⟨gb5z,2,none⟩ (.int .i64 t790)).heap[gb0z]? = some (.cells #[.bool t781,.slice Ao52z t782.length co53z,.int .i64 t785] 30 (0,0))):=⟨by refine bq ?_ NB10z;refine bq ?_ NB10z;refine bq ?_ NB10z;exact p3 BK2z⟩
    have n3_:Aside0 (((((((w39z.setCell ⟨gb0z,0,none⟩ (.bool t781)).setCell ⟨gb0z,1,none⟩ (.slice Ao52z t782.length co53z)).setCell ⟨gb0z,2,none⟩ (.int .i64 t785)).setCell ⟨gb5z,0,none⟩ (.bool t786)).setCell ⟨gb5z,1,none⟩ (.slice Ao61z t787.length co62z)).setCell ⟨gb5z,2,none⟩ (.int .i64 t790)).heap[gb5z]? = some (.cells #[.bool t786,.slice Ao61z t787.length co62z,.int .i64 t790] 30 (0,0))):=⟨by refine bp ?_;refine Za3 (cs:=#[.bool t786,.slice Ao61z t787.length co62z,.int .i64 a1_2]) ?_ 2 _ rfl;refine bp ?_;refine Za3 (cs:=#[.bool t786,.slice A1_1 l1_1.length c1_1,.int .i64 a1_2]) ?_ 1 _ rfl;refine bp ?_;refine Za3 (cs:=#[.bool a1_0,.slice A1_1 l1_1.length c1_1,.int .i64 a1_2]) ?_ 0 _ rfl;refine bq ?_ NB11z;refine bq ?_ NB11z;refine bq ?_ NB11z;exact bp BK7z.o⟩
    have n4_:Aside0 (((((((w39z.setCell ⟨gb0z,0,none⟩ (.bool t781)).setCell ⟨gb0z,1,none⟩ (.slice Ao52z t782.length co53z)).setCell ⟨gb0z,2,none⟩ (.int .i64 t785)).setCell ⟨gb5z,0,none⟩ (.bool t786)).setCell ⟨gb5z,1,none⟩ (.slice Ao61z t787.length co62z)).setCell ⟨gb5z,2,none⟩ (.int .i64 t790)).heap[gb12z]? = some (.cells #[.bool false,.slice none 0 0,.int .i64 0] 30 (0,0))):=⟨by refine bq ?_ NB20z;refine bq ?_ NB20z;refine bq ?_ NB20z;refine bq ?_ NB18z;refine bq ?_ NB18z;refine bq ?_ NB18z;exact bp BK14z.o⟩
    have n5_:Aside0 (Below w.heap.size w ((((((w39z.setCell ⟨gb0z,0,none⟩ (.bool t781)).setCell ⟨gb0z,1,none⟩ (.slice Ao52z t782.length co53z)).setCell ⟨gb0z,2,none⟩ (.int .i64 t785)).setCell ⟨gb5z,0,none⟩ (.bool t786)).setCell ⟨gb5z,1,none⟩ (.slice Ao61z t787.length co62z)).setCell ⟨gb5z,2,none⟩ (.int .i64 t790))):=⟨pB⟩
    generalize ((((((w39z.setCell ⟨gb0z,0,none⟩ (.bool t781)).setCell ⟨gb0z,1,none⟩ (.slice Ao52z t782.length co53z)).setCell ⟨gb0z,2,none⟩ (.int .i64 t785)).setCell ⟨gb5z,0,none⟩ (.bool t786)).setCell ⟨gb5z,1,none⟩ (.slice Ao61z t787.length co62z)).setCell ⟨gb5z,2,none⟩ (.int .i64 t790))=w64z at n0_ n1_ n2_ n3_ n4_ n5_ ⊢
    have HO44z:=n0_
    have HO45z:=n1_
    have BK2z:=n2_
    have BK7z:=n3_
    have BK14z:=n4_
    have HB:=n5_
    clear n0_ n1_ n2_ n3_ n4_ n5_
    (try (rw [Zgt w64z];generalize hq_:World.drewN w64z _=w64z;replace HO44z:Aside0 (Kd.R (Kd.int .i64) 3 w64z w.heap.size (fun k_=>some k_ ≠ (.slice Ao61z t787.length co62z:Value).ownBlock) (.slice Ao52z t782.length co53z) t782):=⟨by rw [<- hq_];exact (Kd.Za HO44z.o pl)⟩;replace HO45z:Aside0 (Kd.R (Kd.int .i64) 3 w64z w.heap.size (fun k_=>some k_ ≠ (.slice Ao52z t782.length co53z:Value).ownBlock) (.slice Ao61z t787.length co62z) t787):=⟨by rw [<- hq_];exact (Kd.Za HO45z.o pl)⟩;replace BK2z:Aside0 (w64z.heap[gb0z]? = some (.cells #[.bool t781,.slice Ao52z t782.length co53z,.int .i64 t785] 30 (0,0))):=⟨by rw [<- hq_];exact (Zc BK2z.o pl)⟩;replace BK7z:Aside0 (w64z.heap[gb5z]? = some (.cells #[.bool t786,.slice Ao61z t787.length co62z,.int .i64 t790] 30 (0,0))):=⟨by rw [<- hq_];exact (Zc BK7z.o pl)⟩;replace BK14z:Aside0 (w64z.heap[gb12z]? = some (.cells #[.bool false,.slice none 0 0,.int .i64 0] 30 (0,0))):=⟨by rw [<- hq_];exact (Zc BK14z.o pl)⟩;replace HB:Aside0 (Below w.heap.size w w64z):=⟨by rw [<- hq_];exact pB⟩;clear hq_))
    replace HO44z:=am (Kd.Zem HO44z.o)
    replace HO45z:=am (Kd.Zem HO45z.o)
    replace BK2z:=am (Zbb BK2z.o)
    replace BK7z:=am (Zbb BK7z.o)
    replace BK14z:=am (Zbb BK14z.o)
    replace HB:=am (Zaz HB.o)
    refine start_ (n:=11) (S:=fun w'=>w'.cell? ⟨gb5z,0,none⟩=some (.bool t786)/\w'.cell? ⟨gb5z,1,none⟩=some (.slice Ao61z t787.length co62z)/\w'.cell? ⟨gb5z,2,none⟩=some (.int .i64 t790)/\w'.cell? ⟨gb0z,0,none⟩=some (.bool t781)/\w'.cell? ⟨gb0z,1,none⟩=some (.slice Ao52z t782.length co53z)/\w'.cell? ⟨gb0z,2,none⟩=some (.int .i64 t785)) (ds:=[8,10]) #[false,false,false,false,false,false,false,false,false,false,false] (by kernel_rfl) rfl rfl ⟨k0 BK7z 0,k0 BK7z 1,k0 BK7z 2,k0 BK2z 0,k0 BK2z 1,k0 BK2z 2⟩ (fun hHeld=>?_);refine Zcq Zaf.tab2 Zaf.bits2 (fun HT_ HW_=>?_)
    generalize w64z.drew=w65z at HO44z HO45z BK2z BK7z BK14z HB hHeld ⊢
    refine pu 0 (some 11) #[true,false,false,false,false,false,false,false,false,false,false] (h:=?_)
    refine pu 2 (some 13) #[true,false,true,false,false,false,false,false,false,false,false] (h:=?_)
    refine pu 4 (some 15) #[true,false,true,false,true,false,false,false,false,false,false] (h:=?_)
    refine take_ (i:=1) (N:=some 12) (v:=?_) (a':=?_) #[true,true,true,false,true,false,false,false,false,false,false] rfl rfl (Zbi HT_.out HW_.out (by kernel_rfl)) (fun _ _ _ h=>h) (Or.inl ⟨by rfl,?_⟩) hHeld ?_ ?_
    rotate_left
    ·rintro w' ⟨s66z,s67z,s68z,s69z,s70z,s71z⟩
     go_simp
     with_reducible rfl
    rotate_left
    ·exact pP
    refine take_ (i:=3) (N:=some 14) (v:=?_) (a':=?_) #[true,true,true,true,true,false,false,false,false,false,false] rfl rfl (Zbi HT_.out HW_.out (by kernel_rfl)) (fun _ _ _ h=>h) (Or.inl ⟨by rfl,?_⟩) hHeld ?_ ?_
    rotate_left
    ·rintro w' ⟨s66z,s67z,s68z,s69z,s70z,s71z⟩
     go_simp
     with_reducible rfl
    rotate_left
    ·exact pP
    refine take_ (i:=5) (N:=some 16) (v:=?_) (a':=?_) #[true,true,true,true,true,true,false,false,false,false,false] rfl rfl (Zbi HT_.out HW_.out (by kernel_rfl)) (fun _ _ _ h=>h) (Or.inl ⟨by rfl,?_⟩) hHeld ?_ ?_
    rotate_left
    ·rintro w' ⟨s66z,s67z,s68z,s69z,s70z,s71z⟩
     go_simp
     with_reducible rfl
    rotate_left
    ·exact pP
    refine pu 7 (some 18) #[true,true,true,true,true,true,false,true,false,false,false] (h:=?_)
    refine one_ (i:=6) (N:=some 17) #[true,true,true,true,true,true,true,true,false,false,false] rfl rfl (Zbw HT_.out (by kernel_rfl)) (by decide) (fun K hK=>?_)
    refine goes_ Tryz.func134 (by kernel_rfl) rfl #[.slice Ao61z t787.length co62z,.slice Ao52z t782.length co53z] (by rfl) rfl rfl pA ?_
    with_reducible refine (Zy.calls k _ _ t787 _ _ t782 t798 _ ?side1 ?side2 ?side3 ?side4 A43.o).mono ?_
    (case side1=>exact Kd.Zx (Kd.Zd HO45z.o).2.2 pl)
    (case side2=>exact (Kd.Zd HO45z.o).2.1)
    (case side3=>exact Kd.Zx (Kd.Zd HO44z.o).2.2 pl)
    (case side4=>exact (Kd.Zd HO44z.o).2.1)
    rintro e w72z ⟨v73z,rfl,ho42z,hb⟩
    refine ⟨_,rfl,?_⟩
    have HO74z:=am (Kd.Zq (Kd.Zr (Kd.Zr ho42z (Kd.R_lt (Kd.Za HO44z.o pl))) (Kd.R_lt (Kd.Za HO45z.o pl))) (Zb pB))
    replace HO44z:=reR HO44z ho42z hb
    replace HO45z:=reR HO45z ho42z hb
    replace BK2z:=bb BK2z hb
    replace BK7z:=bb BK7z hb
    replace BK14z:=bb BK14z hb
    replace HB:=bS hb
    obtain ⟨Ao75z,co76z,eo77z⟩:=Kd.Zj HO74z.o
    (first|subst eo77z|(injection eo77z with f1_ f2_ f3_;have f4_:=f1_.symm;have f5_:=f3_.symm;clear f1_ f2_ f3_;subst f4_;subst f5_))
    refine hK.out _ _ ⟨k0 BK7z 0,k0 BK7z 1,k0 BK7z 2,k0 BK2z 0,k0 BK2z 1,k0 BK2z 2⟩ (fun hHeld=>?_)
    clear hK K
    refine norm_ (a':=?_) ?_ ?_
    rotate_left
    ·show Act.put _ (some 17) _=_
     exact pP
    refine last_ (i:=8) (N:=none) #[true,true,true,true,true,true,true,true,true,false,false] rfl rfl (Zbw HT_.out (by kernel_rfl)) (by decide) (fun K hK=>?_)
    have hs78z:w72z.cell? ⟨gb0z,0,none⟩=some (.bool t781):=k0 BK2z 0
    have hfs79z:=Zau BK2z.o 0
    have hns80z:=NB11z.o
    have hns81z:=NB18z.o
    have hms82z:=NB10z.o
    have hms83z:=NB17z.o
    refine skip_ (w1:=?_) (by rfl) rfl ?_ ?_
    rotate_left
    ·go_simp
     rfl
    refine hK.out _ _ ?_
    clear hK K
    refine pu 9 (some 19) #[true,true,true,true,true,true,true,true,true,true,false] (h:=?_)
    refine last_ (i:=10) (N:=none) #[true,true,true,true,true,true,true,true,true,true,true] rfl rfl (Zbw HT_.out (by kernel_rfl)) (by decide) (fun K hK=>?_)
    have hs84z:w72z.cell? ⟨gb0z,1,none⟩=some (.slice Ao52z t782.length co53z):=k0 BK2z 1
    have hfs85z:=Zau BK2z.o 1
    have hns86z:=NB11z.o
    have hns87z:=NB18z.o
    have hms88z:=NB10z.o
    have hms89z:=NB17z.o
    refine skip_ (w1:=?_) (by rfl) rfl ?_ ?_
    rotate_left
    ·go_simp
     rfl
    refine hK.out _ _ ?_
    clear hK K
    refine done_ (Zdl HT_.out (by kernel_rfl)) ?_
    obtain ⟨_,_,_,_,_,_⟩:=cEc BK2z.o
    obtain ⟨_,_,_,_,_,_⟩:=cEc BK14z.o
    try go_wp2
    refine bodyPost_ret (results_cell_row rfl _ _ gb12z 30 #[.bool t786,.slice Ao75z t798.length co76z,.int .i64 t785] (0,0) _ rfl (by refine bp ?_;refine Za3 (cs:=#[.bool t786,.slice Ao75z t798.length co76z,.int .i64 0]) ?_ 2 _ rfl;refine bp ?_;refine Za3 (cs:=#[.bool t786,.slice none 0 0,.int .i64 0]) ?_ 1 _ rfl;refine bp ?_;refine Za3 (cs:=#[.bool false,.slice none 0 0,.int .i64 0]) ?_ 0 _ rfl;refine bq ?_ NB18z;refine bq ?_ NB18z;exact bp BK14z.o) Tryz.underlying30 rfl (by kernel_rfl)) rfl ?_
    exact ⟨_,pE,by refine rp ?_;exact Kd.Zi (Kd.Zp (p:=⟨gb12z,2,none⟩) (Kd.Zp (p:=⟨gb12z,1,none⟩) (Kd.Zp (p:=⟨gb12z,0,none⟩) (Kd.Zp (p:=⟨gb0z,1,none⟩) (Kd.Zp (p:=⟨gb0z,0,none⟩) (Kd.Zaa (Kd.Zaa HO74z.o BK2z.o (by decide)) BK14z.o (by decide)) (fun _ hk=>hk.1.2) (.bool t786)) (fun _ hk=>hk.1.2) (.slice Ao75z t798.length co76z)) (fun _ hk=>hk.2) (.bool t786)) (fun _ hk=>hk.2) (.slice Ao75z t798.length co76z)) (fun _ hk=>hk.2) (.int .i64 t785)) (fun _ hk=>trivial),pB⟩
  | refine bodyPost_ret (results_cell_row rfl _ _ gb12z 30 #[.bool t781,.slice Ao67z t791.length co68z,.int .i64 t785] (0,0) _ rfl (by refine bp ?_;refine Za3 (cs:=#[.bool t781,.slice Ao67z t791.length co68z,.int .i64 0]) ?_ 2 _ rfl;refine bp ?_;refine Za3 (cs:=#[.bool t781,.slice none 0 0,.int .i64 0]) ?_ 1 _ rfl;refine bp ?_;refine Za3 (cs:=#[.bool false,.slice none 0 0,.int .i64 0]) ?_ 0 _ rfl;refine bq ?_ NB18z;exact bp BK14z.o) Tryz.underlying30 rfl (by kernel_rfl)) rfl ?_
    exact ⟨_,pE,by refine rp ?_;exact Kd.Zi (Kd.Zp (p:=⟨gb12z,2,none⟩) (Kd.Zp (p:=⟨gb12z,1,none⟩) (Kd.Zp (p:=⟨gb12z,0,none⟩) (Kd.Zp (p:=⟨gb0z,1,none⟩) (Kd.Zaa (Kd.Zaa HO66z.o BK2z.o (by decide)) BK14z.o (by decide)) (fun _ hk=>hk.1.2) (.slice Ao67z t791.length co68z)) (fun _ hk=>hk.2) (.bool t781)) (fun _ hk=>hk.2) (.slice Ao67z t791.length co68z)) (fun _ hk=>hk.2) (.int .i64 t785)) (fun _ hk=>trivial),pB⟩):P:=h
theorem Zaf.calls (k:Nat) (a0_0:Bool) (A0_1:Option Addr) (c0_1:Nat) (l0_1:List Int) (a0_2:Int) (a1_0:Bool) (A1_1:Option Addr) (c1_1:Nat) (l1_1:List Int) (a1_2:Int) (r1:Bool) (r2:List Int) (r3:Int) (w:World) (hr0_1:Kd.C (Kd.int .i64) w A0_1 l0_1.length l0_1) (hc0_1:l0_1.length<=c0_1) (hr1_1:Kd.C (Kd.int .i64) w A1_1 l1_1.length l1_1) (hc1_1:l1_1.length<=c1_1) (h:Zaf.f k a0_0 l0_1 a0_2 a1_0 l1_1 a1_2=some (r1,r2,r3)) :
  Calls Tryz.prog 77 #[.agg #[.bool a0_0,.slice A0_1 l0_1.length c0_1,.int .i64 a0_2],.agg #[.bool a1_0,.slice A1_1 l1_1.length c1_1,.int .i64 a1_2]] w fun e w' => ∃ v1_:Value,e=.returned (.agg #[.bool r1,v1_,.int .i64 r3])/\Kd.R (Kd.int .i64) 3 w' w.heap.size (fun _=>True) v1_ r2/\Below w.heap.size w w':=by
 have hu30:=Tryz.underlying30
 have HR0_1:=am hr0_1
 have HC0_1:=am hc0_1
 clear hr0_1 hc0_1
 have HR1_1:=am hr1_1
 have HC1_1:=am hc1_1
 clear hr1_1 hc1_1
 have HB:=am (Below.refl w.heap.size w)
 have H:((Zcj.f a0_0 l0_1 a0_2 a1_0 l1_1 a1_2).bind fun bt781=>(if (bt781.1 == bt781.2.2.2.1)=true then ((Zt.f k bt781.2.1 bt781.2.2.2.2.1).bind fun t791=>(some (bt781.1,t791,bt781.2.2.1))) else ((Zas.f k bt781.2.1 bt781.2.2.2.2.1).bind fun t794=>(if t794 >= 0 then ((Zy.f k bt781.2.1 bt781.2.2.2.2.1).bind fun t795=>(some (bt781.1,t795,bt781.2.2.1))) else ((Zy.f k bt781.2.2.2.2.1 bt781.2.1).bind fun t798=>(some (bt781.2.2.2.1,t798,bt781.2.2.1)))))))=some (r1,r2,r3):=h
 clear h
 obtain ⟨⟨t781,t782,t785,t786,t787,t790⟩,A3,H⟩:=ob H;(try dsimp only at H)
 by_cases c4:(t781 == t786)=true
 ·rw [if_pos c4] at H
  have c4b0:(t781 == t786)=true:=c4
  (try (have c4b1:decide (t781=t786)=true:=by simpa using c4))
  (try (have c4b2:(t781 == t786)=true:=by simpa using c4))
  clear c4
  obtain ⟨t791,A5,H⟩:=ob H
  simp only [Option.some.injEq,Prod.mk.injEq] at H
  obtain ⟨rfl,rfl,rfl⟩:=H
  exact Zaf.leaf
 ·rw [if_neg c4] at H
  have c4b0:(t781 == t786)=false:=by simpa using c4
  (try (have c4b1:decide (t781=t786)=false:=by simpa using c4))
  (try (have c4b2:(t781 == t786)=false:=by simpa using c4))
  (try (have c4b3:¬ (t781=t786):=by simpa using c4))
  clear c4
  obtain ⟨t794,A23,H⟩:=ob H
  by_cases c24:t794 >= 0
  ·rw [if_pos c24] at H
   have c24b0:decide (0<=t794)=true:=decide_eq_true c24
   clear c24
   obtain ⟨t795,A25,H⟩:=ob H
   simp only [Option.some.injEq,Prod.mk.injEq] at H
   obtain ⟨rfl,rfl,rfl⟩:=H
   exact Zaf.leaf
  ·rw [if_neg c24] at H
   have c24b0:decide (0<=t794)=false:=decide_eq_false c24
   clear c24
   obtain ⟨t798,A43,H⟩:=ob H
   simp only [Option.some.injEq,Prod.mk.injEq] at H
   obtain ⟨rfl,rfl,rfl⟩:=H
   exact Zaf.leaf
def Zai.f (k:Nat) (a0_0:Bool) (l0_1:List Int) (a0_2:Int) (a1_0:Bool) (l1_1:List Int) (a1_2:Int):Option (Int):=(Zn.f k a0_0 l0_1 a0_2).bind fun bt850=>((Zn.f k a1_0 l1_1 a1_2).bind fun bt855=>((Za6.f bt855.1 bt855.2.1 bt855.2.2).bind fun bt860=>((Zaf.f k bt850.1 bt850.2.1 bt850.2.2 bt860.1 bt860.2.1 bt860.2.2).bind fun bt865=>(if (bt865.2.1.length:Int)=0 then (some 0) else (if bt865.1=true then (some (-1)) else (some 1))))))
def Zai.T1:Bool × List (List Nat × List Nat):=(true,[([],[]),([0],[0]),([],[]),([2,1],[2]),([3,3],[3]),([1,4,4],[1,4]),([],[]),([6,5,5,0,1,2,3,4,5,6],[5,6])])
def Zai.B1:List Nat:=[0,1,0,7,15,31,0,127]
theorem Zai.tab1:rtab .any (opsOf Tryz.f81 1)=Zai.T1:=by kernel_rfl
theorem Zai.bits1:waitsOk Zai.T1.2 Zai.B1=true:=by kernel_rfl
theorem Zai.leaf {P:Prop} (h:P:=by
 go_enter Tryz.func81,Tryz.ntmps81
 try go_wp2_with (first|((with_reducible refine gd 2 ?_);refine bx 2 #[.bool a0_0,.slice A0_1 l0_1.length c0_1,.int .i64 a0_2] 24 (h:=?_);intro gb0z hg w1z hbox hb;have BK2z:=am hbox;have GW3z:=gW hg;replace HB:=bS hb;clear hb hbox hg)|((with_reducible refine gd 3 ?_);refine bx 3 #[.bool a1_0,.slice A1_1 l1_1.length c1_1,.int .i64 a1_2] 24 (h:=?_);intro gb5z hg w6z hbox hb;have BK7z:=am hbox;have GW8z:=gW hg;have NB10z:=nL hg BK2z;have NB11z:=nG hg BK2z;replace BK2z:=bb BK2z hb;replace HB:=bS hb;clear hb hbox hg))
 replace BK2z:=am (Zbb BK2z.o)
 replace BK7z:=am (Zbb BK7z.o)
 replace HB:=am (Zaz HB.o)
 refine start_ (n:=8) (S:=fun w'=>w'.cell? ⟨gb0z,0,none⟩=some (.bool a0_0)/\w'.cell? ⟨gb0z,1,none⟩=some (.slice A0_1 l0_1.length c0_1)/\w'.cell? ⟨gb0z,2,none⟩=some (.int .i64 a0_2)/\w'.cell? ⟨gb5z,0,none⟩=some (.bool a1_0)/\w'.cell? ⟨gb5z,1,none⟩=some (.slice A1_1 l1_1.length c1_1)/\w'.cell? ⟨gb5z,2,none⟩=some (.int .i64 a1_2)) (ds:=[]) #[false,false,false,false,false,false,false,false] (by kernel_rfl) rfl rfl ⟨k0 BK2z 0,k0 BK2z 1,k0 BK2z 2,k0 BK7z 0,k0 BK7z 1,k0 BK7z 2⟩ (fun hHeld=>?_);refine Zcq Zai.tab1 Zai.bits1 (fun HT_ HW_=>?_)
 generalize w6z.drew=w12z at BK2z BK7z HB hHeld ⊢
 refine take_ (i:=0) (N:=some 6) (v:=?_) (a':=?_) #[true,false,false,false,false,false,false,false] rfl rfl (Zbi HT_.out HW_.out (by kernel_rfl)) (fun _ _ _ h=>h) (Or.inl ⟨by rfl,?_⟩) hHeld ?_ ?_
 rotate_left
 ·rintro w' ⟨s13z,s14z,s15z,s16z,s17z,s18z⟩
  go_simp
  with_reducible rfl
 rotate_left
 ·exact pP
 refine take_ (i:=2) (N:=some 8) (v:=?_) (a':=?_) #[true,false,true,false,false,false,false,false] rfl rfl (Zbi HT_.out HW_.out (by kernel_rfl)) (fun _ _ _ h=>h) (Or.inl ⟨by rfl,?_⟩) hHeld ?_ ?_
 rotate_left
 ·rintro w' ⟨s13z,s14z,s15z,s16z,s17z,s18z⟩
  go_simp
  with_reducible rfl
 rotate_left
 ·exact pP
 first|(have q_:((t866.length:Int) != 0)=false:=c7b1;refine join_ (σ:=Value × Value × Value × Value × Nat) 1 #[true,true,true,true,true,true,true,false] (fun s_=>[(7,.agg #[.bool t850,s_.1,.int .i64 t854]),(9,.agg #[.bool t855,s_.2.1,.int .i64 t859]),(10,.agg #[.bool t860,s_.2.2.1,.int .i64 t864]),(11,.agg #[.bool t865,s_.2.2.2.1,.int .i64 t869]),(5,.pointer (some ⟨s_.2.2.2.2,0,none⟩))]) (fun s_ w'=>(w'.cell? ⟨gb0z,0,none⟩=some (.bool a0_0)/\w'.cell? ⟨gb0z,1,none⟩=some (.slice A0_1 l0_1.length c0_1)/\w'.cell? ⟨gb0z,2,none⟩=some (.int .i64 a0_2)/\w'.cell? ⟨gb5z,0,none⟩=some (.bool a1_0)/\w'.cell? ⟨gb5z,1,none⟩=some (.slice A1_1 l1_1.length c1_1)/\w'.cell? ⟨gb5z,2,none⟩=some (.int .i64 a1_2))/\(Kd.R (Kd.int .i64) 3 w' w.heap.size (fun k_=>some k_ ≠ (s_.2.2.1:Value).ownBlock/\some k_ ≠ (s_.2.2.2.1:Value).ownBlock) s_.1 t851)/\(Kd.R (Kd.int .i64) 3 w' w.heap.size (fun k_=>some k_ ≠ (s_.1:Value).ownBlock/\some k_ ≠ (s_.2.2.2.1:Value).ownBlock) s_.2.2.1 t861)/\(Kd.R (Kd.int .i64) 3 w' w.heap.size (fun k_=>some k_ ≠ (s_.1:Value).ownBlock/\some k_ ≠ (s_.2.2.1:Value).ownBlock) s_.2.2.2.1 t866)/\(w'.heap[gb0z]? = some (.cells #[.bool a0_0,.slice A0_1 l0_1.length c0_1,.int .i64 a0_2] 24 (0,0)))/\(w'.heap[gb5z]? = some (.cells #[.bool a1_0,.slice A1_1 l1_1.length c1_1,.int .i64 a1_2] 24 (0,0)))/\(w'.heap[s_.2.2.2.2]? = some (.cells #[.bool false,.slice none 0 0,.int .i64 0] 30 (0,0)))/\(w.heap.size<=s_.2.2.2.2)/\(w.heap.size<=s_.2.2.2.2)/\(gb0z ≠ s_.2.2.2.2)/\(s_.2.2.2.2 ≠ gb0z)/\(gb5z ≠ s_.2.2.2.2)/\(s_.2.2.2.2 ≠ gb5z)/\(Below w.heap.size w w')) ?_ ?_)|(have q_:Aside0 (_=some (true,_,_)):=A6;have q_:¬ (t866=[]):=c7b2;refine join_ (σ:=Value × Value × Value × Value × Nat) 1 #[true,true,true,true,true,true,true,false] (fun s_=>[(7,.agg #[.bool t850,s_.1,.int .i64 t854]),(9,.agg #[.bool t855,s_.2.1,.int .i64 t859]),(10,.agg #[.bool t860,s_.2.2.1,.int .i64 t864]),(11,.agg #[.bool true,s_.2.2.2.1,.int .i64 t869]),(5,.pointer (some ⟨s_.2.2.2.2,0,none⟩))]) (fun s_ w'=>(w'.cell? ⟨gb0z,0,none⟩=some (.bool a0_0)/\w'.cell? ⟨gb0z,1,none⟩=some (.slice A0_1 l0_1.length c0_1)/\w'.cell? ⟨gb0z,2,none⟩=some (.int .i64 a0_2)/\w'.cell? ⟨gb5z,0,none⟩=some (.bool a1_0)/\w'.cell? ⟨gb5z,1,none⟩=some (.slice A1_1 l1_1.length c1_1)/\w'.cell? ⟨gb5z,2,none⟩=some (.int .i64 a1_2))/\(Kd.R (Kd.int .i64) 3 w' w.heap.size (fun k_=>some k_ ≠ (s_.2.2.1:Value).ownBlock/\some k_ ≠ (s_.2.2.2.1:Value).ownBlock) s_.1 t851)/\(Kd.R (Kd.int .i64) 3 w' w.heap.size (fun k_=>some k_ ≠ (s_.1:Value).ownBlock/\some k_ ≠ (s_.2.2.2.1:Value).ownBlock) s_.2.2.1 t861)/\(Kd.R (Kd.int .i64) 3 w' w.heap.size (fun k_=>some k_ ≠ (s_.1:Value).ownBlock/\some k_ ≠ (s_.2.2.1:Value).ownBlock) s_.2.2.2.1 t866)/\(w'.heap[gb0z]? = some (.cells #[.bool a0_0,.slice A0_1 l0_1.length c0_1,.int .i64 a0_2] 24 (0,0)))/\(w'.heap[gb5z]? = some (.cells #[.bool a1_0,.slice A1_1 l1_1.length c1_1,.int .i64 a1_2] 24 (0,0)))/\(w'.heap[s_.2.2.2.2]? = some (.cells #[.bool false,.slice none 0 0,.int .i64 0] 30 (0,0)))/\(w.heap.size<=s_.2.2.2.2)/\(w.heap.size<=s_.2.2.2.2)/\(gb0z ≠ s_.2.2.2.2)/\(s_.2.2.2.2 ≠ gb0z)/\(gb5z ≠ s_.2.2.2.2)/\(s_.2.2.2.2 ≠ gb5z)/\(Below w.heap.size w w')) ?_ ?_)|(have q_:Aside0 (_=some (false,_,_)):=A6;have q_:¬ (t866=[]):=c7b2;refine join_ (σ:=Value × Value × Value × Value × Nat) 1 #[true,true,true,true,true,true,true,false] (fun s_=>[(7,.agg #[.bool t850,s_.1,.int .i64 t854]),(9,.agg #[.bool t855,s_.2.1,.int .i64 t859]),(10,.agg #[.bool t860,s_.2.2.1,.int .i64 t864]),(11,.agg #[.bool false,s_.2.2.2.1,.int .i64 t869]),(5,.pointer (some ⟨s_.2.2.2.2,0,none⟩))]) (fun s_ w'=>(w'.cell? ⟨gb0z,0,none⟩=some (.bool a0_0)/\w'.cell? ⟨gb0z,1,none⟩=some (.slice A0_1 l0_1.length c0_1)/\w'.cell? ⟨gb0z,2,none⟩=some (.int .i64 a0_2)/\w'.cell? ⟨gb5z,0,none⟩=some (.bool a1_0)/\w'.cell? ⟨gb5z,1,none⟩=some (.slice A1_1 l1_1.length c1_1)/\w'.cell? ⟨gb5z,2,none⟩=some (.int .i64 a1_2))/\(Kd.R (Kd.int .i64) 3 w' w.heap.size (fun k_=>some k_ ≠ (s_.2.2.1:Value).ownBlock/\some k_ ≠ (s_.2.2.2.1:Value).ownBlock) s_.1 t851)/\(Kd.R (Kd.int .i64) 3 w' w.heap.size (fun k_=>some k_ ≠ (s_.1:Value).ownBlock/\some k_ ≠ (s_.2.2.2.1:Value).ownBlock) s_.2.2.1 t861)/\(Kd.R (Kd.int .i64) 3 w' w.heap.size (fun k_=>some k_ ≠ (s_.1:Value).ownBlock/\some k_ ≠ (s_.2.2.1:Value).ownBlock) s_.2.2.2.1 t866)/\(w'.heap[gb0z]? = some (.cells #[.bool a0_0,.slice A0_1 l0_1.length c0_1,.int .i64 a0_2] 24 (0,0)))/\(w'.heap[gb5z]? = some (.cells #[.bool a1_0,.slice A1_1 l1_1.length c1_1,.int .i64 a1_2] 24 (0,0)))/\(w'.heap[s_.2.2.2.2]? = some (.cells #[.bool false,.slice none 0 0,.int .i64 0] 30 (0,0)))/\(w.heap.size<=s_.2.2.2.2)/\(w.heap.size<=s_.2.2.2.2)/\(gb0z ≠ s_.2.2.2.2)/\(s_.2.2.2.2 ≠ gb0z)/\(gb5z ≠ s_.2.2.2.2)/\(s_.2.2.2.2 ≠ gb5z)/\(Below w.heap.size w w')) ?_ ?_)
 rotate_left
 ·intro hJ1_3_4_5_6
  first|(have q_:((t866.length:Int) != 0)=false:=c7b1;refine join_ (σ:=Value × Value × Value × Value) 2 #[true,true,true,true,true,true,false,false] (fun s_=>[(7,.agg #[.bool t850,s_.1,.int .i64 t854]),(9,.agg #[.bool t855,s_.2.1,.int .i64 t859]),(10,.agg #[.bool t860,s_.2.2.1,.int .i64 t864]),(11,.agg #[.bool t865,s_.2.2.2,.int .i64 t869])]) (fun s_ w'=>(w'.cell? ⟨gb0z,0,none⟩=some (.bool a0_0)/\w'.cell? ⟨gb0z,1,none⟩=some (.slice A0_1 l0_1.length c0_1)/\w'.cell? ⟨gb0z,2,none⟩=some (.int .i64 a0_2)/\w'.cell? ⟨gb5z,0,none⟩=some (.bool a1_0)/\w'.cell? ⟨gb5z,1,none⟩=some (.slice A1_1 l1_1.length c1_1)/\w'.cell? ⟨gb5z,2,none⟩=some (.int .i64 a1_2))/\(Kd.R (Kd.int .i64) 3 w' w.heap.size (fun k_=>some k_ ≠ (s_.2.2.1:Value).ownBlock/\some k_ ≠ (s_.2.2.2:Value).ownBlock) s_.1 t851)/\(Kd.R (Kd.int .i64) 3 w' w.heap.size (fun k_=>some k_ ≠ (s_.1:Value).ownBlock/\some k_ ≠ (s_.2.2.2:Value).ownBlock) s_.2.2.1 t861)/\(Kd.R (Kd.int .i64) 3 w' w.heap.size (fun k_=>some k_ ≠ (s_.1:Value).ownBlock/\some k_ ≠ (s_.2.2.1:Value).ownBlock) s_.2.2.2 t866)/\(w'.heap[gb0z]? = some (.cells #[.bool a0_0,.slice A0_1 l0_1.length c0_1,.int .i64 a0_2] 24 (0,0)))/\(w'.heap[gb5z]? = some (.cells #[.bool a1_0,.slice A1_1 l1_1.length c1_1,.int .i64 a1_2] 24 (0,0)))/\(Below w.heap.size w w')) ?_ ?_)|(have q_:Aside0 (_=some (true,_,_)):=A6;have q_:¬ (t866=[]):=c7b2;refine join_ (σ:=Value × Value × Value × Value) 2 #[true,true,true,true,true,true,false,false] (fun s_=>[(7,.agg #[.bool t850,s_.1,.int .i64 t854]),(9,.agg #[.bool t855,s_.2.1,.int .i64 t859]),(10,.agg #[.bool t860,s_.2.2.1,.int .i64 t864]),(11,.agg #[.bool true,s_.2.2.2,.int .i64 t869])]) (fun s_ w'=>(w'.cell? ⟨gb0z,0,none⟩=some (.bool a0_0)/\w'.cell? ⟨gb0z,1,none⟩=some (.slice A0_1 l0_1.length c0_1)/\w'.cell? ⟨gb0z,2,none⟩=some (.int .i64 a0_2)/\w'.cell? ⟨gb5z,0,none⟩=some (.bool a1_0)/\w'.cell? ⟨gb5z,1,none⟩=some (.slice A1_1 l1_1.length c1_1)/\w'.cell? ⟨gb5z,2,none⟩=some (.int .i64 a1_2))/\(Kd.R (Kd.int .i64) 3 w' w.heap.size (fun k_=>some k_ ≠ (s_.2.2.1:Value).ownBlock/\some k_ ≠ (s_.2.2.2:Value).ownBlock) s_.1 t851)/\(Kd.R (Kd.int .i64) 3 w' w.heap.size (fun k_=>some k_ ≠ (s_.1:Value).ownBlock/\some k_ ≠ (s_.2.2.2:Value).ownBlock) s_.2.2.1 t861)/\(Kd.R (Kd.int .i64) 3 w' w.heap.size (fun k_=>some k_ ≠ (s_.1:Value).ownBlock/\some k_ ≠ (s_.2.2.1:Value).ownBlock) s_.2.2.2 t866)/\(w'.heap[gb0z]? = some (.cells #[.bool a0_0,.slice A0_1 l0_1.length c0_1,.int .i64 a0_2] 24 (0,0)))/\(w'.heap[gb5z]? = some (.cells #[.bool a1_0,.slice A1_1 l1_1.length c1_1,.int .i64 a1_2] 24 (0,0)))/\(Below w.heap.size w w')) ?_ ?_)|(have q_:Aside0 (_=some (false,_,_)):=A6;have q_:¬ (t866=[]):=c7b2;refine join_ (σ:=Value × Value × Value × Value) 2 #[true,true,true,true,true,true,false,false] (fun s_=>[(7,.agg #[.bool t850,s_.1,.int .i64 t854]),(9,.agg #[.bool t855,s_.2.1,.int .i64 t859]),(10,.agg #[.bool t860,s_.2.2.1,.int .i64 t864]),(11,.agg #[.bool false,s_.2.2.2,.int .i64 t869])]) (fun s_ w'=>(w'.cell? ⟨gb0z,0,none⟩=some (.bool a0_0)/\w'.cell? ⟨gb0z,1,none⟩=some (.slice A0_1 l0_1.length c0_1)/\w'.cell? ⟨gb0z,2,none⟩=some (.int .i64 a0_2)/\w'.cell? ⟨gb5z,0,none⟩=some (.bool a1_0)/\w'.cell? ⟨gb5z,1,none⟩=some (.slice A1_1 l1_1.length c1_1)/\w'.cell? ⟨gb5z,2,none⟩=some (.int .i64 a1_2))/\(Kd.R (Kd.int .i64) 3 w' w.heap.size (fun k_=>some k_ ≠ (s_.2.2.1:Value).ownBlock/\some k_ ≠ (s_.2.2.2:Value).ownBlock) s_.1 t851)/\(Kd.R (Kd.int .i64) 3 w' w.heap.size (fun k_=>some k_ ≠ (s_.1:Value).ownBlock/\some k_ ≠ (s_.2.2.2:Value).ownBlock) s_.2.2.1 t861)/\(Kd.R (Kd.int .i64) 3 w' w.heap.size (fun k_=>some k_ ≠ (s_.1:Value).ownBlock/\some k_ ≠ (s_.2.2.1:Value).ownBlock) s_.2.2.2 t866)/\(w'.heap[gb0z]? = some (.cells #[.bool a0_0,.slice A0_1 l0_1.length c0_1,.int .i64 a0_2] 24 (0,0)))/\(w'.heap[gb5z]? = some (.cells #[.bool a1_0,.slice A1_1 l1_1.length c1_1,.int .i64 a1_2] 24 (0,0)))/\(Below w.heap.size w w')) ?_ ?_)
  rotate_left
  ·intro hJ1_3_4_5
   refine join_ (σ:=Value × Value × Value × Nat) 2 #[true,true,true,true,true,false,true,false] (fun s_=>[(7,.agg #[.bool t850,s_.1,.int .i64 t854]),(9,.agg #[.bool t855,s_.2.1,.int .i64 t859]),(10,.agg #[.bool t860,s_.2.2.1,.int .i64 t864]),(5,.pointer (some ⟨s_.2.2.2,0,none⟩))]) (fun s_ w'=>(w'.cell? ⟨gb0z,0,none⟩=some (.bool a0_0)/\w'.cell? ⟨gb0z,1,none⟩=some (.slice A0_1 l0_1.length c0_1)/\w'.cell? ⟨gb0z,2,none⟩=some (.int .i64 a0_2)/\w'.cell? ⟨gb5z,0,none⟩=some (.bool a1_0)/\w'.cell? ⟨gb5z,1,none⟩=some (.slice A1_1 l1_1.length c1_1)/\w'.cell? ⟨gb5z,2,none⟩=some (.int .i64 a1_2))/\(Kd.R (Kd.int .i64) 3 w' w.heap.size (fun k_=>some k_ ≠ (s_.2.2.1:Value).ownBlock) s_.1 t851)/\(Kd.R (Kd.int .i64) 3 w' w.heap.size (fun k_=>some k_ ≠ (s_.1:Value).ownBlock) s_.2.2.1 t861)/\(w'.heap[gb0z]? = some (.cells #[.bool a0_0,.slice A0_1 l0_1.length c0_1,.int .i64 a0_2] 24 (0,0)))/\(w'.heap[gb5z]? = some (.cells #[.bool a1_0,.slice A1_1 l1_1.length c1_1,.int .i64 a1_2] 24 (0,0)))/\(w'.heap[s_.2.2.2]? = some (.cells #[.bool false,.slice none 0 0,.int .i64 0] 30 (0,0)))/\(w.heap.size<=s_.2.2.2)/\(w.heap.size<=s_.2.2.2)/\(gb0z ≠ s_.2.2.2)/\(s_.2.2.2 ≠ gb0z)/\(gb5z ≠ s_.2.2.2)/\(s_.2.2.2 ≠ gb5z)/\(Below w.heap.size w w')) ?_ ?_
   rotate_left
   ·intro hJ1_3_4_6
    refine join_ (σ:=Value × Value × Value) 3 #[true,true,true,true,true,false,false,false] (fun s_=>[(7,.agg #[.bool t850,s_.1,.int .i64 t854]),(9,.agg #[.bool t855,s_.2.1,.int .i64 t859]),(10,.agg #[.bool t860,s_.2.2,.int .i64 t864])]) (fun s_ w'=>(w'.cell? ⟨gb0z,0,none⟩=some (.bool a0_0)/\w'.cell? ⟨gb0z,1,none⟩=some (.slice A0_1 l0_1.length c0_1)/\w'.cell? ⟨gb0z,2,none⟩=some (.int .i64 a0_2)/\w'.cell? ⟨gb5z,0,none⟩=some (.bool a1_0)/\w'.cell? ⟨gb5z,1,none⟩=some (.slice A1_1 l1_1.length c1_1)/\w'.cell? ⟨gb5z,2,none⟩=some (.int .i64 a1_2))/\(Kd.R (Kd.int .i64) 3 w' w.heap.size (fun k_=>some k_ ≠ (s_.2.2:Value).ownBlock) s_.1 t851)/\(Kd.R (Kd.int .i64) 3 w' w.heap.size (fun k_=>some k_ ≠ (s_.1:Value).ownBlock) s_.2.2 t861)/\(w'.heap[gb0z]? = some (.cells #[.bool a0_0,.slice A0_1 l0_1.length c0_1,.int .i64 a0_2] 24 (0,0)))/\(w'.heap[gb5z]? = some (.cells #[.bool a1_0,.slice A1_1 l1_1.length c1_1,.int .i64 a1_2] 24 (0,0)))/\(Below w.heap.size w w')) ?_ ?_
    rotate_left
    ·intro hJ1_3_4
     refine join_ (σ:=Value × Value × Nat) 3 #[true,true,true,true,false,false,true,false] (fun s_=>[(7,.agg #[.bool t850,s_.1,.int .i64 t854]),(9,.agg #[.bool t855,s_.2.1,.int .i64 t859]),(5,.pointer (some ⟨s_.2.2,0,none⟩))]) (fun s_ w'=>(w'.cell? ⟨gb0z,0,none⟩=some (.bool a0_0)/\w'.cell? ⟨gb0z,1,none⟩=some (.slice A0_1 l0_1.length c0_1)/\w'.cell? ⟨gb0z,2,none⟩=some (.int .i64 a0_2)/\w'.cell? ⟨gb5z,0,none⟩=some (.bool a1_0)/\w'.cell? ⟨gb5z,1,none⟩=some (.slice A1_1 l1_1.length c1_1)/\w'.cell? ⟨gb5z,2,none⟩=some (.int .i64 a1_2))/\(Kd.R (Kd.int .i64) 3 w' w.heap.size (fun k_=>some k_ ≠ (s_.2.1:Value).ownBlock) s_.1 t851)/\(Kd.R (Kd.int .i64) 3 w' w.heap.size (fun k_=>some k_ ≠ (s_.1:Value).ownBlock) s_.2.1 t856)/\(w'.heap[gb0z]? = some (.cells #[.bool a0_0,.slice A0_1 l0_1.length c0_1,.int .i64 a0_2] 24 (0,0)))/\(w'.heap[gb5z]? = some (.cells #[.bool a1_0,.slice A1_1 l1_1.length c1_1,.int .i64 a1_2] 24 (0,0)))/\(w'.heap[s_.2.2]? = some (.cells #[.bool false,.slice none 0 0,.int .i64 0] 30 (0,0)))/\(w.heap.size<=s_.2.2)/\(w.heap.size<=s_.2.2)/\(gb0z ≠ s_.2.2)/\(s_.2.2 ≠ gb0z)/\(gb5z ≠ s_.2.2)/\(s_.2.2 ≠ gb5z)/\(Below w.heap.size w w')) ?_ ?_
     rotate_left
     ·intro hJ1_3_6
      refine join_ (σ:=Value × Value) 4 #[true,true,true,true,false,false,false,false] (fun s_=>[(7,.agg #[.bool t850,s_.1,.int .i64 t854]),(9,.agg #[.bool t855,s_.2,.int .i64 t859])]) (fun s_ w'=>(w'.cell? ⟨gb0z,0,none⟩=some (.bool a0_0)/\w'.cell? ⟨gb0z,1,none⟩=some (.slice A0_1 l0_1.length c0_1)/\w'.cell? ⟨gb0z,2,none⟩=some (.int .i64 a0_2)/\w'.cell? ⟨gb5z,0,none⟩=some (.bool a1_0)/\w'.cell? ⟨gb5z,1,none⟩=some (.slice A1_1 l1_1.length c1_1)/\w'.cell? ⟨gb5z,2,none⟩=some (.int .i64 a1_2))/\(Kd.R (Kd.int .i64) 3 w' w.heap.size (fun k_=>some k_ ≠ (s_.2:Value).ownBlock) s_.1 t851)/\(Kd.R (Kd.int .i64) 3 w' w.heap.size (fun k_=>some k_ ≠ (s_.1:Value).ownBlock) s_.2 t856)/\(w'.heap[gb0z]? = some (.cells #[.bool a0_0,.slice A0_1 l0_1.length c0_1,.int .i64 a0_2] 24 (0,0)))/\(w'.heap[gb5z]? = some (.cells #[.bool a1_0,.slice A1_1 l1_1.length c1_1,.int .i64 a1_2] 24 (0,0)))/\(Below w.heap.size w w')) ?_ ?_
      rotate_left
      ·intro hJ19z
       refine join_ (σ:=Value × Nat) 4 #[true,true,true,false,false,false,true,false] (fun s_=>[(7,.agg #[.bool t850,s_.1,.int .i64 t854]),(5,.pointer (some ⟨s_.2,0,none⟩))]) (fun s_ w'=>(w'.cell? ⟨gb0z,0,none⟩=some (.bool a0_0)/\w'.cell? ⟨gb0z,1,none⟩=some (.slice A0_1 l0_1.length c0_1)/\w'.cell? ⟨gb0z,2,none⟩=some (.int .i64 a0_2)/\w'.cell? ⟨gb5z,0,none⟩=some (.bool a1_0)/\w'.cell? ⟨gb5z,1,none⟩=some (.slice A1_1 l1_1.length c1_1)/\w'.cell? ⟨gb5z,2,none⟩=some (.int .i64 a1_2))/\(Kd.R (Kd.int .i64) 3 w' w.heap.size (fun _=>True) s_.1 t851)/\(w'.heap[gb0z]? = some (.cells #[.bool a0_0,.slice A0_1 l0_1.length c0_1,.int .i64 a0_2] 24 (0,0)))/\(w'.heap[gb5z]? = some (.cells #[.bool a1_0,.slice A1_1 l1_1.length c1_1,.int .i64 a1_2] 24 (0,0)))/\(w'.heap[s_.2]? = some (.cells #[.bool false,.slice none 0 0,.int .i64 0] 30 (0,0)))/\(w.heap.size<=s_.2)/\(w.heap.size<=s_.2)/\(gb0z ≠ s_.2)/\(s_.2 ≠ gb0z)/\(gb5z ≠ s_.2)/\(s_.2 ≠ gb5z)/\(Below w.heap.size w w')) ?_ ?_
       rotate_left
       ·intro hJ20z
        refine join_ (σ:=Value) 5 #[true,true,true,false,false,false,false,false] (fun s_=>[(7,.agg #[.bool t850,s_,.int .i64 t854])]) (fun s_ w'=>(w'.cell? ⟨gb0z,0,none⟩=some (.bool a0_0)/\w'.cell? ⟨gb0z,1,none⟩=some (.slice A0_1 l0_1.length c0_1)/\w'.cell? ⟨gb0z,2,none⟩=some (.int .i64 a0_2)/\w'.cell? ⟨gb5z,0,none⟩=some (.bool a1_0)/\w'.cell? ⟨gb5z,1,none⟩=some (.slice A1_1 l1_1.length c1_1)/\w'.cell? ⟨gb5z,2,none⟩=some (.int .i64 a1_2))/\(Kd.R (Kd.int .i64) 3 w' w.heap.size (fun _=>True) s_ t851)/\(w'.heap[gb0z]? = some (.cells #[.bool a0_0,.slice A0_1 l0_1.length c0_1,.int .i64 a0_2] 24 (0,0)))/\(w'.heap[gb5z]? = some (.cells #[.bool a1_0,.slice A1_1 l1_1.length c1_1,.int .i64 a1_2] 24 (0,0)))/\(Below w.heap.size w w')) ?_ ?_
        rotate_left
        ·intro hJ21z
         refine join_ (σ:=Nat) 5 #[true,false,true,false,false,false,true,false] (fun s_=>[(5,.pointer (some ⟨s_,0,none⟩))]) (fun s_ w'=>(w'.cell? ⟨gb0z,0,none⟩=some (.bool a0_0)/\w'.cell? ⟨gb0z,1,none⟩=some (.slice A0_1 l0_1.length c0_1)/\w'.cell? ⟨gb0z,2,none⟩=some (.int .i64 a0_2)/\w'.cell? ⟨gb5z,0,none⟩=some (.bool a1_0)/\w'.cell? ⟨gb5z,1,none⟩=some (.slice A1_1 l1_1.length c1_1)/\w'.cell? ⟨gb5z,2,none⟩=some (.int .i64 a1_2))/\(w'.heap[gb0z]? = some (.cells #[.bool a0_0,.slice A0_1 l0_1.length c0_1,.int .i64 a0_2] 24 (0,0)))/\(w'.heap[gb5z]? = some (.cells #[.bool a1_0,.slice A1_1 l1_1.length c1_1,.int .i64 a1_2] 24 (0,0)))/\(w'.heap[s_]? = some (.cells #[.bool false,.slice none 0 0,.int .i64 0] 30 (0,0)))/\(w.heap.size<=s_)/\(w.heap.size<=s_)/\(gb0z ≠ s_)/\(s_ ≠ gb0z)/\(gb5z ≠ s_)/\(s_ ≠ gb5z)/\(Below w.heap.size w w')) ?_ ?_
         rotate_left
         ·intro hJ22z
          refine two_ (i:=1) (j:=6) (Ni:=some 7) (Nj:=some 5) #[true,true,true,false,false,false,false,false] #[true,false,true,false,false,false,true,false] rfl rfl rfl rfl (Zmp HT_.out (by kernel_rfl)) (by decide) (by decide) (fun K hK=>?_) (fun K hK=>?_)
          ·skip
           refine goes_ Tryz.func18 (by kernel_rfl) rfl #[.agg #[.bool a0_0,.slice A0_1 l0_1.length c0_1,.int .i64 a0_2]] (by rfl) rfl rfl pA ?_
           with_reducible refine (Zn.calls k a0_0 _ _ l0_1 a0_2 t850 t851 t854 _ ?side1 ?side2 A3.o).mono ?_
           (case side1=>exact cB HR0_1 HB)
           (case side2=>exact HC0_1.o)
           rintro e w23z ⟨v24z,rfl,ho25z,hb⟩
           refine ⟨_,rfl,?_⟩
           have HO26z:=am (Kd.Zq ho25z (Zb pB))
           replace BK2z:=bb BK2z hb
           replace BK7z:=bb BK7z hb
           replace HB:=bS hb
           refine hK.out _ _ ⟨k0 BK2z 0,k0 BK2z 1,k0 BK2z 2,k0 BK7z 0,k0 BK7z 1,k0 BK7z 2⟩ (fun hHeld=>?_)
           clear hK K
           refine norm_ (a':=?_) ?_ ?_
           rotate_left
           ·show Act.put _ (some 7) _=_
            exact pP
           exact norm_ pT (hJ21z (v24z) _ ⟨hHeld,(Kd.Za HO26z.o pl),(Zc BK2z.o pl),(Zc BK7z.o pl),pB⟩)
          ·skip
           refine Zfn ?hg (N:=5) ?hd (cs:=#[.bool false,.slice none 0 0,.int .i64 0]) (t:=30) ?hr ?_;(case hd=>rfl);(case hg=>rfl);(case hr=>first|(go_simp;done)|(go_simp;rfl))
           intro gb27z hg w23z hbox hb
           have BK28z:=am hbox
           have GW29z:=gW hg
           have GE30z:=gW hg
           have NB31z:=nL hg BK2z
           have NB32z:=nG hg BK2z
           have NB33z:=nL hg BK7z
           have NB34z:=nG hg BK7z
           replace BK2z:=bb BK2z hb
           replace BK7z:=bb BK7z hb
           replace HB:=bS hb
           clear hb hbox hg
           refine hK.out _ _ ⟨k0 BK2z 0,k0 BK2z 1,k0 BK2z 2,k0 BK7z 0,k0 BK7z 1,k0 BK7z 2⟩ (fun hHeld=>?_)
           clear hK K
           refine norm_ (a':=?_) ?_ ?_
           rotate_left
           ·show Act.put _ (some 5) _=_
            exact pP
           exact norm_ pT (hJ22z (gb27z) _ ⟨hHeld,(Zc BK2z.o pl),(Zc BK7z.o pl),(Zc BK28z.o pl),GW29z.o,GE30z.o,NB31z.o,NB32z.o,NB33z.o,NB34z.o,pB⟩)
         ·skip
          rintro gb27z w35z ⟨hS_,h0_,h1_,h2_,h3_,h4_,h5_,h6_,h7_,h8_,h9_⟩
          have BK28z:Aside0 (w35z.heap[gb27z]? = some (.cells #[.bool false,.slice none 0 0,.int .i64 0] 30 (0,0))):=⟨h2_⟩
          have GW29z:Aside0 (w.heap.size<=gb27z):=⟨h3_⟩
          have GE30z:Aside0 (w.heap.size<=gb27z):=⟨h4_⟩
          have NB31z:Aside0 (gb0z ≠ gb27z):=⟨h5_⟩
          have NB32z:Aside0 (gb27z ≠ gb0z):=⟨h6_⟩
          have NB33z:Aside0 (gb5z ≠ gb27z):=⟨h7_⟩
          have NB34z:Aside0 (gb27z ≠ gb5z):=⟨h8_⟩
          replace BK2z:Aside0 (w35z.heap[gb0z]? = some (.cells #[.bool a0_0,.slice A0_1 l0_1.length c0_1,.int .i64 a0_2] 24 (0,0))):=⟨h0_⟩
          replace BK7z:Aside0 (w35z.heap[gb5z]? = some (.cells #[.bool a1_0,.slice A1_1 l1_1.length c1_1,.int .i64 a1_2] 24 (0,0))):=⟨h1_⟩
          replace HB:Aside0 (Below w.heap.size w w35z):=⟨h9_⟩
          clear h0_ h1_ h2_ h3_ h4_ h5_ h6_ h7_ h8_ h9_
          have hHeld:w35z.cell? ⟨gb0z,0,none⟩=some (.bool a0_0)/\w35z.cell? ⟨gb0z,1,none⟩=some (.slice A0_1 l0_1.length c0_1)/\w35z.cell? ⟨gb0z,2,none⟩=some (.int .i64 a0_2)/\w35z.cell? ⟨gb5z,0,none⟩=some (.bool a1_0)/\w35z.cell? ⟨gb5z,1,none⟩=some (.slice A1_1 l1_1.length c1_1)/\w35z.cell? ⟨gb5z,2,none⟩=some (.int .i64 a1_2):=hS_
          refine norm_ (a':=?_) ?_ ?_
          rotate_left
          ·simp only [putAll,Act.put,List.setIfInBounds_toArray,List.set_cons_zero,List.set_cons_succ]
           rfl
          refine one_ (i:=1) (N:=some 7) #[true,true,true,false,false,false,true,false] rfl rfl (Zbw HT_.out (by kernel_rfl)) (by decide) (fun K hK=>?_)
          refine goes_ Tryz.func18 (by kernel_rfl) rfl #[.agg #[.bool a0_0,.slice A0_1 l0_1.length c0_1,.int .i64 a0_2]] (by rfl) rfl rfl pA ?_
          with_reducible refine (Zn.calls k a0_0 _ _ l0_1 a0_2 t850 t851 t854 _ ?side1 ?side2 A3.o).mono ?_
          (case side1=>exact cB HR0_1 HB)
          (case side2=>exact HC0_1.o)
          rintro e w36z ⟨v24z,rfl,ho25z,hb⟩
          refine ⟨_,rfl,?_⟩
          have HO26z:=am (Kd.Zq ho25z (Zb pB))
          replace BK2z:=bb BK2z hb
          replace BK7z:=bb BK7z hb
          replace BK28z:=bb BK28z hb
          replace HB:=bS hb
          refine hK.out _ _ ⟨k0 BK2z 0,k0 BK2z 1,k0 BK2z 2,k0 BK7z 0,k0 BK7z 1,k0 BK7z 2⟩ (fun hHeld=>?_)
          clear hK K
          refine norm_ (a':=?_) ?_ ?_
          rotate_left
          ·show Act.put _ (some 7) _=_
           exact pP
          exact norm_ pT (hJ20z (v24z,gb27z) _ ⟨hHeld,(Kd.Za HO26z.o pl),(Zc BK2z.o pl),(Zc BK7z.o pl),(Zc BK28z.o pl),GW29z.o,GE30z.o,NB31z.o,NB32z.o,NB33z.o,NB34z.o,pB⟩)
        ·skip
         rintro v24z w35z ⟨hS_,h0_,h1_,h2_,h3_⟩
         have HO26z:Aside0 (Kd.R (Kd.int .i64) 3 w35z w.heap.size (fun _=>True) v24z t851):=⟨h0_⟩
         replace BK2z:Aside0 (w35z.heap[gb0z]? = some (.cells #[.bool a0_0,.slice A0_1 l0_1.length c0_1,.int .i64 a0_2] 24 (0,0))):=⟨h1_⟩
         replace BK7z:Aside0 (w35z.heap[gb5z]? = some (.cells #[.bool a1_0,.slice A1_1 l1_1.length c1_1,.int .i64 a1_2] 24 (0,0))):=⟨h2_⟩
         replace HB:Aside0 (Below w.heap.size w w35z):=⟨h3_⟩
         clear h0_ h1_ h2_ h3_
         have hHeld:w35z.cell? ⟨gb0z,0,none⟩=some (.bool a0_0)/\w35z.cell? ⟨gb0z,1,none⟩=some (.slice A0_1 l0_1.length c0_1)/\w35z.cell? ⟨gb0z,2,none⟩=some (.int .i64 a0_2)/\w35z.cell? ⟨gb5z,0,none⟩=some (.bool a1_0)/\w35z.cell? ⟨gb5z,1,none⟩=some (.slice A1_1 l1_1.length c1_1)/\w35z.cell? ⟨gb5z,2,none⟩=some (.int .i64 a1_2):=hS_
         refine norm_ (a':=?_) ?_ ?_
         rotate_left
         ·simp only [putAll,Act.put,List.setIfInBounds_toArray,List.set_cons_zero,List.set_cons_succ]
          rfl
         refine two_ (i:=3) (j:=6) (Ni:=some 9) (Nj:=some 5) #[true,true,true,true,false,false,false,false] #[true,true,true,false,false,false,true,false] rfl rfl rfl rfl (Zmp HT_.out (by kernel_rfl)) (by decide) (by decide) (fun K hK=>?_) (fun K hK=>?_)
         ·skip
          refine goes_ Tryz.func18 (by kernel_rfl) rfl #[.agg #[.bool a1_0,.slice A1_1 l1_1.length c1_1,.int .i64 a1_2]] (by rfl) rfl rfl pA ?_
          with_reducible refine (Zn.calls k a1_0 _ _ l1_1 a1_2 t855 t856 t859 _ ?side1 ?side2 A4.o).mono ?_
          (case side1=>exact cB HR1_1 HB)
          (case side2=>exact HC1_1.o)
          rintro e w36z ⟨v37z,rfl,ho25z,hb⟩
          refine ⟨_,rfl,?_⟩
          have HO38z:=am (Kd.Zq (Kd.Zr ho25z (Kd.R_lt (Kd.Za HO26z.o pl))) (Zb pB))
          replace HO26z:=reR HO26z ho25z hb
          replace BK2z:=bb BK2z hb
          replace BK7z:=bb BK7z hb
          replace HB:=bS hb
          refine hK.out _ _ ⟨k0 BK2z 0,k0 BK2z 1,k0 BK2z 2,k0 BK7z 0,k0 BK7z 1,k0 BK7z 2⟩ (fun hHeld=>?_)
          clear hK K
          refine norm_ (a':=?_) ?_ ?_
          rotate_left
          ·show Act.put _ (some 9) _=_
           exact pP
          exact norm_ pT (hJ19z (v24z,v37z) _ ⟨hHeld,(Kd.Za (Kd.Zi HO26z.o (fun _ hk=>hk.2)) pl),(Kd.Za (Kd.Zi HO38z.o (fun _ hk=>hk.2)) pl),(Zc BK2z.o pl),(Zc BK7z.o pl),pB⟩)
         ·skip
          refine Zfn ?hg (N:=5) ?hd (cs:=#[.bool false,.slice none 0 0,.int .i64 0]) (t:=30) ?hr ?_;(case hd=>rfl);(case hg=>rfl);(case hr=>first|(go_simp;done)|(go_simp;rfl))
          intro gb27z hg w36z hbox hb
          have BK28z:=am hbox
          have GW29z:=gW hg
          have GE30z:=gW hg
          have NB31z:=nL hg BK2z
          have NB32z:=nG hg BK2z
          have NB33z:=nL hg BK7z
          have NB34z:=nG hg BK7z
          replace HO26z:=rbl HO26z hb
          replace BK2z:=bb BK2z hb
          replace BK7z:=bb BK7z hb
          replace HB:=bS hb
          clear hb hbox hg
          refine hK.out _ _ ⟨k0 BK2z 0,k0 BK2z 1,k0 BK2z 2,k0 BK7z 0,k0 BK7z 1,k0 BK7z 2⟩ (fun hHeld=>?_)
          clear hK K
          refine norm_ (a':=?_) ?_ ?_
          rotate_left
          ·show Act.put _ (some 5) _=_
           exact pP
          exact norm_ pT (hJ20z (v24z,gb27z) _ ⟨hHeld,(Kd.Za HO26z.o pl),(Zc BK2z.o pl),(Zc BK7z.o pl),(Zc BK28z.o pl),GW29z.o,GE30z.o,NB31z.o,NB32z.o,NB33z.o,NB34z.o,pB⟩)
       ·skip
        rintro ⟨v24z,gb27z⟩ w36z ⟨hS_,h0_,h1_,h2_,h3_,h4_,h5_,h6_,h7_,h8_,h9_,h10_⟩
        have HO26z:Aside0 (Kd.R (Kd.int .i64) 3 w36z w.heap.size (fun _=>True) v24z t851):=⟨h0_⟩
        have BK28z:Aside0 (w36z.heap[gb27z]? = some (.cells #[.bool false,.slice none 0 0,.int .i64 0] 30 (0,0))):=⟨h3_⟩
        have GW29z:Aside0 (w.heap.size<=gb27z):=⟨h4_⟩
        have GE30z:Aside0 (w.heap.size<=gb27z):=⟨h5_⟩
        have NB31z:Aside0 (gb0z ≠ gb27z):=⟨h6_⟩
        have NB32z:Aside0 (gb27z ≠ gb0z):=⟨h7_⟩
        have NB33z:Aside0 (gb5z ≠ gb27z):=⟨h8_⟩
        have NB34z:Aside0 (gb27z ≠ gb5z):=⟨h9_⟩
        replace BK2z:Aside0 (w36z.heap[gb0z]? = some (.cells #[.bool a0_0,.slice A0_1 l0_1.length c0_1,.int .i64 a0_2] 24 (0,0))):=⟨h1_⟩
        replace BK7z:Aside0 (w36z.heap[gb5z]? = some (.cells #[.bool a1_0,.slice A1_1 l1_1.length c1_1,.int .i64 a1_2] 24 (0,0))):=⟨h2_⟩
        replace HB:Aside0 (Below w.heap.size w w36z):=⟨h10_⟩
        clear h0_ h1_ h2_ h3_ h4_ h5_ h6_ h7_ h8_ h9_ h10_
        have hHeld:w36z.cell? ⟨gb0z,0,none⟩=some (.bool a0_0)/\w36z.cell? ⟨gb0z,1,none⟩=some (.slice A0_1 l0_1.length c0_1)/\w36z.cell? ⟨gb0z,2,none⟩=some (.int .i64 a0_2)/\w36z.cell? ⟨gb5z,0,none⟩=some (.bool a1_0)/\w36z.cell? ⟨gb5z,1,none⟩=some (.slice A1_1 l1_1.length c1_1)/\w36z.cell? ⟨gb5z,2,none⟩=some (.int .i64 a1_2):=hS_
        refine norm_ (a':=?_) ?_ ?_
        rotate_left
        ·simp only [putAll,Act.put,List.setIfInBounds_toArray,List.set_cons_zero,List.set_cons_succ]
         rfl
        refine one_ (i:=3) (N:=some 9) #[true,true,true,true,false,false,true,false] rfl rfl (Zbw HT_.out (by kernel_rfl)) (by decide) (fun K hK=>?_)
        refine goes_ Tryz.func18 (by kernel_rfl) rfl #[.agg #[.bool a1_0,.slice A1_1 l1_1.length c1_1,.int .i64 a1_2]] (by rfl) rfl rfl pA ?_
        with_reducible refine (Zn.calls k a1_0 _ _ l1_1 a1_2 t855 t856 t859 _ ?side1 ?side2 A4.o).mono ?_
        (case side1=>exact cB HR1_1 HB)
        (case side2=>exact HC1_1.o)
        rintro e w39z ⟨v37z,rfl,ho25z,hb⟩
        refine ⟨_,rfl,?_⟩
        have HO38z:=am (Kd.Zq (Kd.Zr ho25z (Kd.R_lt (Kd.Za HO26z.o pl))) (Zb pB))
        replace HO26z:=reR HO26z ho25z hb
        replace BK2z:=bb BK2z hb
        replace BK7z:=bb BK7z hb
        replace BK28z:=bb BK28z hb
        replace HB:=bS hb
        refine hK.out _ _ ⟨k0 BK2z 0,k0 BK2z 1,k0 BK2z 2,k0 BK7z 0,k0 BK7z 1,k0 BK7z 2⟩ (fun hHeld=>?_)
        clear hK K
        refine norm_ (a':=?_) ?_ ?_
        rotate_left
        ·show Act.put _ (some 9) _=_
         exact pP
        exact norm_ pT (hJ1_3_6 (v24z,v37z,gb27z) _ ⟨hHeld,(Kd.Za (Kd.Zi HO26z.o (fun _ hk=>hk.2)) pl),(Kd.Za (Kd.Zi HO38z.o (fun _ hk=>hk.2)) pl),(Zc BK2z.o pl),(Zc BK7z.o pl),(Zc BK28z.o pl),GW29z.o,GE30z.o,NB31z.o,NB32z.o,NB33z.o,NB34z.o,pB⟩)
      ·skip
       rintro ⟨v24z,v37z⟩ w36z ⟨hS_,h0_,h1_,h2_,h3_,h4_⟩
       have HO26z:Aside0 (Kd.R (Kd.int .i64) 3 w36z w.heap.size (fun k_=>some k_ ≠ (v37z:Value).ownBlock) v24z t851):=⟨h0_⟩
       have HO38z:Aside0 (Kd.R (Kd.int .i64) 3 w36z w.heap.size (fun k_=>some k_ ≠ (v24z:Value).ownBlock) v37z t856):=⟨h1_⟩
       replace BK2z:Aside0 (w36z.heap[gb0z]? = some (.cells #[.bool a0_0,.slice A0_1 l0_1.length c0_1,.int .i64 a0_2] 24 (0,0))):=⟨h2_⟩
       replace BK7z:Aside0 (w36z.heap[gb5z]? = some (.cells #[.bool a1_0,.slice A1_1 l1_1.length c1_1,.int .i64 a1_2] 24 (0,0))):=⟨h3_⟩
       replace HB:Aside0 (Below w.heap.size w w36z):=⟨h4_⟩
       clear h0_ h1_ h2_ h3_ h4_
       have hHeld:w36z.cell? ⟨gb0z,0,none⟩=some (.bool a0_0)/\w36z.cell? ⟨gb0z,1,none⟩=some (.slice A0_1 l0_1.length c0_1)/\w36z.cell? ⟨gb0z,2,none⟩=some (.int .i64 a0_2)/\w36z.cell? ⟨gb5z,0,none⟩=some (.bool a1_0)/\w36z.cell? ⟨gb5z,1,none⟩=some (.slice A1_1 l1_1.length c1_1)/\w36z.cell? ⟨gb5z,2,none⟩=some (.int .i64 a1_2):=hS_
       obtain ⟨Ao40z,co41z,eo42z⟩:=Kd.Zj HO38z.o
       (first|subst eo42z|(injection eo42z with f1_ f2_ f3_;have f4_:=f1_.symm;have f5_:=f3_.symm;clear f1_ f2_ f3_;subst f4_;subst f5_))
       refine norm_ (a':=?_) ?_ ?_
       rotate_left
       ·simp only [putAll,Act.put,List.setIfInBounds_toArray,List.set_cons_zero,List.set_cons_succ]
        rfl
       refine two_ (i:=4) (j:=6) (Ni:=some 10) (Nj:=some 5) #[true,true,true,true,true,false,false,false] #[true,true,true,true,false,false,true,false] rfl rfl rfl rfl (Zmp HT_.out (by kernel_rfl)) (by decide) (by decide) (fun K hK=>?_) (fun K hK=>?_)
       ·skip
        refine goes_ Tryz.func78 (by kernel_rfl) rfl #[.agg #[.bool t855,.slice Ao40z t856.length co41z,.int .i64 t859]] (by rfl) rfl rfl pA ?_
        with_reducible refine (Za6.calls t855 (fun k_=>some k_=(.slice Ao40z t856.length co41z:Value).ownBlock) (.slice Ao40z t856.length co41z) t856 t859 t860 t861 t864 w _ ?side1 ?side2 A5.o).mono ?_
        (case side1=>exact pB)
        (case side2=>exact Kd.Zbl rfl HO38z.o)
        rintro e w43z ⟨v44z,rfl,ho25z,hb,hkp⟩
        refine ⟨_,rfl,?_⟩
        have HO45z:=am (Kd.Zi (ok':=fun k_=>some k_ ≠ (v24z:Value).ownBlock) ho25z (fun k_ hk_=>Or.elim hk_ (fun hs_=>fun e_=>(((HO26z.o).1 k_ e_.symm)) hs_) (fun hn_=>(Kd.fresh' (Kd.R_lt (Kd.Za HO26z.o pl)) k_ hn_))))
        replace BK2z:=am (Zar (Zc BK2z.o pl) hkp (fun e_=>Kd.R_ne HO38z.o BK2z.o (by decide) e_))
        replace BK7z:=am (Zar (Zc BK7z.o pl) hkp (fun e_=>Kd.R_ne HO38z.o BK7z.o (by decide) e_))
        replace HO26z:=am (Kd.Zi (ok':=fun k_=>some k_ ≠ (v44z:Value).ownBlock) (Kd.Zcc (HO26z.o) hkp (fun k_ hk_ hs_=>(hk_) hs_)) (fun k_ hk_=>fun e_=>Or.elim (ho25z.1 k_ e_.symm) (fun hs_=>hk_.2.1 hs_) (fun hn_=>Nat.not_le.2 hk_.2.2 hn_)))
        replace HB:=am hb
        clear HO38z
        refine hK.out _ _ ⟨k0 BK2z 0,k0 BK2z 1,k0 BK2z 2,k0 BK7z 0,k0 BK7z 1,k0 BK7z 2⟩ (fun hHeld=>?_)
        clear hK K
        refine norm_ (a':=?_) ?_ ?_
        rotate_left
        ·show Act.put _ (some 10) _=_
         exact pP
        exact norm_ pT (hJ1_3_4 (v24z,.slice Ao40z t856.length co41z,v44z) _ ⟨hHeld,(Kd.Za HO26z.o pl),(Kd.Za HO45z.o pl),(Zc BK2z.o pl),(Zc BK7z.o pl),pB⟩)
       ·skip
        refine Zfn ?hg (N:=5) ?hd (cs:=#[.bool false,.slice none 0 0,.int .i64 0]) (t:=30) ?hr ?_;(case hd=>rfl);(case hg=>rfl);(case hr=>first|(go_simp;done)|(go_simp;rfl))
        intro gb27z hg w39z hbox hb
        have BK28z:=am hbox
        have GW29z:=gW hg
        have GE30z:=gW hg
        have NB31z:=nL hg BK2z
        have NB32z:=nG hg BK2z
        have NB33z:=nL hg BK7z
        have NB34z:=nG hg BK7z
        replace HO26z:=rbl HO26z hb
        replace HO38z:=rbl HO38z hb
        replace BK2z:=bb BK2z hb
        replace BK7z:=bb BK7z hb
        replace HB:=bS hb
        clear hb hbox hg
        refine hK.out _ _ ⟨k0 BK2z 0,k0 BK2z 1,k0 BK2z 2,k0 BK7z 0,k0 BK7z 1,k0 BK7z 2⟩ (fun hHeld=>?_)
        clear hK K
        refine norm_ (a':=?_) ?_ ?_
        rotate_left
        ·show Act.put _ (some 5) _=_
         exact pP
        exact norm_ pT (hJ1_3_6 (v24z,(.slice Ao40z t856.length co41z:Value),gb27z) _ ⟨hHeld,(Kd.Za HO26z.o pl),(Kd.Za HO38z.o pl),(Zc BK2z.o pl),(Zc BK7z.o pl),(Zc BK28z.o pl),GW29z.o,GE30z.o,NB31z.o,NB32z.o,NB33z.o,NB34z.o,pB⟩)
     ·skip
      rintro ⟨v24z,v37z,gb27z⟩ w39z ⟨hS_,h0_,h1_,h2_,h3_,h4_,h5_,h6_,h7_,h8_,h9_,h10_,h11_⟩
      have HO26z:Aside0 (Kd.R (Kd.int .i64) 3 w39z w.heap.size (fun k_=>some k_ ≠ (v37z:Value).ownBlock) v24z t851):=⟨h0_⟩
      have HO38z:Aside0 (Kd.R (Kd.int .i64) 3 w39z w.heap.size (fun k_=>some k_ ≠ (v24z:Value).ownBlock) v37z t856):=⟨h1_⟩
      have BK28z:Aside0 (w39z.heap[gb27z]? = some (.cells #[.bool false,.slice none 0 0,.int .i64 0] 30 (0,0))):=⟨h4_⟩
      have GW29z:Aside0 (w.heap.size<=gb27z):=⟨h5_⟩
      have GE30z:Aside0 (w.heap.size<=gb27z):=⟨h6_⟩
      have NB31z:Aside0 (gb0z ≠ gb27z):=⟨h7_⟩
      have NB32z:Aside0 (gb27z ≠ gb0z):=⟨h8_⟩
      have NB33z:Aside0 (gb5z ≠ gb27z):=⟨h9_⟩
      have NB34z:Aside0 (gb27z ≠ gb5z):=⟨h10_⟩
      replace BK2z:Aside0 (w39z.heap[gb0z]? = some (.cells #[.bool a0_0,.slice A0_1 l0_1.length c0_1,.int .i64 a0_2] 24 (0,0))):=⟨h2_⟩
      replace BK7z:Aside0 (w39z.heap[gb5z]? = some (.cells #[.bool a1_0,.slice A1_1 l1_1.length c1_1,.int .i64 a1_2] 24 (0,0))):=⟨h3_⟩
      replace HB:Aside0 (Below w.heap.size w w39z):=⟨h11_⟩
      clear h0_ h1_ h2_ h3_ h4_ h5_ h6_ h7_ h8_ h9_ h10_ h11_
      have hHeld:w39z.cell? ⟨gb0z,0,none⟩=some (.bool a0_0)/\w39z.cell? ⟨gb0z,1,none⟩=some (.slice A0_1 l0_1.length c0_1)/\w39z.cell? ⟨gb0z,2,none⟩=some (.int .i64 a0_2)/\w39z.cell? ⟨gb5z,0,none⟩=some (.bool a1_0)/\w39z.cell? ⟨gb5z,1,none⟩=some (.slice A1_1 l1_1.length c1_1)/\w39z.cell? ⟨gb5z,2,none⟩=some (.int .i64 a1_2):=hS_
      obtain ⟨Ao46z,co47z,eo48z⟩:=Kd.Zj HO38z.o
      (first|subst eo48z|(injection eo48z with f1_ f2_ f3_;have f4_:=f1_.symm;have f5_:=f3_.symm;clear f1_ f2_ f3_;subst f4_;subst f5_))
      refine norm_ (a':=?_) ?_ ?_
      rotate_left
      ·simp only [putAll,Act.put,List.setIfInBounds_toArray,List.set_cons_zero,List.set_cons_succ]
       rfl
      refine one_ (i:=4) (N:=some 10) #[true,true,true,true,true,false,true,false] rfl rfl (Zbw HT_.out (by kernel_rfl)) (by decide) (fun K hK=>?_)
      refine goes_ Tryz.func78 (by kernel_rfl) rfl #[.agg #[.bool t855,.slice Ao46z t856.length co47z,.int .i64 t859]] (by rfl) rfl rfl pA ?_
      with_reducible refine (Za6.calls t855 (fun k_=>some k_=(.slice Ao46z t856.length co47z:Value).ownBlock) (.slice Ao46z t856.length co47z) t856 t859 t860 t861 t864 w _ ?side1 ?side2 A5.o).mono ?_
      (case side1=>exact pB)
      (case side2=>exact Kd.Zbl rfl HO38z.o)
      rintro e w49z ⟨v44z,rfl,ho25z,hb,hkp⟩
      refine ⟨_,rfl,?_⟩
      have HO45z:=am (Kd.Zi (ok':=fun k_=>some k_ ≠ (v24z:Value).ownBlock) ho25z (fun k_ hk_=>Or.elim hk_ (fun hs_=>fun e_=>(((HO26z.o).1 k_ e_.symm)) hs_) (fun hn_=>(Kd.fresh' (Kd.R_lt (Kd.Za HO26z.o pl)) k_ hn_))))
      replace BK2z:=am (Zar (Zc BK2z.o pl) hkp (fun e_=>Kd.R_ne HO38z.o BK2z.o (by decide) e_))
      replace BK7z:=am (Zar (Zc BK7z.o pl) hkp (fun e_=>Kd.R_ne HO38z.o BK7z.o (by decide) e_))
      replace HO26z:=am (Kd.Zi (ok':=fun k_=>some k_ ≠ (v44z:Value).ownBlock) (Kd.Zcc (HO26z.o) hkp (fun k_ hk_ hs_=>(hk_) hs_)) (fun k_ hk_=>fun e_=>Or.elim (ho25z.1 k_ e_.symm) (fun hs_=>hk_.2.1 hs_) (fun hn_=>Nat.not_le.2 hk_.2.2 hn_)))
      replace BK28z:=am (Zar (Zc BK28z.o pl) hkp (fun e_=>Kd.R_ne HO38z.o BK28z.o (by decide) e_))
      replace HB:=am hb
      clear HO38z
      refine hK.out _ _ ⟨k0 BK2z 0,k0 BK2z 1,k0 BK2z 2,k0 BK7z 0,k0 BK7z 1,k0 BK7z 2⟩ (fun hHeld=>?_)
      clear hK K
      refine norm_ (a':=?_) ?_ ?_
      rotate_left
      ·show Act.put _ (some 10) _=_
       exact pP
      exact norm_ pT (hJ1_3_4_6 (v24z,.slice Ao46z t856.length co47z,v44z,gb27z) _ ⟨hHeld,(Kd.Za HO26z.o pl),(Kd.Za HO45z.o pl),(Zc BK2z.o pl),(Zc BK7z.o pl),(Zc BK28z.o pl),GW29z.o,GE30z.o,NB31z.o,NB32z.o,NB33z.o,NB34z.o,pB⟩)
    ·skip
     rintro ⟨v24z,v37z,v44z⟩ w43z ⟨hS_,h0_,h1_,h2_,h3_,h4_⟩
     have HO26z:Aside0 (Kd.R (Kd.int .i64) 3 w43z w.heap.size (fun k_=>some k_ ≠ (v44z:Value).ownBlock) v24z t851):=⟨h0_⟩
     have HO45z:Aside0 (Kd.R (Kd.int .i64) 3 w43z w.heap.size (fun k_=>some k_ ≠ (v24z:Value).ownBlock) v44z t861):=⟨h1_⟩
     replace BK2z:Aside0 (w43z.heap[gb0z]? = some (.cells #[.bool a0_0,.slice A0_1 l0_1.length c0_1,.int .i64 a0_2] 24 (0,0))):=⟨h2_⟩
     replace BK7z:Aside0 (w43z.heap[gb5z]? = some (.cells #[.bool a1_0,.slice A1_1 l1_1.length c1_1,.int .i64 a1_2] 24 (0,0))):=⟨h3_⟩
     replace HB:Aside0 (Below w.heap.size w w43z):=⟨h4_⟩
     clear h0_ h1_ h2_ h3_ h4_
     have hHeld:w43z.cell? ⟨gb0z,0,none⟩=some (.bool a0_0)/\w43z.cell? ⟨gb0z,1,none⟩=some (.slice A0_1 l0_1.length c0_1)/\w43z.cell? ⟨gb0z,2,none⟩=some (.int .i64 a0_2)/\w43z.cell? ⟨gb5z,0,none⟩=some (.bool a1_0)/\w43z.cell? ⟨gb5z,1,none⟩=some (.slice A1_1 l1_1.length c1_1)/\w43z.cell? ⟨gb5z,2,none⟩=some (.int .i64 a1_2):=hS_
     obtain ⟨Ao50z,co51z,eo52z⟩:=Kd.Zj HO26z.o
     (first|subst eo52z|(injection eo52z with f1_ f2_ f3_;have f4_:=f1_.symm;have f5_:=f3_.symm;clear f1_ f2_ f3_;subst f4_;subst f5_))
     obtain ⟨Ao53z,co54z,eo55z⟩:=Kd.Zj HO45z.o
     (first|subst eo55z|(injection eo55z with f1_ f2_ f3_;have f4_:=f1_.symm;have f5_:=f3_.symm;clear f1_ f2_ f3_;subst f4_;subst f5_))
     refine norm_ (a':=?_) ?_ ?_
     rotate_left
     ·simp only [putAll,Act.put,List.setIfInBounds_toArray,List.set_cons_zero,List.set_cons_succ]
      rfl
     refine two_ (i:=5) (j:=6) (Ni:=some 11) (Nj:=some 5) #[true,true,true,true,true,true,false,false] #[true,true,true,true,true,false,true,false] rfl rfl rfl rfl (Zmp HT_.out (by kernel_rfl)) (by decide) (by decide) (fun K hK=>?_) (fun K hK=>?_)
     ·skip
      refine goes_ Tryz.func77 (by kernel_rfl) rfl #[.agg #[.bool t850,.slice Ao50z t851.length co51z,.int .i64 t854],.agg #[.bool t860,.slice Ao53z t861.length co54z,.int .i64 t864]] (by rfl) rfl rfl pA ?_
      first|(have q_:((t866.length:Int) != 0)=false:=c7b1;with_reducible refine (Zaf.calls k t850 _ _ t851 t854 t860 _ _ t861 t864 t865 t866 t869 _ ?side1 ?side2 ?side3 ?side4 A6.o).mono ?_)|(have q_:Aside0 (_=some (true,_,_)):=A6;have q_:¬ (t866=[]):=c7b2;with_reducible refine (Zaf.calls k t850 _ _ t851 t854 t860 _ _ t861 t864 true t866 t869 _ ?side1 ?side2 ?side3 ?side4 A6.o).mono ?_)|(have q_:Aside0 (_=some (false,_,_)):=A6;have q_:¬ (t866=[]):=c7b2;with_reducible refine (Zaf.calls k t850 _ _ t851 t854 t860 _ _ t861 t864 false t866 t869 _ ?side1 ?side2 ?side3 ?side4 A6.o).mono ?_)
      (case side1=>exact Kd.Zx (Kd.Zd HO26z.o).2.2 pl)
      (case side2=>exact (Kd.Zd HO26z.o).2.1)
      (case side3=>exact Kd.Zx (Kd.Zd HO45z.o).2.2 pl)
      (case side4=>exact (Kd.Zd HO45z.o).2.1)
      rintro e w56z ⟨v57z,rfl,ho25z,hb⟩
      refine ⟨_,rfl,?_⟩
      have HO58z:=am (Kd.Zq (Kd.Zr (Kd.Zr ho25z (Kd.R_lt (Kd.Za HO26z.o pl))) (Kd.R_lt (Kd.Za HO45z.o pl))) (Zb pB))
      replace HO26z:=reR HO26z ho25z hb
      replace HO45z:=reR HO45z ho25z hb
      replace BK2z:=bb BK2z hb
      replace BK7z:=bb BK7z hb
      replace HB:=bS hb
      refine hK.out _ _ ⟨k0 BK2z 0,k0 BK2z 1,k0 BK2z 2,k0 BK7z 0,k0 BK7z 1,k0 BK7z 2⟩ (fun hHeld=>?_)
      clear hK K
      refine norm_ (a':=?_) ?_ ?_
      rotate_left
      ·show Act.put _ (some 11) _=_
       exact pP
      exact norm_ pT (hJ1_3_4_5 (.slice Ao50z t851.length co51z,v37z,.slice Ao53z t861.length co54z,v57z) _ ⟨hHeld,(Kd.Za HO26z.o pl),(Kd.Za HO45z.o pl),(Kd.Za (Kd.Zi HO58z.o (fun _ hk=>⟨hk.1.2,hk.2⟩)) pl),(Zc BK2z.o pl),(Zc BK7z.o pl),pB⟩)
     ·skip
      refine Zfn ?hg (N:=5) ?hd (cs:=#[.bool false,.slice none 0 0,.int .i64 0]) (t:=30) ?hr ?_;(case hd=>rfl);(case hg=>rfl);(case hr=>first|(go_simp;done)|(go_simp;rfl))
      intro gb27z hg w49z hbox hb
      have BK28z:=am hbox
      have GW29z:=gW hg
      have GE30z:=gW hg
      have NB31z:=nL hg BK2z
      have NB32z:=nG hg BK2z
      have NB33z:=nL hg BK7z
      have NB34z:=nG hg BK7z
      replace HO26z:=rbl HO26z hb
      replace HO45z:=rbl HO45z hb
      replace BK2z:=bb BK2z hb
      replace BK7z:=bb BK7z hb
      replace HB:=bS hb
      clear hb hbox hg
      refine hK.out _ _ ⟨k0 BK2z 0,k0 BK2z 1,k0 BK2z 2,k0 BK7z 0,k0 BK7z 1,k0 BK7z 2⟩ (fun hHeld=>?_)
      clear hK K
      refine norm_ (a':=?_) ?_ ?_
      rotate_left
      ·show Act.put _ (some 5) _=_
       exact pP
      exact norm_ pT (hJ1_3_4_6 ((.slice Ao50z t851.length co51z:Value),v37z,(.slice Ao53z t861.length co54z:Value),gb27z) _ ⟨hHeld,(Kd.Za HO26z.o pl),(Kd.Za HO45z.o pl),(Zc BK2z.o pl),(Zc BK7z.o pl),(Zc BK28z.o pl),GW29z.o,GE30z.o,NB31z.o,NB32z.o,NB33z.o,NB34z.o,pB⟩)
   ·skip
    rintro ⟨v24z,v37z,v44z,gb27z⟩ w49z ⟨hS_,h0_,h1_,h2_,h3_,h4_,h5_,h6_,h7_,h8_,h9_,h10_,h11_⟩
    have HO26z:Aside0 (Kd.R (Kd.int .i64) 3 w49z w.heap.size (fun k_=>some k_ ≠ (v44z:Value).ownBlock) v24z t851):=⟨h0_⟩
    have HO45z:Aside0 (Kd.R (Kd.int .i64) 3 w49z w.heap.size (fun k_=>some k_ ≠ (v24z:Value).ownBlock) v44z t861):=⟨h1_⟩
    have BK28z:Aside0 (w49z.heap[gb27z]? = some (.cells #[.bool false,.slice none 0 0,.int .i64 0] 30 (0,0))):=⟨h4_⟩
    have GW29z:Aside0 (w.heap.size<=gb27z):=⟨h5_⟩
    have GE30z:Aside0 (w.heap.size<=gb27z):=⟨h6_⟩
    have NB31z:Aside0 (gb0z ≠ gb27z):=⟨h7_⟩
    have NB32z:Aside0 (gb27z ≠ gb0z):=⟨h8_⟩
    have NB33z:Aside0 (gb5z ≠ gb27z):=⟨h9_⟩
    have NB34z:Aside0 (gb27z ≠ gb5z):=⟨h10_⟩
    replace BK2z:Aside0 (w49z.heap[gb0z]? = some (.cells #[.bool a0_0,.slice A0_1 l0_1.length c0_1,.int .i64 a0_2] 24 (0,0))):=⟨h2_⟩
    replace BK7z:Aside0 (w49z.heap[gb5z]? = some (.cells #[.bool a1_0,.slice A1_1 l1_1.length c1_1,.int .i64 a1_2] 24 (0,0))):=⟨h3_⟩
    replace HB:Aside0 (Below w.heap.size w w49z):=⟨h11_⟩
    clear h0_ h1_ h2_ h3_ h4_ h5_ h6_ h7_ h8_ h9_ h10_ h11_
    have hHeld:w49z.cell? ⟨gb0z,0,none⟩=some (.bool a0_0)/\w49z.cell? ⟨gb0z,1,none⟩=some (.slice A0_1 l0_1.length c0_1)/\w49z.cell? ⟨gb0z,2,none⟩=some (.int .i64 a0_2)/\w49z.cell? ⟨gb5z,0,none⟩=some (.bool a1_0)/\w49z.cell? ⟨gb5z,1,none⟩=some (.slice A1_1 l1_1.length c1_1)/\w49z.cell? ⟨gb5z,2,none⟩=some (.int .i64 a1_2):=hS_
    obtain ⟨Ao53z,co54z,eo55z⟩:=Kd.Zj HO26z.o
    (first|subst eo55z|(injection eo55z with f1_ f2_ f3_;have f4_:=f1_.symm;have f5_:=f3_.symm;clear f1_ f2_ f3_;subst f4_;subst f5_))
    obtain ⟨Ao59z,co60z,eo61z⟩:=Kd.Zj HO45z.o
    (first|subst eo61z|(injection eo61z with f1_ f2_ f3_;have f4_:=f1_.symm;have f5_:=f3_.symm;clear f1_ f2_ f3_;subst f4_;subst f5_))
    refine norm_ (a':=?_) ?_ ?_
    rotate_left
    ·simp only [putAll,Act.put,List.setIfInBounds_toArray,List.set_cons_zero,List.set_cons_succ]
     rfl
    refine one_ (i:=5) (N:=some 11) #[true,true,true,true,true,true,true,false] rfl rfl (Zbw HT_.out (by kernel_rfl)) (by decide) (fun K hK=>?_)
    refine goes_ Tryz.func77 (by kernel_rfl) rfl #[.agg #[.bool t850,.slice Ao53z t851.length co54z,.int .i64 t854],.agg #[.bool t860,.slice Ao59z t861.length co60z,.int .i64 t864]] (by rfl) rfl rfl pA ?_
    first|(have q_:((t866.length:Int) != 0)=false:=c7b1;with_reducible refine (Zaf.calls k t850 _ _ t851 t854 t860 _ _ t861 t864 t865 t866 t869 _ ?side1 ?side2 ?side3 ?side4 A6.o).mono ?_)|(have q_:Aside0 (_=some (true,_,_)):=A6;have q_:¬ (t866=[]):=c7b2;with_reducible refine (Zaf.calls k t850 _ _ t851 t854 t860 _ _ t861 t864 true t866 t869 _ ?side1 ?side2 ?side3 ?side4 A6.o).mono ?_)|(have q_:Aside0 (_=some (false,_,_)):=A6;have q_:¬ (t866=[]):=c7b2;with_reducible refine (Zaf.calls k t850 _ _ t851 t854 t860 _ _ t861 t864 false t866 t869 _ ?side1 ?side2 ?side3 ?side4 A6.o).mono ?_)
    (case side1=>exact Kd.Zx (Kd.Zd HO26z.o).2.2 pl)
    (case side2=>exact (Kd.Zd HO26z.o).2.1)
    (case side3=>exact Kd.Zx (Kd.Zd HO45z.o).2.2 pl)
    (case side4=>exact (Kd.Zd HO45z.o).2.1)
    rintro e w62z ⟨v57z,rfl,ho25z,hb⟩
    refine ⟨_,rfl,?_⟩
    have HO58z:=am (Kd.Zq (Kd.Zr (Kd.Zr ho25z (Kd.R_lt (Kd.Za HO26z.o pl))) (Kd.R_lt (Kd.Za HO45z.o pl))) (Zb pB))
    replace HO26z:=reR HO26z ho25z hb
    replace HO45z:=reR HO45z ho25z hb
    replace BK2z:=bb BK2z hb
    replace BK7z:=bb BK7z hb
    replace BK28z:=bb BK28z hb
    replace HB:=bS hb
    refine hK.out _ _ ⟨k0 BK2z 0,k0 BK2z 1,k0 BK2z 2,k0 BK7z 0,k0 BK7z 1,k0 BK7z 2⟩ (fun hHeld=>?_)
    clear hK K
    refine norm_ (a':=?_) ?_ ?_
    rotate_left
    ·show Act.put _ (some 11) _=_
     exact pP
    exact norm_ pT (hJ1_3_4_5_6 (.slice Ao53z t851.length co54z,v37z,.slice Ao59z t861.length co60z,v57z,gb27z) _ ⟨hHeld,(Kd.Za HO26z.o pl),(Kd.Za HO45z.o pl),(Kd.Za (Kd.Zi HO58z.o (fun _ hk=>⟨hk.1.2,hk.2⟩)) pl),(Zc BK2z.o pl),(Zc BK7z.o pl),(Zc BK28z.o pl),GW29z.o,GE30z.o,NB31z.o,NB32z.o,NB33z.o,NB34z.o,pB⟩)
  ·skip
   rintro ⟨v24z,v37z,v44z,v57z⟩ w56z ⟨hS_,h0_,h1_,h2_,h3_,h4_,h5_⟩
   have HO26z:Aside0 (Kd.R (Kd.int .i64) 3 w56z w.heap.size (fun k_=>some k_ ≠ (v44z:Value).ownBlock/\some k_ ≠ (v57z:Value).ownBlock) v24z t851):=⟨h0_⟩
   have HO45z:Aside0 (Kd.R (Kd.int .i64) 3 w56z w.heap.size (fun k_=>some k_ ≠ (v24z:Value).ownBlock/\some k_ ≠ (v57z:Value).ownBlock) v44z t861):=⟨h1_⟩
   have HO58z:Aside0 (Kd.R (Kd.int .i64) 3 w56z w.heap.size (fun k_=>some k_ ≠ (v24z:Value).ownBlock/\some k_ ≠ (v44z:Value).ownBlock) v57z t866):=⟨h2_⟩
   replace BK2z:Aside0 (w56z.heap[gb0z]? = some (.cells #[.bool a0_0,.slice A0_1 l0_1.length c0_1,.int .i64 a0_2] 24 (0,0))):=⟨h3_⟩
   replace BK7z:Aside0 (w56z.heap[gb5z]? = some (.cells #[.bool a1_0,.slice A1_1 l1_1.length c1_1,.int .i64 a1_2] 24 (0,0))):=⟨h4_⟩
   replace HB:Aside0 (Below w.heap.size w w56z):=⟨h5_⟩
   clear h0_ h1_ h2_ h3_ h4_ h5_
   have hHeld:w56z.cell? ⟨gb0z,0,none⟩=some (.bool a0_0)/\w56z.cell? ⟨gb0z,1,none⟩=some (.slice A0_1 l0_1.length c0_1)/\w56z.cell? ⟨gb0z,2,none⟩=some (.int .i64 a0_2)/\w56z.cell? ⟨gb5z,0,none⟩=some (.bool a1_0)/\w56z.cell? ⟨gb5z,1,none⟩=some (.slice A1_1 l1_1.length c1_1)/\w56z.cell? ⟨gb5z,2,none⟩=some (.int .i64 a1_2):=hS_
   refine norm_ (a':=?_) ?_ ?_
   rotate_left
   ·simp only [putAll,Act.put,List.setIfInBounds_toArray,List.set_cons_zero,List.set_cons_succ]
    rfl
   refine one_ (i:=6) (N:=some 5) #[true,true,true,true,true,true,true,false] rfl rfl (Zbw HT_.out (by kernel_rfl)) (by decide) (fun K hK=>?_)
   refine Zfn ?hg (N:=5) ?hd (cs:=#[.bool false,.slice none 0 0,.int .i64 0]) (t:=30) ?hr ?_;(case hd=>rfl);(case hg=>rfl);(case hr=>first|(go_simp;done)|(go_simp;rfl))
   intro gb27z hg w62z hbox hb
   have BK28z:=am hbox
   have GW29z:=gW hg
   have GE30z:=gW hg
   have NB31z:=nL hg BK2z
   have NB32z:=nG hg BK2z
   have NB33z:=nL hg BK7z
   have NB34z:=nG hg BK7z
   replace HO26z:=rbl HO26z hb
   replace HO45z:=rbl HO45z hb
   replace HO58z:=rbl HO58z hb
   replace BK2z:=bb BK2z hb
   replace BK7z:=bb BK7z hb
   replace HB:=bS hb
   clear hb hbox hg
   refine hK.out _ _ ⟨k0 BK2z 0,k0 BK2z 1,k0 BK2z 2,k0 BK7z 0,k0 BK7z 1,k0 BK7z 2⟩ (fun hHeld=>?_)
   clear hK K
   refine norm_ (a':=?_) ?_ ?_
   rotate_left
   ·show Act.put _ (some 5) _=_
    exact pP
   exact norm_ pT (hJ1_3_4_5_6 (v24z,v37z,v44z,v57z,gb27z) _ ⟨hHeld,(Kd.Za HO26z.o pl),(Kd.Za HO45z.o pl),(Kd.Za HO58z.o pl),(Zc BK2z.o pl),(Zc BK7z.o pl),(Zc BK28z.o pl),GW29z.o,GE30z.o,NB31z.o,NB32z.o,NB33z.o,NB34z.o,pB⟩)
 rintro ⟨v24z,v37z,v44z,v57z,gb27z⟩ w62z ⟨hS_,h0_,h1_,h2_,h3_,h4_,h5_,h6_,h7_,h8_,h9_,h10_,h11_,h12_⟩
 have HO26z:Aside0 (Kd.R (Kd.int .i64) 3 w62z w.heap.size (fun k_=>some k_ ≠ (v44z:Value).ownBlock/\some k_ ≠ (v57z:Value).ownBlock) v24z t851):=⟨h0_⟩
 have HO45z:Aside0 (Kd.R (Kd.int .i64) 3 w62z w.heap.size (fun k_=>some k_ ≠ (v24z:Value).ownBlock/\some k_ ≠ (v57z:Value).ownBlock) v44z t861):=⟨h1_⟩
 have HO58z:Aside0 (Kd.R (Kd.int .i64) 3 w62z w.heap.size (fun k_=>some k_ ≠ (v24z:Value).ownBlock/\some k_ ≠ (v44z:Value).ownBlock) v57z t866):=⟨h2_⟩
 have BK28z:Aside0 (w62z.heap[gb27z]? = some (.cells #[.bool false,.slice none 0 0,.int .i64 0] 30 (0,0))):=⟨h5_⟩
 have GW29z:Aside0 (w.heap.size<=gb27z):=⟨h6_⟩
 have GE30z:Aside0 (w.heap.size<=gb27z):=⟨h7_⟩
 have NB31z:Aside0 (gb0z ≠ gb27z):=⟨h8_⟩
 have NB32z:Aside0 (gb27z ≠ gb0z):=⟨h9_⟩
 have NB33z:Aside0 (gb5z ≠ gb27z):=⟨h10_⟩
 have NB34z:Aside0 (gb27z ≠ gb5z):=⟨h11_⟩
 replace BK2z:Aside0 (w62z.heap[gb0z]? = some (.cells #[.bool a0_0,.slice A0_1 l0_1.length c0_1,.int .i64 a0_2] 24 (0,0))):=⟨h3_⟩
 replace BK7z:Aside0 (w62z.heap[gb5z]? = some (.cells #[.bool a1_0,.slice A1_1 l1_1.length c1_1,.int .i64 a1_2] 24 (0,0))):=⟨h4_⟩
 replace HB:Aside0 (Below w.heap.size w w62z):=⟨h12_⟩
 clear h0_ h1_ h2_ h3_ h4_ h5_ h6_ h7_ h8_ h9_ h10_ h11_ h12_
 have hHeld:w62z.cell? ⟨gb0z,0,none⟩=some (.bool a0_0)/\w62z.cell? ⟨gb0z,1,none⟩=some (.slice A0_1 l0_1.length c0_1)/\w62z.cell? ⟨gb0z,2,none⟩=some (.int .i64 a0_2)/\w62z.cell? ⟨gb5z,0,none⟩=some (.bool a1_0)/\w62z.cell? ⟨gb5z,1,none⟩=some (.slice A1_1 l1_1.length c1_1)/\w62z.cell? ⟨gb5z,2,none⟩=some (.int .i64 a1_2):=hS_
 obtain ⟨Ao63z,co64z,eo65z⟩:=Kd.Zj HO58z.o
 (first|subst eo65z|(injection eo65z with f1_ f2_ f3_;have f4_:=f1_.symm;have f5_:=f3_.symm;clear f1_ f2_ f3_;subst f4_;subst f5_))
 refine norm_ (a':=?_) ?_ ?_
 rotate_left
 ·simp only [putAll,Act.put,List.setIfInBounds_toArray,List.set_cons_zero,List.set_cons_succ]
  rfl
 refine one_ (i:=7) (N:=none) #[true,true,true,true,true,true,true,true] rfl rfl (Zbw HT_.out (by kernel_rfl)) (by decide) (fun K hK=>?_)
 have hs66z:w62z.cell? ⟨gb27z,0,none⟩=some (.bool false):=k0 BK28z 0
 have hfs67z:=Zau BK28z.o 0
 have hns68z:=NB31z.o
 have hns69z:=NB33z.o
 have hms70z:=NB32z.o
 have hms71z:=NB34z.o
 have hs72z:w62z.cell? ⟨gb27z,1,none⟩=some (.slice none 0 0):=k0 BK28z 1
 have hfs73z:=Zau BK28z.o 1
 have hns74z:=NB31z.o
 have hns75z:=NB33z.o
 have hms76z:=NB32z.o
 have hms77z:=NB34z.o
 have hs78z:w62z.cell? ⟨gb27z,2,none⟩=some (.int .i64 0):=k0 BK28z 2
 have hfs79z:=Zau BK28z.o 2
 have hns80z:=NB31z.o
 have hns81z:=NB33z.o
 have hms82z:=NB32z.o
 have hms83z:=NB34z.o
 refine skip_ (w1:=?_) (by rfl) rfl ?_ ?_
 rotate_left
 ·go_simp
  rfl
 refine hK.out _ _ ⟨((cell_far (p:=⟨gb27z,_,none⟩) NB31z.o _).trans (((cell_far (p:=⟨gb27z,_,none⟩) NB31z.o _).trans (((cell_far (p:=⟨gb27z,_,none⟩) NB31z.o _).trans (hHeld.1)))))),((cell_far (p:=⟨gb27z,_,none⟩) NB31z.o _).trans (((cell_far (p:=⟨gb27z,_,none⟩) NB31z.o _).trans (((cell_far (p:=⟨gb27z,_,none⟩) NB31z.o _).trans (hHeld.2.1)))))),((cell_far (p:=⟨gb27z,_,none⟩) NB31z.o _).trans (((cell_far (p:=⟨gb27z,_,none⟩) NB31z.o _).trans (((cell_far (p:=⟨gb27z,_,none⟩) NB31z.o _).trans (hHeld.2.2.1)))))),((cell_far (p:=⟨gb27z,_,none⟩) NB33z.o _).trans (((cell_far (p:=⟨gb27z,_,none⟩) NB33z.o _).trans (((cell_far (p:=⟨gb27z,_,none⟩) NB33z.o _).trans (hHeld.2.2.2.1)))))),((cell_far (p:=⟨gb27z,_,none⟩) NB33z.o _).trans (((cell_far (p:=⟨gb27z,_,none⟩) NB33z.o _).trans (((cell_far (p:=⟨gb27z,_,none⟩) NB33z.o _).trans (hHeld.2.2.2.2.1)))))),((cell_far (p:=⟨gb27z,_,none⟩) NB33z.o _).trans (((cell_far (p:=⟨gb27z,_,none⟩) NB33z.o _).trans (((cell_far (p:=⟨gb27z,_,none⟩) NB33z.o _).trans (hHeld.2.2.2.2.2))))))⟩ (fun hHeld=>?_)
 clear hK K
 refine done_ (Zdl HT_.out (by kernel_rfl)) ?_
 have hnb84z:=NB32z.o
 have hnc85z:=NB31z.o
 have hnb86z:=NB34z.o
 have hnc87z:=NB33z.o
 obtain ⟨_,_,_,_,_,_⟩:=cEc BK28z.o
 try go_wp2
 go_ret
 exact ⟨pE,pB⟩):P:=h
theorem Zai.calls (k:Nat) (a0_0:Bool) (A0_1:Option Addr) (c0_1:Nat) (l0_1:List Int) (a0_2:Int) (a1_0:Bool) (A1_1:Option Addr) (c1_1:Nat) (l1_1:List Int) (a1_2:Int) (r:Int) (w:World) (hr0_1:Kd.C (Kd.int .u32) w A0_1 l0_1.length l0_1) (hc0_1:l0_1.length<=c0_1) (hr1_1:Kd.C (Kd.int .u32) w A1_1 l1_1.length l1_1) (hc1_1:l1_1.length<=c1_1) (h:Zai.f k a0_0 l0_1 a0_2 a1_0 l1_1 a1_2=some r) :
  Calls Tryz.prog 81 #[.agg #[.bool a0_0,.slice A0_1 l0_1.length c0_1,.int .i64 a0_2],.agg #[.bool a1_0,.slice A1_1 l1_1.length c1_1,.int .i64 a1_2]] w fun e w'=>e=.returned (.int .i64 r)/\Below w.heap.size w w':=by
 have hu24:=Tryz.underlying24
 have hu30:=Tryz.underlying30
 have HR0_1:=am hr0_1
 have HC0_1:=am hc0_1
 clear hr0_1 hc0_1
 have HR1_1:=am hr1_1
 have HC1_1:=am hc1_1
 clear hr1_1 hc1_1
 have HB:=am (Below.refl w.heap.size w)
 have H:((Zn.f k a0_0 l0_1 a0_2).bind fun bt850=>((Zn.f k a1_0 l1_1 a1_2).bind fun bt855=>((Za6.f bt855.1 bt855.2.1 bt855.2.2).bind fun bt860=>((Zaf.f k bt850.1 bt850.2.1 bt850.2.2 bt860.1 bt860.2.1 bt860.2.2).bind fun bt865=>(if (bt865.2.1.length:Int)=0 then (some 0) else (if bt865.1=true then (some (-1)) else (some 1)))))))=some r:=h
 clear h
 obtain ⟨⟨t850,t851,t854⟩,A3,H⟩:=ob H;(try dsimp only at H)
 obtain ⟨⟨t855,t856,t859⟩,A4,H⟩:=ob H;(try dsimp only at H)
 obtain ⟨⟨t860,t861,t864⟩,A5,H⟩:=ob H;(try dsimp only at H)
 obtain ⟨⟨t865,t866,t869⟩,A6,H⟩:=ob H;(try dsimp only at H)
 by_cases c7:(t866.length:Int)=0
 ·rw [if_pos c7] at H
  have c7b0:((t866.length:Int) == 0)=true:=beq_iff_eq.mpr c7
  have c7b1:((t866.length:Int) != 0)=false:=bne_eq_false_iff_eq.mpr c7
  clear c7
  obtain rfl:=Option.some.inj H
  exact Zai.leaf
 ·rw [if_neg c7] at H
  have c7b0:((t866.length:Int) == 0)=false:=beq_eq_false_iff_ne.mpr c7
  have c7b1:((t866.length:Int) != 0)=true:=bne_iff_ne.mpr c7
  have c7b2:¬ (t866=[]):=fun h_=>c7 (by rw [h_];rfl)
  by_cases c27:t865=true
  ·subst c27
   rw [if_pos rfl] at H
   obtain rfl:=Option.some.inj H
   exact Zai.leaf
  ·replace c27:=Bool.eq_false_iff.mpr c27
   subst c27
   rw [if_neg (show ¬ (false=true) by decide)] at H
   obtain rfl:=Option.some.inj H
   exact Zai.leaf
end YtjbjkmccfocikaaGreatDoor.B
end
section
namespace YtjbjkmccfocikaaGreatDoor.B
open Go.RowKit YtjbjkmccfocikaaGreatDoorW.PrintWords YtjbjkmccfocikaaGreatDoorW.PrintMore YtjbjkmccfocikaaGreatDoorW.PrintLast
section
variable {P:Program} {ops:Array Oper} {Q:Exit->Act->World->Prop} {md:Region.Mode} {S:World->Prop} {ds:List Nat}
def blkOf:Value->Option Nat
 | .pointer (some p)=>some p.block
 | .agg cs=>match cs[1]? with|some v=>v.ownBlock|none=>none
 | _=>none
structure Mk where
 i:Nat
 N:Tmp
 R:Value->World->Prop
def okM (md:Region.Mode) (ops:Array Oper) (ds is:List Nat) (lf:Array Bool):Nat->Array Bool->Bool
 | 0,l=>l == lf && is.all (fun i=>l.getD i false)
 | n+1,l=>(Region.ready md ops l != []) && (Region.ready md ops l).all fun i=>is.contains i && (!ds.contains i && (l.getD i true == false && okM md ops ds is lf n (l.setIfInBounds i true)))
def fillF (a:Act):List Tmp->(Tmp->Value)->Act
 | [],_=>a
 | n :: ns,f=>fillF (a.put (some n) (f n)) ns f
def upd (f:Tmp->Value) (n:Tmp) (v:Value):Tmp->Value:=fun m=>if m=n then v else f m
theorem put_comm (a:Act) {n m:Tmp} (h:n ≠ m) (x y:Value):(a.put (some n) x).put (some m) y=(a.put (some m) y).put (some n) x:=by
 simp only [Act.put]
 rw [Array.setIfInBounds_comm _ _ h]
theorem Zo4 (a:Act) (n:Tmp) (x y:Value):(a.put (some n) x).put (some n) y=a.put (some n) y:=by
 simp only [Act.put,Array.setIfInBounds_setIfInBounds]
theorem Zl1:∀ (ns:List Tmp) (a:Act) (f:Tmp->Value) (n:Tmp) (v:Value),n ∉ ns->(fillF a ns f).put (some n) v=fillF (a.put (some n) v) ns f
 | [],_,_,_,_,_=>rfl
 | m :: ns,a,f,n,v,h=>by
  have h1:n ≠ m:=fun e=>h (e ▸ List.mem_cons_self)
  rw [fillF,fillF,Zl1 ns _ f n v (fun e=>h (List.mem_cons_of_mem _ e)),put_comm a (Ne.symm h1)]
theorem Zhr:∀ (ns:List Tmp) (a:Act) (f:Tmp->Value) (n:Tmp) (v:Value),n ∉ ns->fillF a ns (upd f n v)=fillF a ns f
 | [],_,_,_,_,_=>rfl
 | m :: ns,a,f,n,v,h=>by
  have h1:m ≠ n:=fun e=>h (e ▸ List.mem_cons_self)
  rw [fillF,fillF,Zhr ns _ f n v (fun e=>h (List.mem_cons_of_mem _ e))]
  simp only [upd,if_neg h1]
theorem Zl2:∀ (ns:List Tmp) (a:Act) (f:Tmp->Value) (n:Tmp) (v:Value),ns.Nodup->n ∈ ns->(fillF a ns f).put (some n) v=fillF a ns (upd f n v)
 | [],_,_,_,_,_,h=>by cases h
 | m :: ns,a,f,n,v,hd,h=>by
  have hd':=List.nodup_cons.1 hd
  by_cases e:m=n
  ·subst e
   rw [fillF,fillF,Zl1 ns _ f m v hd'.1,Zhr ns _ f m v hd'.1,Zo4]
   simp only [upd,if_true]
  ·have hn:n ∈ ns:=(List.mem_cons.1 h).resolve_left (Ne.symm e)
   rw [fillF,fillF,Zl2 ns _ f n v hd'.2 hn]
   simp only [upd,if_neg e]
theorem Zo1 {r:Mk->Mk->Prop} (hs:∀ x y,r x y->r y x):∀ {l:List Mk},l.Pairwise r -> ∀ m ∈ l,∀ m' ∈ l,m=m'\/r m m'
 | [],_,m,h,_,_=>by cases h
 | x :: l,h,m,hm,m',hm'=>by
  obtain ⟨h1,h2⟩:=List.pairwise_cons.1 h
  rcases List.mem_cons.1 hm with rfl|q1 <;> rcases List.mem_cons.1 hm' with rfl|q2
  ·exact .inl rfl
  ·exact .inr (h1 _ q2)
  ·exact .inr (hs _ _ (h1 _ q1))
  ·exact Zo1 hs h2 m q1 m' q2
theorem makers (ms:List Mk) (a:Act) (J:World->Prop) (lf:Array Bool) (fuel:Nat)
  (hp:ms.Pairwise (fun m m'=>m.N ≠ m'.N/\m.i ≠ m'.i))
  (hJ:∀ w w',J w->Below w.heap.size w w'->J w') (hJS:∀ w,J w->S w)
  (hR:∀ m ∈ ms,∀ v w w',m.R v w->Below w.heap.size w w'->m.R v w')
  (hlt:∀ m ∈ ms,∀ v w,m.R v w -> ∀ g,blkOf v=some g->g < w.heap.size)
  (hstep:∀ m ∈ ms,∃ o,ops[m.i]? = some o /\ ∀ (f:Tmp->Value) w,J w -> ∀ K:Act->World->Prop,(∀ v w',m.R v w'->Below w.heap.size w w'->(∀ g,blkOf v=some g->w.heap.size<=g)->K ((fillF a (ms.map Mk.N) f).put (some m.N) v) w') ->
   if Region.wanted o (yielded ops (fillF a (ms.map Mk.N) f).tmps)=true then Oper.wp P o (fillF a (ms.map Mk.N) f) w K Q else K ((fillF a (ms.map Mk.N) f).put o.dst undef) w)
  (hcont:∀ (f:Tmp->Value) w,J w->(∀ m ∈ ms,m.R (f m.N) w)->(∀ m ∈ ms,∀ m' ∈ ms,m.N ≠ m'.N -> ∀ g,blkOf (f m.N)=some g->blkOf (f m'.N) ≠ some g)->wpAnyLast P md ops Q S ds fuel lf (fillF a (ms.map Mk.N) f) w) :
  ∀ (n:Nat) (l:Array Bool) (f:Tmp->Value) (w:World),okM md ops ds (ms.map Mk.i) lf n l=true->J w->(∀ m ∈ ms,l.getD m.i true=true->m.R (f m.N) w) ->
   (∀ m ∈ ms,∀ m' ∈ ms,m.N ≠ m'.N->l.getD m.i true=true->l.getD m'.i true=true -> ∀ g,blkOf (f m.N)=some g->blkOf (f m'.N) ≠ some g)->wpAnyLast P md ops Q S ds (fuel+n) l (fillF a (ms.map Mk.N) f) w
 | 0,l,f,w,hk,hj,hr,hx=>by
  simp only [okM,Bool.and_eq_true,beq_iff_eq,List.all_eq_true] at hk
  obtain ⟨rfl,hk⟩:=hk
  have hd:∀ m ∈ ms,l.getD m.i true=true:=fun m hm=>by
   have h1:=hk m.i (List.mem_map_of_mem hm)
   rcases Nat.lt_or_ge m.i l.size with h'|h'
   ·simp [h'] at h1 ⊢;exact h1
   ·simp [Array.getElem?_eq_none h'] at h1
  exact hcont f w hj (fun m hm=>hr m hm (hd m hm)) (fun m hm m' hm' hn=>hx m hm m' hm' hn (hd m hm) (hd m' hm'))
 | n+1,l,f,w,hk,hj,hr,hx=>by
  simp only [okM,Bool.and_eq_true,bne_iff_ne,List.all_eq_true] at hk
  obtain ⟨hne,hk⟩:=hk
  refine Zgk rfl hne (fun i hi=>?_)
  have h1:=hk i hi
  simp only [Bool.not_eq_true',List.contains_iff_mem,beq_iff_eq] at h1
  obtain ⟨h2,h3,h4,h5⟩:=h1
  obtain ⟨m,hm,rfl⟩:=List.mem_map.1 h2
  obtain ⟨o,ho,hst⟩:=hstep m hm
  have hnd:(ms.map Mk.N).Nodup:=by
   unfold List.Nodup
   rw [List.pairwise_map]
   exact hp.imp (fun h=>h.1)
  have hor:=Zo1 (fun x y h=>⟨h.1.symm,h.2.symm⟩) hp
  refine wpOp_step ho (fun K' hK=>hst f w hj K' (fun v w' hv hb hf=>hK _ w' ⟨fun _ _=>hJS w' (hJ w w' hj hb),?_⟩))
  rw [Zl2 _ _ _ _ _ hnd (List.mem_map_of_mem hm)]
  have hold:∀ m' ∈ ms,m' ≠ m->upd f m.N v m'.N=f m'.N /\ ∀ b,(l.setIfInBounds m.i true).getD m'.i b=l.getD m'.i b:=fun m' hm' hne=>by
   rcases hor m' hm' m hm with e|e
   ·exact absurd e hne
   ·exact ⟨by simp only [upd,if_neg e.1],fun b=>getD_set_ne b (Ne.symm e.2)⟩
  have hnew:upd f m.N v m.N=v:=by simp only [upd,if_true]
  refine makers ms a J lf fuel hp hJ hJS hR hlt hstep hcont n _ _ w' h5 (hJ w w' hj hb) (fun m' hm' hd=>?_) (fun m1 hm1 m2 hm2 hn hd1 hd2 g hg=>?_)
  ·by_cases e:m'=m
   ·subst e;rw [hnew];exact hv
   ·obtain ⟨e1,e2⟩:=hold m' hm' e
    rw [e1];rw [e2] at hd
    exact hR m' hm' _ w w' (hr m' hm' hd) hb
  ·by_cases e1:m1=m
   ·subst e1
    have e2:m2 ≠ m1:=fun e=>hn (by rw [e])
    obtain ⟨f2,l2⟩:=hold m2 hm2 e2
    rw [hnew] at hg;rw [f2];rw [l2] at hd2
    intro hg2
    have := hlt m2 hm2 _ w (hr m2 hm2 hd2) g hg2
    have := hf g hg
    omega
   ·obtain ⟨f1,l1⟩:=hold m1 hm1 e1
    rw [f1] at hg;rw [l1] at hd1
    by_cases e2:m2=m
    ·subst e2
     rw [hnew]
     intro hg2
     have := hlt m1 hm1 _ w (hr m1 hm1 hd1) g hg
     have := hf g hg2
     omega
    ·obtain ⟨f2,l2⟩:=hold m2 hm2 e2
     rw [f2];rw [l2] at hd2
     exact hx m1 hm1 m2 hm2 hn hd1 hd2 g hg
theorem Zqj (a:Act) (n:Tmp):a.put (some n) (a.tmps.getD n undef)=a:=by
 obtain ⟨t,d⟩:=a
 simp only [Act.put]
 congr 1
 rcases Nat.lt_or_ge n t.size with h|h
 ·simp [Array.setIfInBounds,h]
 ·simp [Array.setIfInBounds,Nat.not_lt.2 h]
theorem Zjx:∀ (ns:List Tmp) (a:Act),fillF a ns (fun n=>a.tmps.getD n undef)=a
 | [],_=>rfl
 | n :: ns,a=>by
  rw [fillF,Zqj]
  exact Zjx ns a
theorem Zqz {ik:IntKind} {e:Nat} {w:World} {base:Nat} {ok:Nat->Prop} {v:Value} {xs:List Int} (h:Kd.R (Kd.int ik) e w base ok v xs):Kd.R (Kd.int ik) e w base (fun _=>True) v xs:=Kd.Zi h (fun _ _=>trivial)
theorem R_ok {ik:IntKind} {e:Nat} {w:World} {base:Nat} {ok ok':Nat->Prop} {v:Value} {xs:List Int} (h:Kd.R (Kd.int ik) e w base ok v xs) (ho:∀ k,v.ownBlock=some k->ok' k):Kd.R (Kd.int ik) e w base ok' v xs :=
 ⟨ho,h.2.imp_ (fun _ _ hp=>hp)⟩
theorem pair2 {a:Act} {w0:World} {lf l:Array Bool} {fuel:Nat} (i1 i3 i4 i5:Nat) (N1 N3 N4 N5:Tmp) (base:Nat) {ik1 ik3:IntKind} {e1 e3:Nat} {xs1 xs3:List Int} (b1 n1 b3 n3:Value) (Z:Array Value) (t:TypeId)
  {o1 o3 o4 o5:Oper} (hb0:base<=w0.heap.size) (hS:∀ w',Below w0.heap.size w0 w'->S w')
  (h1:∀ (f:Tmp->Value) w',Below w0.heap.size w0 w' -> ∀ K:Act->World->Prop,(∀ u w'' ok,Kd.R (Kd.int ik1) e1 w'' w'.heap.size ok u xs1->Below w'.heap.size w' w''->K ((fillF a [N1,N3,N4,N5] f).put (some N1) (.agg #[b1,u,n1])) w'') ->
   if Region.wanted o1 (yielded ops (fillF a [N1,N3,N4,N5] f).tmps)=true then Oper.wp P o1 (fillF a [N1,N3,N4,N5] f) w' K Q else K ((fillF a [N1,N3,N4,N5] f).put (some N1) undef) w')
  (h3:∀ (f:Tmp->Value) w',Below w0.heap.size w0 w' -> ∀ K:Act->World->Prop,(∀ u w'' ok,Kd.R (Kd.int ik3) e3 w'' w'.heap.size ok u xs3->Below w'.heap.size w' w''->K ((fillF a [N1,N3,N4,N5] f).put (some N3) (.agg #[b3,u,n3])) w'') ->
   if Region.wanted o3 (yielded ops (fillF a [N1,N3,N4,N5] f).tmps)=true then Oper.wp P o3 (fillF a [N1,N3,N4,N5] f) w' K Q else K ((fillF a [N1,N3,N4,N5] f).put (some N3) undef) w')
  (hcont:∀ u1 u3 g4 g5 w',Below w0.heap.size w0 w'->Kd.R (Kd.int ik1) e1 w' base (fun k=>some k ≠ u3.ownBlock) u1 xs1->Kd.R (Kd.int ik3) e3 w' base (fun k=>some k ≠ u1.ownBlock) u3 xs3 ->
   w'.heap[g4]? = some (.cells Z t (0,0))->w'.heap[g5]? = some (.cells Z t (0,0))->w0.heap.size<=g4->w0.heap.size<=g5->g4 ≠ g5 ->
   wpAnyLast P md ops Q S ds fuel lf (putAll a [(N1,.agg #[b1,u1,n1]),(N3,.agg #[b3,u3,n3]),(N4,.pointer (some ⟨g4,0,none⟩)),(N5,.pointer (some ⟨g5,0,none⟩))]) w')
  (q1:ops[i1]? = some o1:=by rfl) (q3:ops[i3]? = some o3:=by rfl) (q4:ops[i4]? = some o4:=by rfl) (q5:ops[i5]? = some o5:=by rfl)
  (d1:o1.dst=some N1:=by rfl) (d3:o3.dst=some N3:=by rfl) (d4:o4.dst=some N4:=by rfl) (d5:o5.dst=some N5:=by rfl)
  (hw4:∀ y,Region.wanted o4 y=true:=by intro y;rfl) (hw5:∀ y,Region.wanted o5 y=true:=by intro y;rfl)
  (hr4:∀ (a:Act) (w:World),(execOp a.eval o4).run P w=.ok (.value (.pointer (some ⟨w.heap.size,0,none⟩))) (w.alloc (.cells Z t (0,0))):=by intro a w;first|(go_simp;done)|(go_simp;rfl))
  (hr5:∀ (a:Act) (w:World),(execOp a.eval o5).run P w=.ok (.value (.pointer (some ⟨w.heap.size,0,none⟩))) (w.alloc (.cells Z t (0,0))):=by intro a w;first|(go_simp;done)|(go_simp;rfl))
  (hn:((N1 != N3 && N1 != N4 && N1 != N5 && N3 != N4 && N3 != N5 && N4 != N5) && (i1 != i3 && i1 != i4 && i1 != i5 && i3 != i4 && i3 != i5 && i4 != i5))=true:=by rfl)
  (hck:(okM md ops ds [i1,i3,i4,i5] lf 4 l && (l.getD i1 true == false && (l.getD i3 true == false && (l.getD i4 true == false && l.getD i5 true == false))))=true:=by kernel_rfl) :
  wpAnyLast P md ops Q S ds (fuel+4) l a w0:=by
 simp only [Bool.and_eq_true,beq_iff_eq,bne_iff_ne,ne_eq] at hck hn
 obtain ⟨hck,c1,c3,c4,c5⟩:=hck
 obtain ⟨⟨⟨⟨⟨⟨m1,m2⟩,m3⟩,m4⟩,m5⟩,m6⟩,⟨⟨⟨⟨j1,j2⟩,j3⟩,j4⟩,j5⟩,j6⟩:=hn
 have bstep:∀ (o:Oper) (N:Tmp),o.dst=some N->(∀ y,Region.wanted o y=true)->(∀ (a:Act) (w:World),(execOp a.eval o).run P w=.ok (.value (.pointer (some ⟨w.heap.size,0,none⟩))) (w.alloc (.cells Z t (0,0)))) ->
   ∀ (a':Act) (w:World),Below w0.heap.size w0 w -> ∀ K:Act->World->Prop,(∀ v w',(∃ g,v=Value.pointer (some ⟨g,0,none⟩)/\w'.heap[g]? = some (.cells Z t (0,0))/\w0.heap.size<=g)->Below w.heap.size w w'->(∀ g,blkOf v=some g->w.heap.size<=g)->K (a'.put (some N) v) w') ->
   if Region.wanted o (yielded ops a'.tmps)=true then Oper.wp P o a' w K Q else K (a'.put o.dst undef) w:=by
  intro o N hd hw hr a' w hb K hK
  refine Zfn (hw _) hd (hr a' w) (fun g hg w1 hbox hb1=>?_)
  rw [hd]
  subst hg
  exact hK _ w1 ⟨_,rfl,hbox,(Zb hb)⟩ hb1 (fun g hg=>by simp only [blkOf,Option.some.injEq] at hg;omega)
 have key:=makers (P:=P) (ops:=ops) (Q:=Q) (md:=md) (S:=S) (ds:=ds)
  [⟨i1,N1,fun v w' => ∃ u,v=.agg #[b1,u,n1]/\Kd.R (Kd.int ik1) e1 w' base (fun _=>True) u xs1⟩,⟨i3,N3,fun v w' => ∃ u,v=.agg #[b3,u,n3]/\Kd.R (Kd.int ik3) e3 w' base (fun _=>True) u xs3⟩,
   ⟨i4,N4,fun v w' => ∃ g,v=.pointer (some ⟨g,0,none⟩)/\w'.heap[g]? = some (.cells Z t (0,0))/\w0.heap.size<=g⟩,⟨i5,N5,fun v w' => ∃ g,v=.pointer (some ⟨g,0,none⟩)/\w'.heap[g]? = some (.cells Z t (0,0))/\w0.heap.size<=g⟩]
  a (fun w'=>Below w0.heap.size w0 w') lf fuel
  (by simp [m1,m2,m3,m4,m5,m6,j1,j2,j3,j4,j5,j6])
  (fun w w' h hb=>Zif h hb) hS
  (by
   intro m hm v w w' hv hb
   simp only [List.mem_cons,List.not_mem_nil,or_false] at hm
   rcases hm with rfl|rfl|rfl|rfl
   ·obtain ⟨u,rfl,h⟩:=hv;exact ⟨u,rfl,Kd.Za h hb⟩
   ·obtain ⟨u,rfl,h⟩:=hv;exact ⟨u,rfl,Kd.Za h hb⟩
   ·obtain ⟨g,rfl,h,h2⟩:=hv;exact ⟨g,rfl,Zc h hb,h2⟩
   ·obtain ⟨g,rfl,h,h2⟩:=hv;exact ⟨g,rfl,Zc h hb,h2⟩)
  (by
   intro m hm v w hv g hg
   simp only [List.mem_cons,List.not_mem_nil,or_false] at hm
   rcases hm with rfl|rfl|rfl|rfl
   ·obtain ⟨u,rfl,h⟩:=hv;exact Kd.R_lt h g (by simpa [blkOf] using hg)
   ·obtain ⟨u,rfl,h⟩:=hv;exact Kd.R_lt h g (by simpa [blkOf] using hg)
   ·obtain ⟨g',rfl,h,h2⟩:=hv
    obtain rfl:g'=g:=by simpa [blkOf] using hg
    exact Zfw h
   ·obtain ⟨g',rfl,h,h2⟩:=hv
    obtain rfl:g'=g:=by simpa [blkOf] using hg
    exact Zfw h)
  (by
   intro m hm
   simp only [List.mem_cons,List.not_mem_nil,or_false] at hm
   rcases hm with rfl|rfl|rfl|rfl
   ·refine ⟨o1,q1,fun f w hb K hK=>?_⟩
    rw [d1]
    exact h1 f w hb K (fun u w'' ok hr hb2=>hK _ w'' ⟨u,rfl,Zqz (Kd.Zq hr (Nat.le_trans hb0 (Zb hb)))⟩ hb2 (fun g hg=>Kd.Zap hr g (by simpa [blkOf] using hg)))
   ·refine ⟨o3,q3,fun f w hb K hK=>?_⟩
    rw [d3]
    exact h3 f w hb K (fun u w'' ok hr hb2=>hK _ w'' ⟨u,rfl,Zqz (Kd.Zq hr (Nat.le_trans hb0 (Zb hb)))⟩ hb2 (fun g hg=>Kd.Zap hr g (by simpa [blkOf] using hg)))
   ·exact ⟨o4,q4,fun f w hb K hK=>bstep o4 N4 d4 hw4 hr4 _ w hb K hK⟩
   ·exact ⟨o5,q5,fun f w hb K hK=>bstep o5 N5 d5 hw5 hr5 _ w hb K hK⟩)
  (by
   intro f w hb hR hX
   obtain ⟨u1,e1',r1⟩:=hR _ List.mem_cons_self
   obtain ⟨u3,e3',r3⟩:=hR _ (List.mem_cons_of_mem _ List.mem_cons_self)
   obtain ⟨g4,e4',b4,s4⟩:=hR _ (List.mem_cons_of_mem _ (List.mem_cons_of_mem _ List.mem_cons_self))
   obtain ⟨g5,e5',b5,s5⟩:=hR _ (List.mem_cons_of_mem _ (List.mem_cons_of_mem _ (List.mem_cons_of_mem _ List.mem_cons_self)))
   have x13:=hX _ List.mem_cons_self _ (List.mem_cons_of_mem _ List.mem_cons_self) m1
   have x45:=hX _ (List.mem_cons_of_mem _ (List.mem_cons_of_mem _ List.mem_cons_self)) _ (List.mem_cons_of_mem _ (List.mem_cons_of_mem _ (List.mem_cons_of_mem _ List.mem_cons_self))) m6
   dsimp only at e1' e3' e4' e5' x13 x45
   rw [e1',e3'] at x13
   rw [e4',e5'] at x45
   have := hcont u1 u3 g4 g5 w hb (R_ok r1 (fun k hk he=>x13 k (by simpa [blkOf] using hk) (by simpa [blkOf] using he.symm))) (R_ok r3 (fun k hk he=>x13 k (by simpa [blkOf] using he.symm) (by simpa [blkOf] using hk))) b4 b5 s4 s5
    (fun he=>x45 g4 (by simp [blkOf]) (by simp [blkOf,he]))
   simp only [List.map_cons,List.map_nil,fillF,e1',e3',e4',e5']
   exact this)
  4 l (fun n=>a.tmps.getD n undef) w0 hck (Below.refl _ _)
  (by
   intro m hm hd
   simp only [List.mem_cons,List.not_mem_nil,or_false] at hm
   rcases hm with rfl|rfl|rfl|rfl
   ·rw [c1] at hd;cases hd
   ·rw [c3] at hd;cases hd
   ·rw [c4] at hd;cases hd
   ·rw [c5] at hd;cases hd)
  (by
   intro m hm m' hm' hne hd
   simp only [List.mem_cons,List.not_mem_nil,or_false] at hm
   rcases hm with rfl|rfl|rfl|rfl
   ·rw [c1] at hd;cases hd
   ·rw [c3] at hd;cases hd
   ·rw [c4] at hd;cases hd
   ·rw [c5] at hd;cases hd)
 rw [Zjx] at key
 exact key
theorem nW {w0:World} {k g:Nat} {o:Obj} (h:Aside0 (w0.heap[k]? = some o)) (m:w0.heap.size<=g):k ≠ g:=Nat.ne_of_lt (Nat.lt_of_lt_of_le (Zfw h.out) m)
theorem nV {w0:World} {k g:Nat} {o:Obj} (h:Aside0 (w0.heap[k]? = some o)) (m:w0.heap.size<=g):g ≠ k:=Ne.symm (nW h m)
end
end YtjbjkmccfocikaaGreatDoor.B
end
section
namespace YtjbjkmccfocikaaGreatDoor.B
open Go.RowKit YtjbjkmccfocikaaGreatDoorW.PrintWords YtjbjkmccfocikaaGreatDoorW.PrintLast YtjbjkmccfocikaaGreatDoorW.PrintMore
attribute [local go_sem] Zb5 Zb7 Zcs Zct Zbn Zbo Zb6 Zb8
def Zad.f (k:Nat) (a0_0:Bool) (l0_1:List Int) (a0_2:Int) (a1_0:Bool) (l1_1:List Int) (a1_2:Int):Option (Bool × List Int × Int × Int):=(Za2.f k a0_0 l0_1 a0_2 a1_0 l1_1 a1_2).bind fun t673=>(if t673=0 then ((Zn.f k a0_0 l0_1 a0_2).bind fun bt674=>((Zn.f k a1_0 l1_1 a1_2).bind fun bt679=>((Zh.f k bt674.2.1 bt679.2.1).bind fun t686=>((Zm.f k (bt674.1 != bt679.1) t686 (wrap64 (bt674.2.2+bt679.2.2))).bind fun bt689=>(some (bt689.1,bt689.2.1,bt689.2.2.1,bt689.2.2.2)))))) else (some (false,([]:List Int),0,9)))
def Zad.T3:Bool × List (List Nat × List Nat):=(true,[([],[]),([0],[0]),([],[]),([2,1],[2]),([],[]),([],[]),([4,1,3,0,1,4,5],[1,4]),([5,3,6,0,1,2,3,4,5,6],[3,5])])
def Zad.B3:List Nat:=[0,1,0,7,0,0,63,127]
theorem Zad.tab3:rtab .any (opsOf Tryz.f17 3)=Zad.T3:=by kernel_rfl
theorem Zad.bits3:waitsOk Zad.T3.2 Zad.B3=true:=by kernel_rfl
def Zad.T4:Bool × List (List Nat × List Nat):=(true,[([],[]),([0],[0]),([],[]),([2],[2]),([1,3],[1,3]),([],[]),([5],[5]),([],[]),([7],[7]),([6,8],[6,8]),([],[]),([10],[10]),([],[]),([12],[12]),([11,13],[11,13]),([4,9,14],[4,9,14]),([15,9],[15]),([16],[16]),([16],[16]),([17,16,0,1,2,3,4,5,6,7,8,9,10,11,12,13,14,15,16,17,18],[17]),([18,19,0,1,2,3,4,5,6,7,8,9,10,11,12,13,14,15,16,17,18,19],[18])])
def Zad.B4:List Nat:=[0,1,0,4,15,0,32,0,128,480,0,1024,0,4096,15360,32767,65535,131071,131071,524287,1048575]
theorem Zad.tab4:rtab .any (opsOf Tryz.f17 4)=Zad.T4:=by kernel_rfl
theorem Zad.bits4:waitsOk Zad.T4.2 Zad.B4=true:=by kernel_rfl
theorem Zad.leaf {P:Prop} (h:P:=by
 go_enter Tryz.func17,Tryz.ntmps17
 try go_wp2_with (first|((with_reducible refine gd 2 ?_);refine bx 2 #[.bool a0_0,.slice A0_1 l0_1.length c0_1,.int .i64 a0_2] 24 (h:=?_);intro gb0z hg w1z hbox hb;have BK2z:=am hbox;have GW3z:=gW hg;replace HB:=bS hb;clear hb hbox hg)|((with_reducible refine gd 3 ?_);refine bx 3 #[.bool a1_0,.slice A1_1 l1_1.length c1_1,.int .i64 a1_2] 24 (h:=?_);intro gb5z hg w6z hbox hb;have BK7z:=am hbox;have GW8z:=gW hg;have NB10z:=nL hg BK2z;have NB11z:=nG hg BK2z;replace BK2z:=bb BK2z hb;replace HB:=bS hb;clear hb hbox hg)|((with_reducible refine gd 4 ?_);refine bx 4 #[.bool false,.slice none 0 0,.int .i64 0] 24 (h:=?_);intro gb12z hg w13z hbox hb;have BK14z:=am hbox;have GW15z:=gW hg;have NB17z:=nL hg BK2z;have NB18z:=nG hg BK2z;have NB19z:=nL hg BK7z;have NB20z:=nG hg BK7z;replace BK2z:=bb BK2z hb;replace BK7z:=bb BK7z hb;replace HB:=bS hb;clear hb hbox hg;have hnb21z:=NB10z.o;have hnc22z:=NB11z.o;have hnb23z:=NB17z.o;have hnc24z:=NB18z.o;obtain ⟨_,_,_,_,_,_⟩:=cEc BK2z.o;have hnb31z:=NB19z.o;have hnc32z:=NB20z.o;obtain ⟨_,_,_,_,_,_⟩:=cEc BK7z.o)|((have q_:=A8;clear q_);refine gL (some 10) Tryz.func64 #[.agg #[.bool a0_0,.slice A0_1 l0_1.length c0_1,.int .i64 a0_2],.agg #[.bool a1_0,.slice A1_1 l1_1.length c1_1,.int .i64 a1_2]] (h:=?_);(with_reducible refine (Za2.calls k a0_0 _ _ l0_1 a0_2 a1_0 _ _ l1_1 a1_2 t673 _ ?side1 ?side2 ?side3 ?side4 A3.o).mono ?_);(case side1=>exact cB HR0_1 HB);(case side2=>exact HC0_1.o);(case side3=>exact cB HR1_1 HB);(case side4=>exact HC1_1.o);rintro e w39z ⟨rfl,hb⟩;refine ⟨_,rfl,?_⟩;replace BK2z:=bb BK2z hb;replace BK7z:=bb BK7z hb;replace BK14z:=bb BK14z hb;replace HB:=bS hb)|((have q_:(t673 != 0)=true:=c4b1;clear q_);refine gL (some 10) Tryz.func64 #[.agg #[.bool a0_0,.slice A0_1 l0_1.length c0_1,.int .i64 a0_2],.agg #[.bool a1_0,.slice A1_1 l1_1.length c1_1,.int .i64 a1_2]] (h:=?_);(with_reducible refine (Za2.calls k a0_0 _ _ l0_1 a0_2 a1_0 _ _ l1_1 a1_2 t673 _ ?side1 ?side2 ?side3 ?side4 A3.o).mono ?_);(case side1=>exact cB HR0_1 HB);(case side2=>exact HC0_1.o);(case side3=>exact cB HR1_1 HB);(case side4=>exact HC1_1.o);rintro e w39z ⟨rfl,hb⟩;refine ⟨_,rfl,?_⟩;replace BK2z:=bb BK2z hb;replace BK7z:=bb BK7z hb;replace BK14z:=bb BK14z hb;replace HB:=bS hb;obtain ⟨_,_,_,_,_,_⟩:=cEc BK14z.o))
 first
  | have q_:=A8
    replace BK2z:=am (Zbb BK2z.o)
    replace BK7z:=am (Zbb BK7z.o)
    replace BK14z:=am (Zbb BK14z.o)
    replace HB:=am (Zaz HB.o)
    refine start_ (n:=8) (S:=fun w'=>w'.cell? ⟨gb0z,0,none⟩=some (.bool a0_0)/\w'.cell? ⟨gb0z,1,none⟩=some (.slice A0_1 l0_1.length c0_1)/\w'.cell? ⟨gb0z,2,none⟩=some (.int .i64 a0_2)/\w'.cell? ⟨gb5z,0,none⟩=some (.bool a1_0)/\w'.cell? ⟨gb5z,1,none⟩=some (.slice A1_1 l1_1.length c1_1)/\w'.cell? ⟨gb5z,2,none⟩=some (.int .i64 a1_2)) (ds:=[]) #[false,false,false,false,false,false,false,false] (by kernel_rfl) rfl rfl ⟨k0 BK2z 0,k0 BK2z 1,k0 BK2z 2,k0 BK7z 0,k0 BK7z 1,k0 BK7z 2⟩ (fun hHeld=>?_);refine Zcq Zad.tab3 Zad.bits3 (fun HT_ HW_=>?_)
    generalize w39z.drew=w40z at BK2z BK7z BK14z HB hHeld ⊢
    refine take_ (i:=0) (N:=some 13) (v:=?_) (a':=?_) #[true,false,false,false,false,false,false,false] rfl rfl (Zbi HT_.out HW_.out (by kernel_rfl)) (fun _ _ _ h=>h) (Or.inl ⟨by rfl,?_⟩) hHeld ?_ ?_
    rotate_left
    ·rintro w' ⟨s41z,s42z,s43z,s44z,s45z,s46z⟩
     go_simp
     with_reducible rfl
    rotate_left
    ·exact pP
    refine take_ (i:=2) (N:=some 15) (v:=?_) (a':=?_) #[true,false,true,false,false,false,false,false] rfl rfl (Zbi HT_.out HW_.out (by kernel_rfl)) (fun _ _ _ h=>h) (Or.inl ⟨by rfl,?_⟩) hHeld ?_ ?_
    rotate_left
    ·rintro w' ⟨s41z,s42z,s43z,s44z,s45z,s46z⟩
     go_simp
     with_reducible rfl
    rotate_left
    ·exact pP
    refine join_ (σ:=Value × Value × Nat × Nat) 2 #[true,true,true,true,true,true,false,false] (fun s_=>[(14,.agg #[.bool t674,s_.1,.int .i64 t678]),(16,.agg #[.bool t679,s_.2.1,.int .i64 t683]),(6,.pointer (some ⟨s_.2.2.1,0,none⟩)),(7,.pointer (some ⟨s_.2.2.2,0,none⟩))]) (fun s_ w'=>(w'.cell? ⟨gb0z,0,none⟩=some (.bool a0_0)/\w'.cell? ⟨gb0z,1,none⟩=some (.slice A0_1 l0_1.length c0_1)/\w'.cell? ⟨gb0z,2,none⟩=some (.int .i64 a0_2)/\w'.cell? ⟨gb5z,0,none⟩=some (.bool a1_0)/\w'.cell? ⟨gb5z,1,none⟩=some (.slice A1_1 l1_1.length c1_1)/\w'.cell? ⟨gb5z,2,none⟩=some (.int .i64 a1_2))/\(Kd.R (Kd.int .i64) 3 w' w.heap.size (fun k_=>some k_ ≠ (s_.2.1:Value).ownBlock) s_.1 t675)/\(Kd.R (Kd.int .i64) 3 w' w.heap.size (fun k_=>some k_ ≠ (s_.1:Value).ownBlock) s_.2.1 t680)/\(w'.heap[gb0z]? = some (.cells #[.bool a0_0,.slice A0_1 l0_1.length c0_1,.int .i64 a0_2] 24 (0,0)))/\(w'.heap[gb5z]? = some (.cells #[.bool a1_0,.slice A1_1 l1_1.length c1_1,.int .i64 a1_2] 24 (0,0)))/\(w'.heap[gb12z]? = some (.cells #[.bool false,.slice none 0 0,.int .i64 0] 24 (0,0)))/\(w'.heap[s_.2.2.1]? = some (.cells #[.bool false,.slice none 0 0,.int .i64 0] 30 (0,0)))/\(w'.heap[s_.2.2.2]? = some (.cells #[.bool false,.slice none 0 0,.int .i64 0] 30 (0,0)))/\(w.heap.size<=s_.2.2.1)/\(w.heap.size<=s_.2.2.1)/\(gb0z ≠ s_.2.2.1)/\(s_.2.2.1 ≠ gb0z)/\(gb5z ≠ s_.2.2.1)/\(s_.2.2.1 ≠ gb5z)/\(gb12z ≠ s_.2.2.1)/\(s_.2.2.1 ≠ gb12z)/\(s_.2.2.2 ≠ s_.2.2.1)/\(s_.2.2.1 ≠ s_.2.2.2)/\(w.heap.size<=s_.2.2.2)/\(w.heap.size<=s_.2.2.2)/\(gb0z ≠ s_.2.2.2)/\(s_.2.2.2 ≠ gb0z)/\(gb5z ≠ s_.2.2.2)/\(s_.2.2.2 ≠ gb5z)/\(gb12z ≠ s_.2.2.2)/\(s_.2.2.2 ≠ gb12z)/\(Below w.heap.size w w')) ?_ ?_
    rotate_left
    ·intro hJ1_3_4_5
     refine pair2 1 3 4 5 14 16 6 7 w.heap.size (.bool t674) (.int .i64 t678) (.bool t679) (.int .i64 t683) #[.bool false,.slice none 0 0,.int .i64 0] 30 (Zb HB.o) (fun w_ hb_=>⟨k0 (bb BK2z hb_) 0,k0 (bb BK2z hb_) 1,k0 (bb BK2z hb_) 2,k0 (bb BK7z hb_) 0,k0 (bb BK7z hb_) 1,k0 (bb BK7z hb_) 2⟩) (fun f_ w_ hb_ K_ hK_=>?_) (fun f_ w_ hb_ K_ hK_=>?_) (fun u1_ u3_ g4_ g5_ w_ hb_ r1_ r2_ q4_ q5_ m4_ m5_ hne_=>hJ1_3_4_5 (u1_,u3_,g4_,g5_) _ ⟨⟨k0 (bb BK2z hb_) 0,k0 (bb BK2z hb_) 1,k0 (bb BK2z hb_) 2,k0 (bb BK7z hb_) 0,k0 (bb BK7z hb_) 1,k0 (bb BK7z hb_) 2⟩,r1_,r2_,(bb BK2z hb_).out,(bb BK7z hb_).out,(bb BK14z hb_).out,q4_,q5_,(Nat.le_trans (Zb HB.o) m4_),(Nat.le_trans (Zb HB.o) m4_),(nW BK2z m4_),(nV BK2z m4_),(nW BK7z m4_),(nV BK7z m4_),(nW BK14z m4_),(nV BK14z m4_),hne_.symm,hne_,(Nat.le_trans (Zb HB.o) m5_),(Nat.le_trans (Zb HB.o) m5_),(nW BK2z m5_),(nV BK2z m5_),(nW BK7z m5_),(nV BK7z m5_),(nW BK14z m5_),(nV BK14z m5_),(bS hb_).out⟩)
     ·have HB:=bS hb_
      refine goes_ Tryz.func18 (by kernel_rfl) rfl #[.agg #[.bool a0_0,.slice A0_1 l0_1.length c0_1,.int .i64 a0_2]] (by rfl) rfl rfl pA ?_
      with_reducible refine (Zn.calls k a0_0 _ _ l0_1 a0_2 t674 t675 t678 _ ?side1 ?side2 A5.o).mono ?_
      (case side1=>exact cB HR0_1 HB)
      (case side2=>exact HC0_1.o)
      rintro e w47z ⟨v48z,rfl,ho49z,hb2_⟩
      exact ⟨_,rfl,hK_ v48z _ _ ho49z hb2_⟩
     ·have HB:=bS hb_
      refine goes_ Tryz.func18 (by kernel_rfl) rfl #[.agg #[.bool a1_0,.slice A1_1 l1_1.length c1_1,.int .i64 a1_2]] (by rfl) rfl rfl pA ?_
      with_reducible refine (Zn.calls k a1_0 _ _ l1_1 a1_2 t679 t680 t683 _ ?side1 ?side2 A6.o).mono ?_
      (case side1=>exact cB HR1_1 HB)
      (case side2=>exact HC1_1.o)
      rintro e w50z ⟨v51z,rfl,ho49z,hb2_⟩
      exact ⟨_,rfl,hK_ v51z _ _ ho49z hb2_⟩
    rintro ⟨v48z,v51z,gb52z,gb53z⟩ w54z ⟨hS_,h0_,h1_,h2_,h3_,h4_,h5_,h6_,h7_,h8_,h9_,h10_,h11_,h12_,h13_,h14_,h15_,h16_,h17_,h18_,h19_,h20_,h21_,h22_,h23_,h24_,h25_⟩
    have HO55z:Aside0 (Kd.R (Kd.int .i64) 3 w54z w.heap.size (fun k_=>some k_ ≠ (v51z:Value).ownBlock) v48z t675):=⟨h0_⟩
    have HO56z:Aside0 (Kd.R (Kd.int .i64) 3 w54z w.heap.size (fun k_=>some k_ ≠ (v48z:Value).ownBlock) v51z t680):=⟨h1_⟩
    have BK57z:Aside0 (w54z.heap[gb52z]? = some (.cells #[.bool false,.slice none 0 0,.int .i64 0] 30 (0,0))):=⟨h5_⟩
    have BK58z:Aside0 (w54z.heap[gb53z]? = some (.cells #[.bool false,.slice none 0 0,.int .i64 0] 30 (0,0))):=⟨h6_⟩
    have GW59z:Aside0 (w.heap.size<=gb52z):=⟨h7_⟩
    have GE60z:Aside0 (w.heap.size<=gb52z):=⟨h8_⟩
    have NB61z:Aside0 (gb0z ≠ gb52z):=⟨h9_⟩
    have NB62z:Aside0 (gb52z ≠ gb0z):=⟨h10_⟩
    have NB63z:Aside0 (gb5z ≠ gb52z):=⟨h11_⟩
    have NB64z:Aside0 (gb52z ≠ gb5z):=⟨h12_⟩
    have NB65z:Aside0 (gb12z ≠ gb52z):=⟨h13_⟩
    have NB66z:Aside0 (gb52z ≠ gb12z):=⟨h14_⟩
    have NB67z:Aside0 (gb53z ≠ gb52z):=⟨h15_⟩
    have NB68z:Aside0 (gb52z ≠ gb53z):=⟨h16_⟩
    have GW69z:Aside0 (w.heap.size<=gb53z):=⟨h17_⟩
    have GE70z:Aside0 (w.heap.size<=gb53z):=⟨h18_⟩
    have NB71z:Aside0 (gb0z ≠ gb53z):=⟨h19_⟩
    have NB72z:Aside0 (gb53z ≠ gb0z):=⟨h20_⟩
    have NB73z:Aside0 (gb5z ≠ gb53z):=⟨h21_⟩
    have NB74z:Aside0 (gb53z ≠ gb5z):=⟨h22_⟩
    have NB75z:Aside0 (gb12z ≠ gb53z):=⟨h23_⟩
    have NB76z:Aside0 (gb53z ≠ gb12z):=⟨h24_⟩
    replace BK2z:Aside0 (w54z.heap[gb0z]? = some (.cells #[.bool a0_0,.slice A0_1 l0_1.length c0_1,.int .i64 a0_2] 24 (0,0))):=⟨h2_⟩
    replace BK7z:Aside0 (w54z.heap[gb5z]? = some (.cells #[.bool a1_0,.slice A1_1 l1_1.length c1_1,.int .i64 a1_2] 24 (0,0))):=⟨h3_⟩
    replace BK14z:Aside0 (w54z.heap[gb12z]? = some (.cells #[.bool false,.slice none 0 0,.int .i64 0] 24 (0,0))):=⟨h4_⟩
    replace HB:Aside0 (Below w.heap.size w w54z):=⟨h25_⟩
    clear h0_ h1_ h2_ h3_ h4_ h5_ h6_ h7_ h8_ h9_ h10_ h11_ h12_ h13_ h14_ h15_ h16_ h17_ h18_ h19_ h20_ h21_ h22_ h23_ h24_ h25_
    have hHeld:w54z.cell? ⟨gb0z,0,none⟩=some (.bool a0_0)/\w54z.cell? ⟨gb0z,1,none⟩=some (.slice A0_1 l0_1.length c0_1)/\w54z.cell? ⟨gb0z,2,none⟩=some (.int .i64 a0_2)/\w54z.cell? ⟨gb5z,0,none⟩=some (.bool a1_0)/\w54z.cell? ⟨gb5z,1,none⟩=some (.slice A1_1 l1_1.length c1_1)/\w54z.cell? ⟨gb5z,2,none⟩=some (.int .i64 a1_2):=hS_
    obtain ⟨Ao77z,co78z,eo79z⟩:=Kd.Zj HO55z.o
    (first|subst eo79z|(injection eo79z with f1_ f2_ f3_;have f4_:=f1_.symm;have f5_:=f3_.symm;clear f1_ f2_ f3_;subst f4_;subst f5_))
    obtain ⟨Ao80z,co81z,eo82z⟩:=Kd.Zj HO56z.o
    (first|subst eo82z|(injection eo82z with f1_ f2_ f3_;have f4_:=f1_.symm;have f5_:=f3_.symm;clear f1_ f2_ f3_;subst f4_;subst f5_))
    refine norm_ (a':=?_) ?_ ?_
    rotate_left
    ·simp only [putAll,Act.put,List.setIfInBounds_toArray,List.set_cons_zero,List.set_cons_succ]
     rfl
    refine one_ (i:=6) (N:=none) #[true,true,true,true,true,true,true,false] rfl rfl (Zbw HT_.out (by kernel_rfl)) (by decide) (fun K hK=>?_)
    have hs83z:w54z.cell? ⟨gb52z,0,none⟩=some (.bool false):=k0 BK57z 0
    have hfs84z:=Zau BK57z.o 0
    have hns85z:=NB61z.o
    have hns86z:=NB63z.o
    have hns87z:=NB65z.o
    have hns88z:=NB67z.o
    have hms89z:=NB62z.o
    have hms90z:=NB64z.o
    have hms91z:=NB66z.o
    have hms92z:=NB68z.o
    have hs93z:w54z.cell? ⟨gb52z,1,none⟩=some (.slice none 0 0):=k0 BK57z 1
    have hfs94z:=Zau BK57z.o 1
    have hns95z:=NB61z.o
    have hns96z:=NB63z.o
    have hns97z:=NB65z.o
    have hns98z:=NB67z.o
    have hms99z:=NB62z.o
    have hms100z:=NB64z.o
    have hms101z:=NB66z.o
    have hms102z:=NB68z.o
    have hs103z:w54z.cell? ⟨gb52z,2,none⟩=some (.int .i64 0):=k0 BK57z 2
    have hfs104z:=Zau BK57z.o 2
    have hns105z:=NB61z.o
    have hns106z:=NB63z.o
    have hns107z:=NB65z.o
    have hns108z:=NB67z.o
    have hms109z:=NB62z.o
    have hms110z:=NB64z.o
    have hms111z:=NB66z.o
    have hms112z:=NB68z.o
    refine skip_ (w1:=?_) (by rfl) rfl ?_ ?_
    rotate_left
    ·go_simp
     rfl
    refine hK.out _ _ ⟨((cell_far (p:=⟨gb52z,_,none⟩) NB61z.o _).trans (((cell_far (p:=⟨gb52z,_,none⟩) NB61z.o _).trans (((cell_far (p:=⟨gb52z,_,none⟩) NB61z.o _).trans (hHeld.1)))))),((cell_far (p:=⟨gb52z,_,none⟩) NB61z.o _).trans (((cell_far (p:=⟨gb52z,_,none⟩) NB61z.o _).trans (((cell_far (p:=⟨gb52z,_,none⟩) NB61z.o _).trans (hHeld.2.1)))))),((cell_far (p:=⟨gb52z,_,none⟩) NB61z.o _).trans (((cell_far (p:=⟨gb52z,_,none⟩) NB61z.o _).trans (((cell_far (p:=⟨gb52z,_,none⟩) NB61z.o _).trans (hHeld.2.2.1)))))),((cell_far (p:=⟨gb52z,_,none⟩) NB63z.o _).trans (((cell_far (p:=⟨gb52z,_,none⟩) NB63z.o _).trans (((cell_far (p:=⟨gb52z,_,none⟩) NB63z.o _).trans (hHeld.2.2.2.1)))))),((cell_far (p:=⟨gb52z,_,none⟩) NB63z.o _).trans (((cell_far (p:=⟨gb52z,_,none⟩) NB63z.o _).trans (((cell_far (p:=⟨gb52z,_,none⟩) NB63z.o _).trans (hHeld.2.2.2.2.1)))))),((cell_far (p:=⟨gb52z,_,none⟩) NB63z.o _).trans (((cell_far (p:=⟨gb52z,_,none⟩) NB63z.o _).trans (((cell_far (p:=⟨gb52z,_,none⟩) NB63z.o _).trans (hHeld.2.2.2.2.2))))))⟩ (fun hHeld=>?_)
    clear hK K
    refine one_ (i:=7) (N:=none) #[true,true,true,true,true,true,true,true] rfl rfl (Zbw HT_.out (by kernel_rfl)) (by decide) (fun K hK=>?_)
    have hs113z:w54z.cell? ⟨gb53z,0,none⟩=some (.bool false):=k0 BK58z 0
    have hfs114z:=Zau BK58z.o 0
    have hns115z:=NB71z.o
    have hns116z:=NB73z.o
    have hns117z:=NB75z.o
    have hns118z:=NB68z.o
    have hms119z:=NB72z.o
    have hms120z:=NB74z.o
    have hms121z:=NB76z.o
    have hms122z:=NB67z.o
    have hs123z:w54z.cell? ⟨gb53z,1,none⟩=some (.slice none 0 0):=k0 BK58z 1
    have hfs124z:=Zau BK58z.o 1
    have hns125z:=NB71z.o
    have hns126z:=NB73z.o
    have hns127z:=NB75z.o
    have hns128z:=NB68z.o
    have hms129z:=NB72z.o
    have hms130z:=NB74z.o
    have hms131z:=NB76z.o
    have hms132z:=NB67z.o
    have hs133z:w54z.cell? ⟨gb53z,2,none⟩=some (.int .i64 0):=k0 BK58z 2
    have hfs134z:=Zau BK58z.o 2
    have hns135z:=NB71z.o
    have hns136z:=NB73z.o
    have hns137z:=NB75z.o
    have hns138z:=NB68z.o
    have hms139z:=NB72z.o
    have hms140z:=NB74z.o
    have hms141z:=NB76z.o
    have hms142z:=NB67z.o
    refine skip_ (w1:=?_) (by rfl) rfl ?_ ?_
    rotate_left
    ·go_simp
     rfl
    refine hK.out _ _ ⟨((cell_far (p:=⟨gb53z,_,none⟩) NB71z.o _).trans (((cell_far (p:=⟨gb53z,_,none⟩) NB71z.o _).trans (((cell_far (p:=⟨gb53z,_,none⟩) NB71z.o _).trans (hHeld.1)))))),((cell_far (p:=⟨gb53z,_,none⟩) NB71z.o _).trans (((cell_far (p:=⟨gb53z,_,none⟩) NB71z.o _).trans (((cell_far (p:=⟨gb53z,_,none⟩) NB71z.o _).trans (hHeld.2.1)))))),((cell_far (p:=⟨gb53z,_,none⟩) NB71z.o _).trans (((cell_far (p:=⟨gb53z,_,none⟩) NB71z.o _).trans (((cell_far (p:=⟨gb53z,_,none⟩) NB71z.o _).trans (hHeld.2.2.1)))))),((cell_far (p:=⟨gb53z,_,none⟩) NB73z.o _).trans (((cell_far (p:=⟨gb53z,_,none⟩) NB73z.o _).trans (((cell_far (p:=⟨gb53z,_,none⟩) NB73z.o _).trans (hHeld.2.2.2.1)))))),((cell_far (p:=⟨gb53z,_,none⟩) NB73z.o _).trans (((cell_far (p:=⟨gb53z,_,none⟩) NB73z.o _).trans (((cell_far (p:=⟨gb53z,_,none⟩) NB73z.o _).trans (hHeld.2.2.2.2.1)))))),((cell_far (p:=⟨gb53z,_,none⟩) NB73z.o _).trans (((cell_far (p:=⟨gb53z,_,none⟩) NB73z.o _).trans (((cell_far (p:=⟨gb53z,_,none⟩) NB73z.o _).trans (hHeld.2.2.2.2.2))))))⟩ (fun hHeld=>?_)
    clear hK K
    refine done_ (Zdl HT_.out (by kernel_rfl)) ?_
    try go_wp2
    have n0_:Aside0 (Kd.R (Kd.int .i64) 3 ((((((w54z.setCell ⟨gb52z,0,none⟩ (.bool t674)).setCell ⟨gb52z,1,none⟩ (.slice Ao77z t675.length co78z)).setCell ⟨gb52z,2,none⟩ (.int .i64 t678)).setCell ⟨gb53z,0,none⟩ (.bool t679)).setCell ⟨gb53z,1,none⟩ (.slice Ao80z t680.length co81z)).setCell ⟨gb53z,2,none⟩ (.int .i64 t683)) w.heap.size (fun k_=>some k_ ≠ (.slice Ao80z t680.length co81z:Value).ownBlock) (.slice Ao77z t675.length co78z) t675):=⟨by refine rp ?_;exact Kd.Zi (Kd.Zp (p:=⟨gb53z,2,none⟩) (Kd.Zp (p:=⟨gb53z,1,none⟩) (Kd.Zp (p:=⟨gb53z,0,none⟩) (Kd.Zp (p:=⟨gb52z,2,none⟩) (Kd.Zp (p:=⟨gb52z,1,none⟩) (Kd.Zp (p:=⟨gb52z,0,none⟩) (Kd.Zaa (Kd.Zaa HO55z.o BK57z.o (by decide)) BK58z.o (by decide)) (fun _ hk=>hk.1.2) (.bool t674)) (fun _ hk=>hk.1.2) (.slice Ao77z t675.length co78z)) (fun _ hk=>hk.1.2) (.int .i64 t678)) (fun _ hk=>hk.2) (.bool t679)) (fun _ hk=>hk.2) (.slice Ao80z t680.length co81z)) (fun _ hk=>hk.2) (.int .i64 t683)) (fun _ hk=>hk.1.1)⟩
    have n1_:Aside0 (Kd.R (Kd.int .i64) 3 ((((((w54z.setCell ⟨gb52z,0,none⟩ (.bool t674)).setCell ⟨gb52z,1,none⟩ (.slice Ao77z t675.length co78z)).setCell ⟨gb52z,2,none⟩ (.int .i64 t678)).setCell ⟨gb53z,0,none⟩ (.bool t679)).setCell ⟨gb53z,1,none⟩ (.slice Ao80z t680.length co81z)).setCell ⟨gb53z,2,none⟩ (.int .i64 t683)) w.heap.size (fun k_=>some k_ ≠ (.slice Ao77z t675.length co78z:Value).ownBlock) (.slice Ao80z t680.length co81z) t680):=⟨by refine rp ?_;exact Kd.Zi (Kd.Zp (p:=⟨gb53z,2,none⟩) (Kd.Zp (p:=⟨gb53z,1,none⟩) (Kd.Zp (p:=⟨gb53z,0,none⟩) (Kd.Zp (p:=⟨gb52z,2,none⟩) (Kd.Zp (p:=⟨gb52z,1,none⟩) (Kd.Zp (p:=⟨gb52z,0,none⟩) (Kd.Zaa (Kd.Zaa HO56z.o BK57z.o (by decide)) BK58z.o (by decide)) (fun _ hk=>hk.1.2) (.bool t674)) (fun _ hk=>hk.1.2) (.slice Ao77z t675.length co78z)) (fun _ hk=>hk.1.2) (.int .i64 t678)) (fun _ hk=>hk.2) (.bool t679)) (fun _ hk=>hk.2) (.slice Ao80z t680.length co81z)) (fun _ hk=>hk.2) (.int .i64 t683)) (fun _ hk=>hk.1.1)⟩
    have n2_:Aside0 (((((((w54z.setCell ⟨gb52z,0,none⟩ (.bool t674)).setCell ⟨gb52z,1,none⟩ (.slice Ao77z t675.length co78z)).setCell ⟨gb52z,2,none⟩ (.int .i64 t678)).setCell ⟨gb53z,0,none⟩ (.bool t679)).setCell ⟨gb53z,1,none⟩ (.slice Ao80z t680.length co81z)).setCell ⟨gb53z,2,none⟩ (.int .i64 t683)).heap[gb0z]? = some (.cells #[.bool a0_0,.slice A0_1 l0_1.length c0_1,.int .i64 a0_2] 24 (0,0))):=⟨by refine bq ?_ NB71z;refine bq ?_ NB71z;refine bq ?_ NB71z;refine bq ?_ NB61z;refine bq ?_ NB61z;refine bq ?_ NB61z;exact bp BK2z.o⟩
    have n3_:Aside0 (((((((w54z.setCell ⟨gb52z,0,none⟩ (.bool t674)).setCell ⟨gb52z,1,none⟩ (.slice Ao77z t675.length co78z)).setCell ⟨gb52z,2,none⟩ (.int .i64 t678)).setCell ⟨gb53z,0,none⟩ (.bool t679)).setCell ⟨gb53z,1,none⟩ (.slice Ao80z t680.length co81z)).setCell ⟨gb53z,2,none⟩ (.int .i64 t683)).heap[gb5z]? = some (.cells #[.bool a1_0,.slice A1_1 l1_1.length c1_1,.int .i64 a1_2] 24 (0,0))):=⟨by refine bq ?_ NB73z;refine bq ?_ NB73z;refine bq ?_ NB73z;refine bq ?_ NB63z;refine bq ?_ NB63z;refine bq ?_ NB63z;exact bp BK7z.o⟩
    have n4_:Aside0 (((((((w54z.setCell ⟨gb52z,0,none⟩ (.bool t674)).setCell ⟨gb52z,1,none⟩ (.slice Ao77z t675.length co78z)).setCell ⟨gb52z,2,none⟩ (.int .i64 t678)).setCell ⟨gb53z,0,none⟩ (.bool t679)).setCell ⟨gb53z,1,none⟩ (.slice Ao80z t680.length co81z)).setCell ⟨gb53z,2,none⟩ (.int .i64 t683)).heap[gb12z]? = some (.cells #[.bool false,.slice none 0 0,.int .i64 0] 24 (0,0))):=⟨by refine bq ?_ NB75z;refine bq ?_ NB75z;refine bq ?_ NB75z;refine bq ?_ NB65z;refine bq ?_ NB65z;refine bq ?_ NB65z;exact bp BK14z.o⟩
    have n5_:Aside0 (((((((w54z.setCell ⟨gb52z,0,none⟩ (.bool t674)).setCell ⟨gb52z,1,none⟩ (.slice Ao77z t675.length co78z)).setCell ⟨gb52z,2,none⟩ (.int .i64 t678)).setCell ⟨gb53z,0,none⟩ (.bool t679)).setCell ⟨gb53z,1,none⟩ (.slice Ao80z t680.length co81z)).setCell ⟨gb53z,2,none⟩ (.int .i64 t683)).heap[gb52z]? = some (.cells #[.bool t674,.slice Ao77z t675.length co78z,.int .i64 t678] 30 (0,0))):=⟨by refine bq ?_ NB68z;refine bq ?_ NB68z;refine bq ?_ NB68z;exact p3 BK57z⟩
    have n6_:Aside0 (((((((w54z.setCell ⟨gb52z,0,none⟩ (.bool t674)).setCell ⟨gb52z,1,none⟩ (.slice Ao77z t675.length co78z)).setCell ⟨gb52z,2,none⟩ (.int .i64 t678)).setCell ⟨gb53z,0,none⟩ (.bool t679)).setCell ⟨gb53z,1,none⟩ (.slice Ao80z t680.length co81z)).setCell ⟨gb53z,2,none⟩ (.int .i64 t683)).heap[gb53z]? = some (.cells #[.bool t679,.slice Ao80z t680.length co81z,.int .i64 t683] 30 (0,0))):=⟨by refine bp ?_;refine Za3 (cs:=#[.bool t679,.slice Ao80z t680.length co81z,.int .i64 0]) ?_ 2 _ rfl;refine bp ?_;refine Za3 (cs:=#[.bool t679,.slice none 0 0,.int .i64 0]) ?_ 1 _ rfl;refine bp ?_;refine Za3 (cs:=#[.bool false,.slice none 0 0,.int .i64 0]) ?_ 0 _ rfl;refine bq ?_ NB67z;refine bq ?_ NB67z;refine bq ?_ NB67z;exact bp BK58z.o⟩
    have n7_:Aside0 (Below w.heap.size w ((((((w54z.setCell ⟨gb52z,0,none⟩ (.bool t674)).setCell ⟨gb52z,1,none⟩ (.slice Ao77z t675.length co78z)).setCell ⟨gb52z,2,none⟩ (.int .i64 t678)).setCell ⟨gb53z,0,none⟩ (.bool t679)).setCell ⟨gb53z,1,none⟩ (.slice Ao80z t680.length co81z)).setCell ⟨gb53z,2,none⟩ (.int .i64 t683))):=⟨pB⟩
    generalize ((((((w54z.setCell ⟨gb52z,0,none⟩ (.bool t674)).setCell ⟨gb52z,1,none⟩ (.slice Ao77z t675.length co78z)).setCell ⟨gb52z,2,none⟩ (.int .i64 t678)).setCell ⟨gb53z,0,none⟩ (.bool t679)).setCell ⟨gb53z,1,none⟩ (.slice Ao80z t680.length co81z)).setCell ⟨gb53z,2,none⟩ (.int .i64 t683))=w143z at n0_ n1_ n2_ n3_ n4_ n5_ n6_ n7_ ⊢
    have HO55z:=n0_
    have HO56z:=n1_
    have BK2z:=n2_
    have BK7z:=n3_
    have BK14z:=n4_
    have BK57z:=n5_
    have BK58z:=n6_
    have HB:=n7_
    clear n0_ n1_ n2_ n3_ n4_ n5_ n6_ n7_
    replace HO55z:=am (Kd.Zem HO55z.o)
    replace HO56z:=am (Kd.Zem HO56z.o)
    replace BK2z:=am (Zbb BK2z.o)
    replace BK7z:=am (Zbb BK7z.o)
    replace BK14z:=am (Zbb BK14z.o)
    replace BK57z:=am (Zbb BK57z.o)
    replace BK58z:=am (Zbb BK58z.o)
    replace HB:=am (Zaz HB.o)
    refine start_ (n:=21) (S:=fun w'=>w'.cell? ⟨gb52z,0,none⟩=some (.bool t674)/\w'.cell? ⟨gb52z,1,none⟩=some (.slice Ao77z t675.length co78z)/\w'.cell? ⟨gb52z,2,none⟩=some (.int .i64 t678)/\w'.cell? ⟨gb53z,0,none⟩=some (.bool t679)/\w'.cell? ⟨gb53z,1,none⟩=some (.slice Ao80z t680.length co81z)/\w'.cell? ⟨gb53z,2,none⟩=some (.int .i64 t683)) (ds:=[]) #[false,false,false,false,false,false,false,false,false,false,false,false,false,false,false,false,false,false,false,false,false] (by kernel_rfl) rfl rfl ⟨k0 BK57z 0,k0 BK57z 1,k0 BK57z 2,k0 BK58z 0,k0 BK58z 1,k0 BK58z 2⟩ (fun hHeld=>?_);refine Zcq Zad.tab4 Zad.bits4 (fun HT_ HW_=>?_)
    generalize w143z.drew=w144z at HO55z HO56z BK2z BK7z BK14z BK57z BK58z HB hHeld ⊢
    refine pu 0 (some 17) #[true,false,false,false,false,false,false,false,false,false,false,false,false,false,false,false,false,false,false,false,false] (h:=?_)
    refine pu 2 (some 19) #[true,false,true,false,false,false,false,false,false,false,false,false,false,false,false,false,false,false,false,false,false] (h:=?_)
    refine pu 5 (some 22) #[true,false,true,false,false,true,false,false,false,false,false,false,false,false,false,false,false,false,false,false,false] (h:=?_)
    refine pu 7 (some 24) #[true,false,true,false,false,true,false,true,false,false,false,false,false,false,false,false,false,false,false,false,false] (h:=?_)
    refine pu 10 (some 27) #[true,false,true,false,false,true,false,true,false,false,true,false,false,false,false,false,false,false,false,false,false] (h:=?_)
    refine pu 12 (some 29) #[true,false,true,false,false,true,false,true,false,false,true,false,true,false,false,false,false,false,false,false,false] (h:=?_)
    refine take_ (i:=1) (N:=some 18) (v:=?_) (a':=?_) #[true,true,true,false,false,true,false,true,false,false,true,false,true,false,false,false,false,false,false,false,false] rfl rfl (Zbi HT_.out HW_.out (by kernel_rfl)) (fun _ _ _ h=>h) (Or.inl ⟨by rfl,?_⟩) hHeld ?_ ?_
    rotate_left
    ·rintro w' ⟨s41z,s42z,s43z,s44z,s45z,s46z⟩
     go_simp
     with_reducible rfl
    rotate_left
    ·exact pP
    refine take_ (i:=3) (N:=some 20) (v:=?_) (a':=?_) #[true,true,true,true,false,true,false,true,false,false,true,false,true,false,false,false,false,false,false,false,false] rfl rfl (Zbi HT_.out HW_.out (by kernel_rfl)) (fun _ _ _ h=>h) (Or.inl ⟨by rfl,?_⟩) hHeld ?_ ?_
    rotate_left
    ·rintro w' ⟨s41z,s42z,s43z,s44z,s45z,s46z⟩
     go_simp
     with_reducible rfl
    rotate_left
    ·exact pP
    refine pu 4 (some 21) #[true,true,true,true,true,true,false,true,false,false,true,false,true,false,false,false,false,false,false,false,false] (h:=?_)
    refine take_ (i:=6) (N:=some 23) (v:=?_) (a':=?_) #[true,true,true,true,true,true,true,true,false,false,true,false,true,false,false,false,false,false,false,false,false] rfl rfl (Zbi HT_.out HW_.out (by kernel_rfl)) (fun _ _ _ h=>h) (Or.inl ⟨by rfl,?_⟩) hHeld ?_ ?_
    rotate_left
    ·rintro w' ⟨s41z,s42z,s43z,s44z,s45z,s46z⟩
     go_simp
     with_reducible rfl
    rotate_left
    ·exact pP
    refine take_ (i:=8) (N:=some 25) (v:=?_) (a':=?_) #[true,true,true,true,true,true,true,true,true,false,true,false,true,false,false,false,false,false,false,false,false] rfl rfl (Zbi HT_.out HW_.out (by kernel_rfl)) (fun _ _ _ h=>h) (Or.inl ⟨by rfl,?_⟩) hHeld ?_ ?_
    rotate_left
    ·rintro w' ⟨s41z,s42z,s43z,s44z,s45z,s46z⟩
     go_simp
     with_reducible rfl
    rotate_left
    ·exact pP
    refine take_ (i:=11) (N:=some 28) (v:=?_) (a':=?_) #[true,true,true,true,true,true,true,true,true,false,true,true,true,false,false,false,false,false,false,false,false] rfl rfl (Zbi HT_.out HW_.out (by kernel_rfl)) (fun _ _ _ h=>h) (Or.inl ⟨by rfl,?_⟩) hHeld ?_ ?_
    rotate_left
    ·rintro w' ⟨s41z,s42z,s43z,s44z,s45z,s46z⟩
     go_simp
     with_reducible rfl
    rotate_left
    ·exact pP
    refine take_ (i:=13) (N:=some 30) (v:=?_) (a':=?_) #[true,true,true,true,true,true,true,true,true,false,true,true,true,true,false,false,false,false,false,false,false] rfl rfl (Zbi HT_.out HW_.out (by kernel_rfl)) (fun _ _ _ h=>h) (Or.inl ⟨by rfl,?_⟩) hHeld ?_ ?_
    rotate_left
    ·rintro w' ⟨s41z,s42z,s43z,s44z,s45z,s46z⟩
     go_simp
     with_reducible rfl
    rotate_left
    ·exact pP
    refine pu 14 (some 31) #[true,true,true,true,true,true,true,true,true,false,true,true,true,true,true,false,false,false,false,false,false] (h:=?_)
    refine one_ (i:=9) (N:=some 26) #[true,true,true,true,true,true,true,true,true,true,true,true,true,true,true,false,false,false,false,false,false] rfl rfl (Zbw HT_.out (by kernel_rfl)) (by decide) (fun K hK=>?_)
    refine goes_ Tryz.func65 (by kernel_rfl) rfl #[.slice Ao77z t675.length co78z,.slice Ao80z t680.length co81z] (by rfl) rfl rfl pA ?_
    with_reducible refine (Zh.calls k _ _ t675 _ _ t680 t686 _ ?side1 ?side2 ?side3 ?side4 A7.o).mono ?_
    (case side1=>exact Kd.Zx (Kd.Zd HO55z.o).2.2 pl)
    (case side2=>exact (Kd.Zd HO55z.o).2.1)
    (case side3=>exact Kd.Zx (Kd.Zd HO56z.o).2.2 pl)
    (case side4=>exact (Kd.Zd HO56z.o).2.1)
    rintro e w145z ⟨v146z,rfl,ho49z,hb⟩
    refine ⟨_,rfl,?_⟩
    have HO147z:=am (Kd.Zq (Kd.Zr (Kd.Zr ho49z (Kd.R_lt (Kd.Za HO55z.o pl))) (Kd.R_lt (Kd.Za HO56z.o pl))) (Zb pB))
    replace HO55z:=reR HO55z ho49z hb
    replace HO56z:=reR HO56z ho49z hb
    replace BK2z:=bb BK2z hb
    replace BK7z:=bb BK7z hb
    replace BK14z:=bb BK14z hb
    replace BK57z:=bb BK57z hb
    replace BK58z:=bb BK58z hb
    replace HB:=bS hb
    obtain ⟨Ao148z,co149z,eo150z⟩:=Kd.Zj HO147z.o
    (first|subst eo150z|(injection eo150z with f1_ f2_ f3_;have f4_:=f1_.symm;have f5_:=f3_.symm;clear f1_ f2_ f3_;subst f4_;subst f5_))
    refine hK.out _ _ ⟨k0 BK57z 0,k0 BK57z 1,k0 BK57z 2,k0 BK58z 0,k0 BK58z 1,k0 BK58z 2⟩ (fun hHeld=>?_)
    clear hK K
    refine norm_ (a':=?_) ?_ ?_
    rotate_left
    ·show Act.put _ (some 26) _=_
     exact pP
    refine pu 15 (some 32) #[true,true,true,true,true,true,true,true,true,true,true,true,true,true,true,true,false,false,false,false,false] (h:=?_)
    refine one_ (i:=16) (N:=some 33) #[true,true,true,true,true,true,true,true,true,true,true,true,true,true,true,true,true,false,false,false,false] rfl rfl (Zbw HT_.out (by kernel_rfl)) (by decide) (fun K hK=>?_)
    refine goes_ Tryz.func23 (by kernel_rfl) rfl #[.agg #[.bool (t674 != t679),.slice Ao148z t686.length co149z,.int .i64 (wrap64 (t678+t683))]] (by rfl) rfl rfl pA ?_
    with_reducible refine (Zm.calls k (t674 != t679) (fun k_=>some k_=(.slice Ao148z t686.length co149z:Value).ownBlock) (.slice Ao148z t686.length co149z) t686 (wrap64 (t678+t683)) t689 t690 t693 t694 w _ ?side1 ?side2 A8.o).mono ?_
    (case side1=>exact pB)
    (case side2=>exact Kd.Zbl rfl HO147z.o)
    rintro e w151z ⟨v152z,rfl,ho49z,hb,hkp⟩
    refine ⟨_,rfl,?_⟩
    have HO153z:=am (Kd.Zi (ok':=fun k_=>True) ho49z (fun k_ hk_=>trivial))
    replace BK2z:=am (Zar (Zc BK2z.o pl) hkp (fun e_=>Kd.R_ne HO147z.o BK2z.o (by decide) e_))
    replace BK7z:=am (Zar (Zc BK7z.o pl) hkp (fun e_=>Kd.R_ne HO147z.o BK7z.o (by decide) e_))
    replace BK14z:=am (Zar (Zc BK14z.o pl) hkp (fun e_=>Kd.R_ne HO147z.o BK14z.o (by decide) e_))
    replace HO55z:=am (Kd.Zi (ok':=fun k_=>some k_ ≠ (.slice Ao80z t680.length co81z:Value).ownBlock) (Kd.Zcc (HO55z.o) hkp (fun k_ hk_ hs_=>(hk_.2) hs_)) (fun k_ hk_=>hk_.1.1))
    replace HO56z:=am (Kd.Zi (ok':=fun k_=>some k_ ≠ (.slice Ao77z t675.length co78z:Value).ownBlock) (Kd.Zcc (HO56z.o) hkp (fun k_ hk_ hs_=>(hk_.2) hs_)) (fun k_ hk_=>hk_.1.1))
    replace BK57z:=am (Zar (Zc BK57z.o pl) hkp (fun e_=>Kd.R_ne HO147z.o BK57z.o (by decide) e_))
    replace BK58z:=am (Zar (Zc BK58z.o pl) hkp (fun e_=>Kd.R_ne HO147z.o BK58z.o (by decide) e_))
    replace HB:=am hb
    clear HO147z
    obtain ⟨Ao154z,co155z,eo156z⟩:=Kd.Zj HO153z.o
    (first|subst eo156z|(injection eo156z with f1_ f2_ f3_;have f4_:=f1_.symm;have f5_:=f3_.symm;clear f1_ f2_ f3_;subst f4_;subst f5_))
    refine hK.out _ _ ⟨k0 BK57z 0,k0 BK57z 1,k0 BK57z 2,k0 BK58z 0,k0 BK58z 1,k0 BK58z 2⟩ (fun hHeld=>?_)
    clear hK K
    refine norm_ (a':=?_) ?_ ?_
    rotate_left
    ·show Act.put _ (some 33) _=_
     exact pP
    refine pu 17 (some 34) #[true,true,true,true,true,true,true,true,true,true,true,true,true,true,true,true,true,true,false,false,false] (h:=?_)
    refine pu 18 (some 35) #[true,true,true,true,true,true,true,true,true,true,true,true,true,true,true,true,true,true,true,false,false] (h:=?_)
    refine one_ (i:=19) (N:=none) #[true,true,true,true,true,true,true,true,true,true,true,true,true,true,true,true,true,true,true,true,false] rfl rfl (Zbw HT_.out (by kernel_rfl)) (by decide) (fun K hK=>?_)
    have hs157z:w151z.cell? ⟨gb12z,0,none⟩=some (.bool false):=k0 BK14z 0
    have hfs158z:=Zau BK14z.o 0
    have hns159z:=NB17z.o
    have hns160z:=NB19z.o
    have hns161z:=NB66z.o
    have hns162z:=NB76z.o
    have hms163z:=NB18z.o
    have hms164z:=NB20z.o
    have hms165z:=NB65z.o
    have hms166z:=NB75z.o
    have hs167z:w151z.cell? ⟨gb12z,1,none⟩=some (.slice none 0 0):=k0 BK14z 1
    have hfs168z:=Zau BK14z.o 1
    have hns169z:=NB17z.o
    have hns170z:=NB19z.o
    have hns171z:=NB66z.o
    have hns172z:=NB76z.o
    have hms173z:=NB18z.o
    have hms174z:=NB20z.o
    have hms175z:=NB65z.o
    have hms176z:=NB75z.o
    have hs177z:w151z.cell? ⟨gb12z,2,none⟩=some (.int .i64 0):=k0 BK14z 2
    have hfs178z:=Zau BK14z.o 2
    have hns179z:=NB17z.o
    have hns180z:=NB19z.o
    have hns181z:=NB66z.o
    have hns182z:=NB76z.o
    have hms183z:=NB18z.o
    have hms184z:=NB20z.o
    have hms185z:=NB65z.o
    have hms186z:=NB75z.o
    refine skip_ (w1:=?_) (by rfl) rfl ?_ ?_
    rotate_left
    ·go_simp
     rfl
    refine hK.out _ _ ⟨((cell_far (p:=⟨gb12z,_,none⟩) NB66z.o _).trans (((cell_far (p:=⟨gb12z,_,none⟩) NB66z.o _).trans (((cell_far (p:=⟨gb12z,_,none⟩) NB66z.o _).trans (hHeld.1)))))),((cell_far (p:=⟨gb12z,_,none⟩) NB66z.o _).trans (((cell_far (p:=⟨gb12z,_,none⟩) NB66z.o _).trans (((cell_far (p:=⟨gb12z,_,none⟩) NB66z.o _).trans (hHeld.2.1)))))),((cell_far (p:=⟨gb12z,_,none⟩) NB66z.o _).trans (((cell_far (p:=⟨gb12z,_,none⟩) NB66z.o _).trans (((cell_far (p:=⟨gb12z,_,none⟩) NB66z.o _).trans (hHeld.2.2.1)))))),((cell_far (p:=⟨gb12z,_,none⟩) NB76z.o _).trans (((cell_far (p:=⟨gb12z,_,none⟩) NB76z.o _).trans (((cell_far (p:=⟨gb12z,_,none⟩) NB76z.o _).trans (hHeld.2.2.2.1)))))),((cell_far (p:=⟨gb12z,_,none⟩) NB76z.o _).trans (((cell_far (p:=⟨gb12z,_,none⟩) NB76z.o _).trans (((cell_far (p:=⟨gb12z,_,none⟩) NB76z.o _).trans (hHeld.2.2.2.2.1)))))),((cell_far (p:=⟨gb12z,_,none⟩) NB76z.o _).trans (((cell_far (p:=⟨gb12z,_,none⟩) NB76z.o _).trans (((cell_far (p:=⟨gb12z,_,none⟩) NB76z.o _).trans (hHeld.2.2.2.2.2))))))⟩ (fun hHeld=>?_)
    clear hK K
    refine pu 20 (some 5) #[true,true,true,true,true,true,true,true,true,true,true,true,true,true,true,true,true,true,true,true,true] (h:=?_)
    refine done_ (Zdl HT_.out (by kernel_rfl)) ?_
    try go_wp2
    refine bodyPost_ret (Za7 rfl _ _ gb12z 24 #[.bool t689,.slice Ao154z t690.length co155z,.int .i64 t693] (0,0) _ rfl (by exact p3 BK14z) Tryz.underlying24 rfl (by kernel_rfl)) rfl ?_
    exact ⟨_,pE,by refine rp ?_;exact Kd.Zi (Kd.Zp (p:=⟨gb12z,2,none⟩) (Kd.Zp (p:=⟨gb12z,1,none⟩) (Kd.Zp (p:=⟨gb12z,0,none⟩) (Kd.Zaa HO153z.o BK14z.o (by decide)) (fun _ hk=>hk.2) (.bool t689)) (fun _ hk=>hk.2) (.slice Ao154z t690.length co155z)) (fun _ hk=>hk.2) (.int .i64 t693)) (fun _ hk=>trivial),pB⟩
  | refine bodyPost_ret (Za7 rfl _ _ gb12z 24 #[.bool false,.slice none 0 0,.int .i64 0] (0,0) _ rfl (by exact p3 BK14z) Tryz.underlying24 rfl (by kernel_rfl)) rfl ?_
    exact ⟨_,pE,pN,pB⟩):P:=h
theorem Zad.calls (k:Nat) (a0_0:Bool) (A0_1:Option Addr) (c0_1:Nat) (l0_1:List Int) (a0_2:Int) (a1_0:Bool) (A1_1:Option Addr) (c1_1:Nat) (l1_1:List Int) (a1_2:Int) (r1:Bool) (r2:List Int) (r3:Int) (r4:Int) (w:World) (hr0_1:Kd.C (Kd.int .u32) w A0_1 l0_1.length l0_1) (hc0_1:l0_1.length<=c0_1) (hr1_1:Kd.C (Kd.int .u32) w A1_1 l1_1.length l1_1) (hc1_1:l1_1.length<=c1_1) (h:Zad.f k a0_0 l0_1 a0_2 a1_0 l1_1 a1_2=some (r1,r2,r3,r4)) :
  Calls Tryz.prog 17 #[.agg #[.bool a0_0,.slice A0_1 l0_1.length c0_1,.int .i64 a0_2],.agg #[.bool a1_0,.slice A1_1 l1_1.length c1_1,.int .i64 a1_2]] w fun e w' => ∃ v1_:Value,e=.returned (.tuple #[.agg #[.bool r1,v1_,.int .i64 r3],.int .i64 r4])/\Kd.R (Kd.int .u32) 85 w' w.heap.size (fun _=>True) v1_ r2/\Below w.heap.size w w':=by
 have hu24:=Tryz.underlying24
 have hu30:=Tryz.underlying30
 have HR0_1:=am hr0_1
 have HC0_1:=am hc0_1
 clear hr0_1 hc0_1
 have HR1_1:=am hr1_1
 have HC1_1:=am hc1_1
 clear hr1_1 hc1_1
 have HB:=am (Below.refl w.heap.size w)
 have H:((Za2.f k a0_0 l0_1 a0_2 a1_0 l1_1 a1_2).bind fun t673=>(if t673=0 then ((Zn.f k a0_0 l0_1 a0_2).bind fun bt674=>((Zn.f k a1_0 l1_1 a1_2).bind fun bt679=>((Zh.f k bt674.2.1 bt679.2.1).bind fun t686=>((Zm.f k (bt674.1 != bt679.1) t686 (wrap64 (bt674.2.2+bt679.2.2))).bind fun bt689=>(some (bt689.1,bt689.2.1,bt689.2.2.1,bt689.2.2.2)))))) else (some (false,([]:List Int),0,9))))=some (r1,r2,r3,r4):=h
 clear h
 obtain ⟨t673,A3,H⟩:=ob H
 by_cases c4:t673=0
 ·rw [if_pos c4] at H
  have c4b0:(t673 == 0)=true:=beq_iff_eq.mpr c4
  have c4b1:(t673 != 0)=false:=bne_eq_false_iff_eq.mpr c4
  clear c4
  obtain ⟨⟨t674,t675,t678⟩,A5,H⟩:=ob H;(try dsimp only at H)
  obtain ⟨⟨t679,t680,t683⟩,A6,H⟩:=ob H;(try dsimp only at H)
  obtain ⟨t686,A7,H⟩:=ob H
  obtain ⟨⟨t689,t690,t693,t694⟩,A8,H⟩:=ob H;(try dsimp only at H)
  simp only [Option.some.injEq,Prod.mk.injEq] at H
  obtain ⟨rfl,rfl,rfl,rfl⟩:=H
  exact Zad.leaf
 ·rw [if_neg c4] at H
  have c4b0:(t673 == 0)=false:=beq_eq_false_iff_ne.mpr c4
  have c4b1:(t673 != 0)=true:=bne_iff_ne.mpr c4
  simp only [Option.some.injEq,Prod.mk.injEq] at H
  obtain ⟨rfl,rfl,rfl,rfl⟩:=H
  exact Zad.leaf
end YtjbjkmccfocikaaGreatDoor.B
end
end Go.Proofs
