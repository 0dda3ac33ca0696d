/- QuotRoots, part 4 of 7 of its proof (no condition); names with a low line are shortened throughout. -/
import Derived.Test.YtjbjkmccfocikaaGreatDoorZQuotRoots2
set_option linter.unusedVariables false
set_option linter.unusedSimpArgs false
set_option maxRecDepth 100000
set_option maxHeartbeats 8000000
namespace Go.Proofs
section
namespace YtjbjkmccfocikaaGreatDoor.B
open Go.RowKit YtjbjkmccfocikaaGreatDoorW.PrintWords YtjbjkmccfocikaaGreatDoorW.PrintLast YtjbjkmccfocikaaGreatDoorW.PrintMore
attribute [local go_sem] Zb7 Zb9 Zcu Zcv Zbt Zbu Zb8 Zca
def Zdm.f (k:Nat) (l0:List Int) (l1:List Int):Option (List Int × List Int × Int):=(Zdg.f k l0 l1).bind fun t134=>(if t134=0 then (if (l1.length:Int)=0 then (some (([]:List Int),([]:List Int),53)) else ((Zcw.f l0 l1).bind fun bt135=>(some (bt135.1,bt135.2,0)))) else (some (([]:List Int),([]:List Int),t134)))
theorem Zdm.calls (k:Nat) (A0:Option Addr) (c0:Nat) (l0:List Int) (A1:Option Addr) (c1:Nat) (l1:List Int) (r1:List Int) (r2:List Int) (r3:Int) (w:World) (hr0:Kd.C (Kd.int .u32) w A0 l0.length l0) (hc0:l0.length<=c0) (hr1:Kd.C (Kd.int .u32) w A1 l1.length l1) (hc1:l1.length<=c1) (h:Zdm.f k l0 l1=some (r1,r2,r3)) :
  Calls Tryz.prog 69 #[.slice A0 l0.length c0,.slice A1 l1.length c1] w fun e w' => ∃ v0_ v1_:Value,e=.returned (.tuple #[v0_,v1_,.int .i64 r3])/\Kd.R (Kd.int .u32) 85 w' w.heap.size (fun k_=>some k_ ≠ (v1_:Value).ownBlock) v0_ r1/\Kd.R (Kd.int .u32) 85 w' w.heap.size (fun k_=>some k_ ≠ (v0_:Value).ownBlock) v1_ r2/\Below w.heap.size w w':=by
 have HR0:=am hr0
 have HC0:=am hc0
 clear hr0 hc0
 have HR1:=am hr1
 have HC1:=am hc1
 clear hr1 hc1
 have HB:=am (Below.refl w.heap.size w)
 have H:((Zdg.f k l0 l1).bind fun t134=>(if t134=0 then (if (l1.length:Int)=0 then (some (([]:List Int),([]:List Int),53)) else ((Zcw.f l0 l1).bind fun bt135=>(some (bt135.1,bt135.2,0)))) else (some (([]:List Int),([]:List Int),t134))))=some (r1,r2,r3):=h
 clear h
 obtain ⟨t134,A3,H⟩:=ob H
 by_cases c4:t134=0
 ·rw [if_pos c4] at H
  have c4b0:(t134 == 0)=true:=beq_iff_eq.mpr c4
  have c4b1:(t134 != 0)=false:=bne_eq_false_iff_eq.mpr c4
  clear c4
  by_cases c5:(l1.length:Int)=0
  ·rw [if_pos c5] at H
   have c5b0:((l1.length:Int) == 0)=true:=beq_iff_eq.mpr c5
   have c5b1:((l1.length:Int) != 0)=false:=bne_eq_false_iff_eq.mpr c5
   clear c5
   simp only [Option.some.injEq,Prod.mk.injEq] at H
   obtain ⟨rfl,rfl,rfl⟩:=H
   go_enter Tryz.func69,Tryz.ntmps69
   go_wp2_with (first|(refine gL (some 12) Tryz.func126 #[.slice A0 l0.length c0,.slice A1 l1.length c1] (h:=?_);(with_reducible refine (Zdg.calls k _ _ l0 _ _ l1 t134 _ ?side1 ?side2 ?side3 ?side4 A3.out).mono ?_);(case side1=>refine cp ?_;exact HR0.out);(case side2=>exact HC0.out);(case side3=>refine cp ?_;exact HR1.out);(case side4=>exact HC1.out);rintro e w6 ⟨rfl,hb⟩;refine ⟨_,rfl,?_⟩;replace HB:=bS hb))
   go_ret3
   exact ⟨_,_,pE,pN,pN,pB⟩
  ·rw [if_neg c5] at H
   have c5b0:((l1.length:Int) == 0)=false:=beq_eq_false_iff_ne.mpr c5
   have c5b1:((l1.length:Int) != 0)=true:=bne_iff_ne.mpr c5
   have c5b2:¬ (l1=[]):=fun h_=>c5 (by rw [h_];rfl)
   obtain ⟨⟨t135,t136⟩,A7,H⟩:=ob H;(try dsimp only at H)
   simp only [Option.some.injEq,Prod.mk.injEq] at H
   obtain ⟨rfl,rfl,rfl⟩:=H
   go_enter Tryz.func69,Tryz.ntmps69
   go_wp2_with (first|(refine gL (some 12) Tryz.func126 #[.slice A0 l0.length c0,.slice A1 l1.length c1] (h:=?_);(with_reducible refine (Zdg.calls k _ _ l0 _ _ l1 t134 _ ?side1 ?side2 ?side3 ?side4 A3.out).mono ?_);(case side1=>refine cp ?_;exact HR0.out);(case side2=>exact HC0.out);(case side3=>refine cp ?_;exact HR1.out);(case side4=>exact HC1.out);rintro e w8 ⟨rfl,hb⟩;refine ⟨_,rfl,?_⟩;replace HB:=bS hb)|(refine gL (some 22) Tryz.func127 #[.slice A0 l0.length c0,.slice A1 l1.length c1] (h:=?_);(with_reducible refine (Zcw.calls _ _ l0 _ _ l1 t135 t136 _ ?side1 ?side2 ?side3 ?side4 A7.out).mono ?_);(case side1=>refine cp ?_;exact (Kd.Zh HR0.out HB.out));(case side2=>exact HC0.out);(case side3=>refine cp ?_;exact (Kd.Zh HR1.out HB.out));(case side4=>exact HC1.out);rintro e w9 ⟨v137,v139,rfl,ho0,ho1,hb⟩;refine ⟨_,rfl,?_⟩;have HO138:=am (Kd.Zq ho0 (Zb pB));have HO140:=am (Kd.Zq ho1 (Zb pB));replace HB:=bS hb))
   go_ret3
   exact ⟨_,_,pE,by refine rp ?_;exact HO138.out,by refine rp ?_;exact HO140.out,pB⟩
 ·rw [if_neg c4] at H
  have c4b0:(t134 == 0)=false:=beq_eq_false_iff_ne.mpr c4
  have c4b1:(t134 != 0)=true:=bne_iff_ne.mpr c4
  simp only [Option.some.injEq,Prod.mk.injEq] at H
  obtain ⟨rfl,rfl,rfl⟩:=H
  go_enter Tryz.func69,Tryz.ntmps69
  go_wp2_with (first|(refine gL (some 12) Tryz.func126 #[.slice A0 l0.length c0,.slice A1 l1.length c1] (h:=?_);(with_reducible refine (Zdg.calls k _ _ l0 _ _ l1 t134 _ ?side1 ?side2 ?side3 ?side4 A3.out).mono ?_);(case side1=>refine cp ?_;exact HR0.out);(case side2=>exact HC0.out);(case side3=>refine cp ?_;exact HR1.out);(case side4=>exact HC1.out);rintro e w10 ⟨rfl,hb⟩;refine ⟨_,rfl,?_⟩;replace HB:=bS hb))
  go_ret3
  exact ⟨_,_,pE,pN,pN,pB⟩
def Zc4.f (k:Nat) (a0:Int):Option (List Int):=(Zw.f k (([(a0) % 4294967296,(a0 / 4294967296) % 4294967296]:List Int))).bind fun t144=>(some t144)
theorem Zc4.calls (k:Nat) (a0:Int) (r:List Int) (w:World) (h:Zc4.f k a0=some r) :
  Calls Tryz.prog 76 #[.int .u64 a0] w fun e w' => ∃ v0_:Value,e=.returned (v0_)/\Kd.R (Kd.int .u32) 85 w' w.heap.size (fun _=>True) v0_ r/\Below w.heap.size w w':=by
 have HB:=am (Below.refl w.heap.size w)
 have H:((Zw.f k (([(a0) % 4294967296,(a0 / 4294967296) % 4294967296]:List Int))).bind fun t144=>(some t144))=some r:=h
 clear h
 obtain ⟨y141,hy141⟩:∃ y_:List Int,y_=(([(a0) % 4294967296,(a0 / 4294967296) % 4294967296]:List Int)):=⟨_,rfl⟩
 replace H:((Zw.f k y141).bind fun t144=>(some t144))=some r:=by have hy_:=hy141;exact pH
 have Ny141:=am hy141
 clear hy141
 obtain ⟨t144,A2,H⟩:=ob H
 obtain rfl:=Option.some.inj H
 go_enter Tryz.func76,Tryz.ntmps76
 go_wp2_with (first|((with_reducible refine gd 8 ?_);refine Kd.Zg2 (Kd.int .u32) _ 85 ?hg (N:=8) ?hd (xs:=([(a0) % 4294967296,(a0 / 4294967296) % 4294967296]:List Int)) (inner:=[.int .u32 ((a0) % 4294967296),.int .u32 ((a0 / 4294967296) % 4294967296)]) (ok:=fun _=>True) (okp:=fun _=>True) ?hr ?hp (fun _ hk=>hk) trivial (Below.refl _ _) (Nat.le_refl _) (by simp) ?_;(case hd=>rfl);(case hg=>rfl);(case hr=>first|(go_simp;done)|(go_simp;rfl));(case hp=>exact (Reps.one (show Kd.M (Kd.int .u32) _ _ _ ((a0) % 4294967296) [.int .u32 ((a0) % 4294967296)] from rfl) (Reps.one (show Kd.M (Kd.int .u32) _ _ _ ((a0 / 4294967296) % 4294967296) [.int .u32 ((a0 / 4294967296) % 4294967296)] from rfl) (Reps.none _ _))));intro v142 w3 ho4 hb hg_ hnew_;clear hg_ hnew_;(first|rw [<- Ny141.out] at ho4|(simp only [Int.reduceToNat] at ho4;rw [<- Ny141.out] at ho4));have HO143:=am (Kd.Zq ho4 (Zb pB));replace HB:=bS hb;clear hb ho4;obtain ⟨Ao5,co5,eo5⟩:=Kd.Zm HO143.out;subst eo5)|(refine gL (some 9) Tryz.func132 #[.slice Ao5 y141.length co5] (h:=?_);(with_reducible refine (Zw.calls k (fun k_=>some k_=(.slice Ao5 y141.length co5:Value).ownBlock) (.slice Ao5 y141.length co5) y141 t144 w _ ?side1 ?side2 A2.out).mono ?_);(case side1=>exact pB);(case side2=>exact Kd.Zbr rfl HO143.out);rintro e w6 ⟨v145,rfl,ho0,hb,hkp⟩;refine ⟨_,rfl,?_⟩;have HO146:=am (Kd.Zi (ok':=fun k_=>True) ho0 (fun k_ hk_=>trivial));replace HB:=am hb;clear HO143))
 go_ret
 exact ⟨_,pE,by refine rp ?_;exact HO146.out,pB⟩
end YtjbjkmccfocikaaGreatDoor.B
end
section
namespace YtjbjkmccfocikaaGreatDoor.P
open Go.RowKit YtjbjkmccfocikaaGreatDoor.B YtjbjkmccfocikaaGreatDoorW.PrintWords YtjbjkmccfocikaaGreatDoorW.PrintLast YtjbjkmccfocikaaGreatDoorW.PrintMore YtjbjkmccfocikaaGreatDoor.P.Nm
theorem Zf6 {m n:Nat} (hm:nd m<=1000000) (hn:nd n<=1000000):Tells (fun k=>Zae.f k (limbs m) (limbs n)) (limbs (m * n)):=by
 have := Zoj (Zc3 m) (Zc3 n) (Nat.le_trans (Zd3 m) hm) (Nat.le_trans (Zd3 n) hn)
 rw [Zc6,Zc6] at this;exact this
theorem Zjl {m n:Nat} (hm:nd m<=1000000) (hn:nd n<=1000000):Tells (fun k=>Zad.f k (limbs m) (limbs n)) (limbs (m + n)):=by
 have := Znz (Zc3 m) (Zc3 n) (Nat.le_trans (Zd3 m) hm) (Nat.le_trans (Zd3 n) hn)
 rw [Zc6,Zc6] at this;exact this
theorem Zk6 {m:Nat} (hm:nd m<=1000000) (n:Nat) (hn:n < 32):Tells (fun k=>Zz.f k (limbs m) (n:Int)) (limbs (m / 2 ^ n)):=by
 have := Zhz (Zc3 m) (Nat.le_trans (Zd3 m) hm) n hn
 rw [Zc6] at this;exact this
theorem Zn7 {m n:Nat} (hm:nd m<=1000000) (hn:nd n<=1000000):Zaw.f (limbs m) (limbs n)=some (cmpN m n):=by
 unfold Zaw.f
 rw [Ze9 hm,Ze9 hn,Bool.and_self,if_pos rfl,Zc6,Zc6]
 congr 1
 unfold cmpI cmpN
 by_cases h1:m < n
 ·rw [if_pos h1,if_pos (by omega)]
 ·rw [if_neg h1,if_neg (by omega)]
  by_cases h2:n < m
  ·rw [if_pos h2,if_pos (by omega)]
  ·rw [if_neg h2,if_neg (by omega)]
theorem Zjt {m n:Nat} (h0:n ≠ 0) (hm:nd m<=1000000) (hn:nd n<=1000000):Zcw.f (limbs m) (limbs n)=some (limbs (m / n),limbs (m % n)):=by
 unfold Zcw.f
 rw [Ze9 hm,Ze9 hn,decide_eq_true (Zd9 h0),Zc6,Zc6];rfl
theorem Zk7 {m:Nat} (hm:nd m<=1000000) (b:Nat) (h0:0 < b) (hb:b < 4294967296):Zcq.f (limbs m) (b:Int)=some (limbs (m / b),((m % b:Nat):Int)):=by
 unfold Zcq.f
 rw [Ze9 hm,decide_eq_true (show (0:Int) < (b:Int) by omega),decide_eq_true (show (b:Int) < 4294967296 by omega),Zc6,Int.toNat_natCast];rfl
theorem Zs1 (m n:Nat):nd (m * n)<=nd m + nd n:=by
 refine Zg3 ?_
 rw [Nat.pow_add]
 exact Nat.mul_lt_mul'' (Zh4 m) (Zh4 n)
theorem Zq3 (m n:Nat):nd (m + n)<=max (nd m) (nd n) + 1:=by
 refine Zg3 ?_
 have h1:=Zh4 m
 have h2:=Zh4 n
 have h3:=Nat.pow_le_pow_right (show 0 < 10 by omega) (Nat.le_max_left (nd m) (nd n))
 have h4:=Nat.pow_le_pow_right (show 0 < 10 by omega) (Nat.le_max_right (nd m) (nd n))
 rw [Nat.pow_succ];omega
theorem Zj0 (k:Nat):nd (10 ^ k)=k + 1:=Zs0 (Nat.le_refl _) (Nat.pow_lt_pow_right (by omega) (by omega))
theorem Zja:∀ (f n o b:Nat),n<=f->n<=2400->nd (o * b ^ n)<=100000->1<=o->1<=b->nd b<=100000->Tells (fun k=>Zbv.l0 k (n:Int) (limbs o) (limbs b)) (limbs (o * b ^ n))
 | f,0,o,b,hf,hn,hd,ho,hb,hb2=>by
  refine Tells.succ ?_
  simp only [Zbv.l0]
  exact Tells.ifn (by omega) ((Tells.pure _).val (by rw [Nat.pow_zero,Nat.mul_one]))
 | 0,n + 1,o,b,hf,hn,hd,ho,hb,hb2=>by omega
 | f + 1,n + 1,o,b,hf,hn,hd,ho,hb,hb2=>by
  have hbp:∀ k,1<=b ^ k:=fun k=>Nat.pow_pos (by omega)
  have hdo:nd o<=100000:=Nat.le_trans (Zdz (Nat.le_mul_of_pos_right o (hbp (n + 1)))) hd
  have hhalf:n + 1=2 * ((n + 1) / 2) + (n + 1) % 2:=(Nat.div_add_mod (n + 1) 2).symm
  have hpw:b ^ (n + 1)=(b * b) ^ ((n + 1) / 2) * b ^ ((n + 1) % 2):=by
   conv=>lhs;rw [hhalf]
   rw [Nat.pow_add,Nat.pow_mul,Nat.pow_two]
  have e1:Int.tmod ((n + 1:Nat):Int) 2=(((n + 1) % 2:Nat):Int):=by rw [Int.tmod_eq_emod_of_nonneg (by omega)];omega
  have e2:Int.tdiv ((n + 1:Nat):Int) 2=(((n + 1) / 2:Nat):Int):=by rw [Int.tdiv_eq_ediv_of_nonneg (by omega)];omega
  have hobb:=Zf6 (m:=o) (n:=b) (by omega) (by omega)
  have hbb:=Zf6 (m:=b) (n:=b) (by omega) (by omega)
  have sq:∀ o',o' * (b * b) ^ ((n + 1) / 2)=o * b ^ (n + 1)->1<=o'->Tells (fun k=>if ((n + 1:Nat):Int) > 1 then ((Zae.f k (limbs b) (limbs b)).bind fun t=>Zbv.l0 k (((n + 1) / 2:Nat):Int) (limbs o') t) else Zbv.l0 k (((n + 1) / 2:Nat):Int) (limbs o') (limbs b)) (limbs (o * b ^ (n + 1))):=fun o' ho' ho1=>by
   by_cases hn1:1 < n + 1
   ·have hnd2:nd (b * b)<=100000:=by
     refine Nat.le_trans (Zdz ?_) hd
     rw [<- ho']
     have h1:(b * b) ^ 1<=(b * b) ^ ((n + 1) / 2):=Nat.pow_le_pow_right (Nat.mul_pos (by omega) (by omega)) (by omega)
     rw [Nat.pow_one] at h1
     exact Nat.le_trans h1 (Nat.le_mul_of_pos_left _ (by omega))
    have ih:=Zja f ((n + 1) / 2) o' (b * b) (by omega) (by omega) (by rw [ho'];exact hd) ho1 (Nat.mul_pos (by omega) (by omega)) hnd2
    rw [ho'] at ih
    exact Tells.ifp (by omega) (hbb.bind ih)
   ·have hz:(n + 1) / 2=0:=by omega
    have ih:=Zja f 0 o' b (by omega) (by omega) (by rw [Nat.pow_zero,Nat.mul_one];rw [hz,Nat.pow_zero,Nat.mul_one] at ho';rw [ho'];exact hd) ho1 hb hb2
    rw [hz,Nat.pow_zero,Nat.mul_one] at ho'
    rw [hz]
    exact Tells.ifn (by omega) (ih.val (by rw [Nat.pow_zero,Nat.mul_one,ho']))
  refine Tells.succ ?_
  simp only [Zbv.l0]
  rw [e1,e2,w64c (by omega)]
  refine Tells.ifp (by omega) ?_
  by_cases ho2:(n + 1) % 2=1
  ·refine Tells.ifp (by omega) (hobb.bind (sq (o * b) ?_ (Nat.mul_pos (by omega) (by omega))))
   rw [hpw,ho2,Nat.pow_one,Nat.mul_assoc,Nat.mul_comm b]
  ·refine Tells.ifn (by omega) (sq o ?_ ho)
   rw [hpw,show (n + 1) % 2=0 by omega,Nat.pow_zero,Nat.mul_one]
theorem Zk2 (n:Nat) (h:n<=2400):Tells (fun k=>Zbv.f k (n:Int)) (limbs (10 ^ n)):=by
 have h1:=Zja n n 1 10 (Nat.le_refl _) h (by rw [Nat.one_mul,Zj0];omega) (by omega) (by omega) (by rw [show nd 10=2 from Zj0 1];omega)
 rw [Nat.one_mul] at h1
 exact h1
theorem Znk (n:Nat) (h:n<=2400):Tells (fun k=>Zfx.f k (n:Int)) (limbs (10 ^ n),0):=by
 unfold Zfx.f
 exact Tells.ifn (by omega) (Tells.ifn (by omega) ((Zk2 n h).bind (Tells.pure _)))
theorem Zon {a x s:Nat} (hs:s * s<=a) (hx:0 < x):s<=(x + a / x) / 2:=by
 have h1:2 * s - x<=a / x:=by
  refine (Nat.le_div_iff_mul_le hx).2 ?_
  rcases Nat.lt_or_ge (2 * s) x with h|h
  ·rw [show 2 * s - x=0 by omega,Nat.zero_mul];exact Nat.zero_le _
  ·refine Nat.le_trans ?_ hs
   rcases Nat.le_total x s with h2|h2
   ·obtain ⟨d,rfl⟩:=Nat.exists_eq_add_of_le h2
    rw [show 2 * (x + d) - x=x + 2 * d by omega,Nat.add_mul,Nat.add_mul,Nat.mul_add,Nat.mul_add,Nat.mul_assoc 2,Nat.mul_comm x d]
    omega
   ·obtain ⟨d,rfl⟩:=Nat.exists_eq_add_of_le h2
    have h3:d<=s:=by omega
    obtain ⟨e,rfl⟩:=Nat.exists_eq_add_of_le h3
    rw [show 2 * (d + e) - (d + e + d)=e by omega]
    simp only [Nat.mul_add,Nat.add_mul,Nat.mul_comm e d]
    omega
 omega
theorem Zoo {a x:Nat} (h:root a < x):(x + a / x) / 2 < x:=by
 obtain ⟨_,h2⟩:=Zgr a
 have h3:a < x * x:=Nat.lt_of_lt_of_le h2 (Nat.mul_le_mul h h)
 have:a / x < x:=(Nat.div_lt_iff_lt_mul (by omega)).2 h3
 omega
theorem Zpe (a:Nat) (ha0:0 < a) (ha:nd a<=500000):∀ (f x:Nat),x<=f->0 < x->root a<=x->nd x<=500000->Tells (fun k=>Zbf.l0 k (limbs a) (limbs x)) (limbs (root a))
 | 0,x,hf,h0,hr,hx=>by omega
 | f + 1,x,hf,h0,hr,hx=>by
  have hd:=Zjt (m:=a) (n:=x) (by omega) (by omega) (by omega)
  have hq:nd (a / x)<=500000:=Nat.le_trans (Zdz (Nat.div_le_self a x)) ha
  have hadd:=Zjl (m:=x) (n:=a / x) (by omega) (by omega)
  have hsum:nd (x + a / x)<=500001:=by have := Zq3 x (a / x);omega
  have hright:=Zk6 (m:=x + a / x) (by omega) 1 (by omega)
  rw [Nat.pow_one] at hright
  have hh:nd ((x + a / x) / 2)<=500001:=Nat.le_trans (Zdz (Nat.div_le_self _ _)) hsum
  have hc:=Zn7 (m:=(x + a / x) / 2) (n:=x) (by omega) (by omega)
  obtain ⟨r1,r2⟩:=Zgr a
  have hge:=Zon r1 h0
  refine Tells.succ ?_
  simp only [Zbf.l0]
  rw [hd]
  refine (Tells.pure _).bind (hadd.bind (hright.bind ?_))
  rw [hc]
  refine (Tells.pure _).bind ?_
  by_cases hx1:root a < x
  ·have hlt:=Zoo hx1
   have ec:¬ (cmpN ((x + a / x) / 2) x >= 0):=by unfold cmpN;rw [if_pos hlt];omega
   have hpos:0 < (x + a / x) / 2:=by
    rcases Nat.eq_zero_or_pos (root a) with h|h
    ·rw [h] at r2;omega
    ·omega
   exact Tells.ifn ec (Zpe a ha0 ha f _ (by omega) hpos hge (Nat.le_trans (Zdz (Nat.le_of_lt hlt)) hx))
  ·have he:x=root a:=by omega
   have ec:cmpN ((x + a / x) / 2) x >= 0:=by unfold cmpN;rw [if_neg (by omega)];split <;> omega
   refine Tells.ifp ec ((Tells.pure _).val ?_)
   rw [he]
theorem Zm6 (a:Nat) (ha:nd a<=10000):Tells (fun k=>Zbf.f k (limbs a)) (limbs (root a)):=by
 unfold Zbf.f
 by_cases h0:a=0
 ·subst h0
  exact Tells.ifp (by rw [Zfk];rfl) (Tells.pure _)
 ·have hl:=Zd3 a
  have hl0:0 < (limbs a).length:=List.length_pos_iff.2 (Zd9 h0)
  obtain ⟨m,hm⟩:∃ m,((limbs a).length + 1) / 2=m:=⟨_,rfl⟩
  have e1:Int.tdiv (((limbs a).length + 1:Nat):Int) 2=(m:Int):=by rw [Int.tdiv_eq_ediv_of_nonneg (by omega)];omega
  have hx:List.replicate m 0 ++ [1]=limbs (4294967296 ^ m):=by
   refine Zl2 ((Dg.zeros (by omega) m).app (Dg.one (by omega) (by omega))) (Zd5.2 (by omega)) ?_
   rw [Zda,Zex,List.length_replicate,pwL];omega
  have hlt:=Zi4 a
  have hroot:root a<=4294967296 ^ m:=by
   refine Nat.not_lt.1 (fun hc=>?_)
   obtain ⟨r1,_⟩:=Zgr a
   have h1:=Nat.mul_le_mul (Nat.le_of_lt hc) (Nat.le_of_lt hc)
   rw [<- Nat.pow_add] at h1
   have h2:=Nat.pow_le_pow_right (show 0 < 4294967296 by omega) (show (limbs a).length<=m + m by omega)
   omega
  have hnx:nd (4294967296 ^ m)<=500000:=by
   have h1:4294967296 ^ m<=10 ^ (10 * m):=by rw [Nat.pow_mul];exact Nat.pow_le_pow_left (by decide) m
   have h2:=Zdz h1
   rw [Zj0] at h2
   omega
  have h:=Zpe a (by omega) (by omega) _ _ (Nat.le_refl _) (Nat.pow_pos (by omega)) hroot hnx
  rw [<- hx] at h
  have hlr:(List.replicate m (0:Int)).length=m:=List.length_replicate
  refine Tells.ifn (by omega) ?_
  rw [w64s (by omega),e1,w64c (by omega),Int.toNat_natCast]
  exact Tells.ifp (by omega) (Tells.ifp (by omega) ((Tells.pure _).bind (Tells.ifp (by rw [hlr];omega) h)))
theorem Zg8 (l:List Int) (hl:l.length<=9223372036854775807):Za0.f l=some (chkL l):=by
 unfold Za0.f;exact Zjr l hl
theorem Zjq {n:Nat} (h:(limbs n).length<=256):chkL (limbs n)=0:=(Zko (Zc3 n)).2 (Zp6 h)
theorem chkN {n:Nat} (h:(limbs n).length<=256):Za0.f (limbs n)=some 0:=by rw [Zg8 _ (by omega),Zjq h]
theorem cmpOr2 (a b:Int):Tells (fun k=>Zbs.f k [a,b]) (if a=0 then b else a):=by
 unfold Zbs.f
 refine Tells.succ ?_
 simp only [Zbs.l0]
 refine Tells.ifp (by simp) (Tells.ifp (by decide) (Tells.ifp (by simp) ?_))
 have e0:rd [a,b] 0=a:=rfl
 have e1:rd [a,b] 1=b:=rfl
 have e2:wrap64 (0 + 1)=1:=by decide +kernel
 have e3:wrap64 (1 + 1)=2:=by decide +kernel
 rw [e0,e2]
 by_cases h:a=0
 ·refine Tells.ifp h ?_
  rw [if_pos h]
  refine Tells.succ ?_
  simp only [Zbs.l0]
  rw [e1,e3]
  refine Tells.ifp (by simp) (Tells.ifp (by decide) (Tells.ifp (by simp) ?_))
  by_cases h2:b=0
  ·refine Tells.ifp h2 (Tells.succ ?_)
   simp only [Zbs.l0]
   refine Tells.ifn (by simp) ((Tells.pure _).val h2.symm)
  ·exact Tells.ifn h2 (Tells.pure _)
 ·refine Tells.ifn h ?_
  rw [if_neg h]
  exact Tells.pure _
theorem Zke {m n:Nat} (hm:(limbs m).length<=256) (hn:(limbs n).length<=256):Tells (fun k=>Zdg.f k (limbs m) (limbs n)) 0:=by
 unfold Zdg.f
 rw [chkN hm,chkN hn]
 exact (Tells.pure _).bind ((Tells.pure _).bind ((cmpOr2 0 0).bind (Tells.pure _)))
theorem Zsu (n:Nat):Zd1.f (limbs n)=some (fit n):=by
 unfold Zd1.f fit
 by_cases h:(limbs n).length<=256
 ·rw [if_neg (by omega),if_pos h]
 ·rw [if_pos (by omega),if_neg h]
theorem Zst {n:Nat} (h:(limbs n).length<=256):fit n=(limbs n,0):=by unfold fit;rw [if_pos h]
theorem Zjz {n k:Nat} (h:(limbs n).length<=k):nd n<=10 * k:=by
 refine Zg3 (Nat.lt_of_lt_of_le (Zi4 n) ?_)
 refine Nat.le_trans (Nat.pow_le_pow_right (by omega) h) ?_
 rw [Nat.pow_mul]
 exact Nat.pow_le_pow_left (by decide) _
theorem Zer {n:Nat} (h:(limbs n).length<=256):nd n<=2560:=Zjz h
theorem Zmn (n:Nat) (h:n < 18446744073709551616):Tells (fun k=>Zc4.f k (n:Int)) (limbs n):=by
 unfold Zc4.f
 have e1:((n:Int) / 4294967296) % 4294967296=((n / 4294967296:Nat):Int):=by omega
 rw [emod32,e1]
 refine (Zdi (n:=n) (Dg.cons (by omega) (by omega) (Dg.one (by omega) (by omega))) ?_ (by simp)).bind (Tells.pure _)
 rw [Zb1,val_one];omega
theorem Znh {m n:Nat} (hm:(limbs m).length<=256) (hn:(limbs n).length<=256):Tells (fun k=>Zdn.f k (limbs m) (limbs n)) (fit (m * n)):=by
 have h1:=Zer hm
 have h2:=Zer hn
 unfold Zdn.f
 refine (Zke hm hn).bind (Tells.ifp rfl ((Zf6 (m:=m) (n:=n) (by omega) (by omega)).bind ?_))
 rw [Zsu]
 exact (Tells.pure _).bind (Tells.pure _)
theorem Zjf {m n:Nat} (hm:(limbs m).length<=256) (hn:(limbs n).length<=256):Tells (fun k=>Zdm.f k (limbs m) (limbs n)) (if n=0 then ([],[],53) else (limbs (m / n),limbs (m % n),0)):=by
 have h1:=Zer hm
 have h2:=Zer hn
 unfold Zdm.f
 refine (Zke hm hn).bind (Tells.ifp rfl ?_)
 by_cases h:n=0
 ·subst h
  exact Tells.ifp (by rw [Zfk];rfl) (Tells.pure _)
 ·have hl0:0 < (limbs n).length:=List.length_pos_iff.2 (Zd9 h)
  rw [if_neg h,Zjt h (by omega) (by omega)]
  exact Tells.ifn (by omega) ((Tells.pure _).bind (Tells.pure _))
theorem Zms {m:Nat} (hm:(limbs m).length<=256):Tells (fun k=>Zej.f k (limbs m)) (limbs (root m),0):=by
 have h1:=Zer hm
 unfold Zej.f
 rw [chkN hm]
 exact (Tells.pure _).bind (Tells.ifp rfl ((Zm6 m (by omega)).bind (Tells.pure _)))
theorem Zsn (l:List Int) (hl:l.length<=1000000):∀ (d i:Nat) (x:List Int),l.length - 2 * i<=d->2 * i<=l.length + 1->x.length=l.length->(∀ p,p < l.length->x.getD p 0=if p < i\/l.length - i<=p then l.getD (l.length - 1 - p) 0 else l.getD p 0) ->
  Tells (fun k=>Zl.l0 k x (i:Int) ((l.length:Int) - 1 - i)) l.reverse:=by
 have fin:∀ (x:List Int),x.length=l.length->(∀ p,p < l.length->x.getD p 0=l.getD (l.length - 1 - p) 0)->x=l.reverse:=fun x hx h=>by
  refine List.ext_getElem (by simp [hx]) (fun p h1 h2=>?_)
  have := h p (by omega)
  rw [getD_in h1,getD_in (by omega)] at this
  rw [this,List.getElem_reverse]
 intro d
 induction d with
 | zero =>
  intro i x hd hi hx h
  have c:¬ ((i:Int) < (l.length:Int) - 1 - i):=by omega
  refine Tells.succ ?_
  simp only [Zl.l0]
  refine Tells.ifn c ((Tells.pure _).val (fin x hx (fun p hp=>?_)))
  rw [h p hp]
  by_cases hq:p < i\/l.length - i<=p
  ·rw [if_pos hq]
  ·rw [if_neg hq,show l.length - 1 - p=p by omega]
 | succ d ih =>
  intro i x hd hi hx h
  by_cases c:(i:Int) < (l.length:Int) - 1 - i
  ·obtain ⟨j,hj⟩:∃ j:Nat,(l.length:Int) - 1 - i=j:=⟨l.length - 1 - i,by omega⟩
   have hij:i < j:=by omega
   have hjl:j < l.length:=by omega
   have hxi:=h i (by omega)
   have hxj:=h j hjl
   rw [if_neg (by omega)] at hxi hxj
   have hnext:=ih (i + 1) ((x.set i (x.getD j 0)).set j (x.getD i 0)) (by omega) (by omega) (by simp [hx]) (fun p hp=>by
    by_cases hpj:p=j
    ·subst hpj
     rw [List.getD,List.getElem?_set_self (by simp;omega),if_pos (by omega),hxi,show l.length - 1 - p=i by omega];rfl
    ·rw [getD_set_ne _ (Ne.symm hpj)]
     by_cases hpi:p=i
     ·subst hpi
      rw [List.getD,List.getElem?_set_self (by omega),if_pos (by omega),hxj,show l.length - 1 - p=j by omega];rfl
     ·rw [getD_set_ne _ (Ne.symm hpi),h p hp]
      by_cases hq:p < i\/l.length - i<=p
      ·rw [if_pos hq,if_pos (by omega)]
      ·rw [if_neg hq,if_neg (by omega)])
   have e2:(l.length:Int) - 1 - ((i + 1:Nat):Int)=(j:Int) - 1:=by omega
   rw [e2] at hnext
   rw [hj]
   refine Tells.succ ?_
   simp only [Zl.l0]
   rw [rd_n,rd_n,Int.toNat_natCast,Int.toNat_natCast,w64s (by omega),w64d (by omega)]
   exact Tells.ifp (by omega) (Tells.ifp (by omega) (Tells.ifp (by omega) (Tells.ifp (by omega) (Tells.ifp (by omega) hnext))))
  ·refine Tells.succ ?_
   simp only [Zl.l0]
   refine Tells.ifn c ((Tells.pure _).val (fin x hx (fun p hp=>?_)))
   rw [h p hp]
   by_cases hq:p < i\/l.length - i<=p
   ·rw [if_pos hq]
   ·rw [if_neg hq,show l.length - 1 - p=p by omega]
theorem Znv (l:List Int) (hl:l.length<=1000000):Tells (fun k=>Zl.f k l) l.reverse:=by
 have h:=Zsn l hl _ 0 l (Nat.le_refl _) (by omega) rfl (fun p hp=>by rw [if_neg (by omega)])
 unfold Zl.f
 rw [w64d (by omega)]
 have e:(l.length:Int) - 1 - ((0:Nat):Int)=(l.length:Int) - 1:=by omega
 rw [e] at h
 exact h
theorem Zlk (n:Nat) (hn:nd n<=1000000) (q:Nat) (hl0:∀ D:List Int,D ++ digs q=digs n->Tells (fun k=>Zar.l0 k (D.map fun d=>48 + d) (limbs q)) (decT n,0)) :
  ∀ (e:Nat),e<=9 -> ∀ (r:Nat) (D:List Int),r < 10 ^ e->D ++ digs (r + q * 10 ^ e)=digs n ->
  Tells (fun k=>Zar.l1 k (D.map fun d=>48 + d) (limbs q) (r:Int) ((9 - e:Nat):Int)) (decT n,0)
 | 0,he,r,D,hr,hD=>by
  rw [Nat.pow_zero,Nat.mul_one] at hD
  obtain rfl:r=0:=by rw [Nat.pow_zero] at hr;omega
  rw [Nat.zero_add] at hD
  refine Tells.succ ?_
  simp only [Zar.l1]
  exact Tells.ifn (by omega) (hl0 D hD)
 | e + 1,he,r,D,hr,hD=>by
  have hr9:r < 1000000000:=Nat.lt_of_lt_of_le hr (Nat.le_trans (Nat.pow_le_pow_right (by omega) he) (by decide))
  have hlen:D.length<=1000000:=by
   have := congrArg List.length hD
   rw [List.length_append] at this
   have h2:(digs n).length<=1000000:=hn
   omega
  have ih:=Zlk n hn q hl0 e (by omega)
  have go:r + q * 10 ^ (e + 1) ≠ 0->Tells (fun k=>Zar.l1 k ((D.map fun d=>48 + d) ++ [(48 + (Int.tmod (r:Int) 10)) % 256]) (limbs q) ((Int.tdiv (r:Int) 10) % 4294967296) (wrap64 (((9 - (e + 1):Nat):Int) + 1))) (decT n,0):=fun hne=>by
   have hpw:10 ^ (e + 1)=10 * 10 ^ e:=by rw [Nat.pow_succ,Nat.mul_comm]
   have e1:(r + q * 10 ^ (e + 1)) % 10=r % 10:=by rw [hpw,Nat.mul_left_comm,Nat.add_mul_mod_self_left]
   have e2:(r + q * 10 ^ (e + 1)) / 10=r / 10 + q * 10 ^ e:=by rw [hpw,Nat.mul_left_comm,Nat.add_mul_div_left _ _ (by omega)]
   have hstep:=Zdp hne
   rw [e1,e2] at hstep
   have h2:=ih (r / 10) (D ++ [((r % 10:Nat):Int)]) ((Nat.div_lt_iff_lt_mul (by omega)).2 (by rw [Nat.mul_comm,<- hpw];exact hr)) (by rw [List.append_assoc,List.singleton_append,<- hstep];exact hD)
   rw [List.map_append] at h2
   have f1:(48 + (Int.tmod (r:Int) 10)) % 256=48 + ((r % 10:Nat):Int):=by rw [tmodc];omega
   have f2:(Int.tdiv (r:Int) 10) % 4294967296=((r / 10:Nat):Int):=by rw [Int.tdiv_eq_ediv_of_nonneg (by omega)];omega
   have f3:9 - (e + 1) + 1=9 - e:=by omega
   rw [f1,f2,w64s (by omega),f3]
   exact h2
  have c1:((9 - (e + 1):Nat):Int) < 9:=by omega
  have c2:(D.map fun d=>48 + d).length < 140737488355328:=by rw [List.length_map];omega
  refine Tells.succ ?_
  simp only [Zar.l1]
  refine Tells.ifp c1 ?_
  by_cases hq:q=0
  ·subst hq
   refine Tells.ifn (by rw [Zfk];simp) ?_
   by_cases hr0:r=0
   ·subst hr0
    rw [Nat.zero_mul,Nat.add_zero] at hD
    exact Tells.ifn (by omega) (hl0 D hD)
   ·exact Tells.ifp (by omega) (Tells.ifp c2 (go (by omega)))
  ·have hl1:0 < (limbs q).length:=List.length_pos_iff.2 (Zd9 hq)
   exact Tells.ifp (by omega) (Tells.ifp c2 (go (by have := Nat.mul_pos (Nat.pos_of_ne_zero hq) (Zcj (e + 1));omega)))
theorem Zpo (n:Nat) (hn:nd n<=1000000):∀ (f x:Nat) (D:List Int),x<=f->D ++ digs x=digs n->Tells (fun k=>Zar.l0 k (D.map fun d=>48 + d) (limbs x)) (decT n,0):=by
 have fin:∀ D:List Int,D=digs n->Tells (fun k=>Zar.l0 k (D.map fun d=>48 + d) (limbs 0)) (decT n,0):=fun D hD=>by
  have hl:(digs n).length<=1000000:=hn
  refine Tells.succ ?_
  simp only [Zar.l0]
  refine Tells.ifn (by rw [Zfk];simp) ?_
  by_cases h0:n=0
  ·subst h0
   subst hD
   exact Tells.ifp rfl (Tells.pure _)
  ·have hpos:0 < (digs n).length:=Zhr h0
   refine Tells.ifn (by rw [List.length_map,hD];omega) ((Znv _ (by rw [List.length_map,hD];exact hl)).bind ((Tells.pure _).val ?_))
   rw [<- List.map_reverse,hD,Zm8 n h0]
 intro f
 induction f with
 | zero =>
  intro x D hf hD
  obtain rfl:x=0:=by omega
  rw [Ze6,List.append_nil] at hD
  exact fin D hD
 | succ f ih =>
  intro x D hf hD
  by_cases h0:x=0
  ·subst h0
   rw [Ze6,List.append_nil] at hD
   exact fin D hD
  ·have hx:nd x<=1000000:=by
    have := congrArg List.length hD
    rw [List.length_append] at this
    have h2:(digs n).length<=1000000:=hn
    show (digs x).length<=_
    omega
   have hpos:0 < (limbs x).length:=List.length_pos_iff.2 (Zd9 h0)
   have h1:=Zlk n hn (x / 1000000000) (fun D' hD'=>ih (x / 1000000000) D' (by omega) hD') 9 (by omega) (x % 1000000000) D (Nat.mod_lt _ (by omega)) (by
    rw [show x % 1000000000 + x / 1000000000 * 10 ^ 9=x by omega];exact hD)
   refine Tells.succ ?_
   simp only [Zar.l0]
   rw [show (1000000000:Int)=((1000000000:Nat):Int) from rfl,Zk7 hx 1000000000 (by omega) (by omega)]
   exact Tells.ifp (by omega) ((Tells.pure _).bind h1)
theorem Zfu {n:Nat} (h:(limbs n).length<=256):Tells (fun k=>Zar.f k (limbs n)) (decT n,0):=by
 have hn:=Zer h
 unfold Zar.f
 rw [chkN h]
 exact (Tells.pure _).bind (Tells.ifp rfl (Zpo n (by omega) n n [] (Nat.le_refl _) rfl))
end YtjbjkmccfocikaaGreatDoor.P
end
section
namespace YtjbjkmccfocikaaGreatDoor.B
open Go.RowKit YtjbjkmccfocikaaGreatDoorW.PrintWords YtjbjkmccfocikaaGreatDoorW.PrintLast YtjbjkmccfocikaaGreatDoorW.PrintMore
attribute [local go_sem] Zb7 Zb9 Zcu Zcv Zbt Zbu Zb8 Zca
def Zo.l0:Nat->List Int->Bool->List Int->Int->Option (Bool × List Int × Int × Int)
 | 0,_,_,_,_=>none
 | k + 1,x4,x523000,x523001,x523002=>if 0 < (x4.length:Int) then (if (rd x4 0)=0 then (if 1<=(x4.length:Int) then (Zo.l0 k (x4.drop (1:Int).toNat) x523000 x523001 (wrap64 (x523002 + 1))) else (none)) else (if (x4.length:Int) > 300 then (some (false,([]:List Int),0,51)) else (if x523002 < (-1000) then (some (false,([]:List Int),0,52)) else (if x523002 > 1000 then (some (false,([]:List Int),0,52)) else ((Zx.f k x4).bind fun t531=>(some (x523000,t531,x523002,0))))))) else (none)
def Zo.f (k:Nat) (a0_0:Bool) (l0_1:List Int) (a0_2:Int):Option (Bool × List Int × Int × Int):=(Zai.f k l0_1).bind fun t524=>(if (t524.length:Int)=0 then (some (false,([]:List Int),0,0)) else (Zo.l0 k t524 a0_0 ([]:List Int) a0_2))
def Zo.T11:Bool × List (List Nat × List Nat):=(true,[([],[]),([0],[0]),([],[]),([2],[2]),([],[]),([4],[4]),([1,3,5],[1,3,5]),([6,3,0,1,2,3,4,5,6],[6]),([7,0,1,2,3,4,5,6,7],[])])
def Zo.B11:List Nat:=[0,1,0,4,0,16,63,127,255]
theorem Zo.tab11:rtab .any (opsOf Tryz.f23 11)=Zo.T11:=by kernel_rfl
theorem Zo.bits11:waitsOk Zo.T11.2 Zo.B11=true:=by kernel_rfl
theorem Zo.calls (k:Nat) (a0_0:Bool) (P0_1_:Nat->Prop) (u9000_:Value) (l0_1:List Int) (a0_2:Int) (r1:Bool) (r2:List Int) (r3:Int) (r4:Int) (w0 w:World) (hB:Below w0.heap.size w0 w) (ho0_1:Kd.R (Kd.int .i64) 3 w w0.heap.size P0_1_ u9000_ l0_1) (h:Zo.f k a0_0 l0_1 a0_2=some (r1,r2,r3,r4)) :
  Calls Tryz.prog 23 #[.agg #[.bool a0_0,u9000_,.int .i64 a0_2]] w fun e w' => ∃ v1_:Value,e=.returned (.tuple #[.agg #[.bool r1,v1_,.int .i64 r3],.int .i64 r4])/\Kd.R (Kd.int .u32) 85 w' w0.heap.size (fun k_=>(P0_1_ k_\/w.heap.size<=k_)) v1_ r2/\Below w0.heap.size w0 w'/\Kept w w' (fun k_=>P0_1_ k_):=by
 have hu30:=Tryz.underlying30
 have hu24:=Tryz.underlying24
 have HO0_1:=am (show Kd.R (Kd.int .i64) 3 w w0.heap.size (fun k_=>(P0_1_ k_\/w.heap.size<=k_)) u9000_ l0_1 from Kd.Zi ho0_1 (fun k_ hk=>(.inl hk)))
 have HK:=am (Kept.refl w (fun k_=>P0_1_ k_))
 have HW0:=am hB.size
 have HB:=am hB
 clear hB
 have H:((Zai.f k l0_1).bind fun t524=>(if (t524.length:Int)=0 then (some (false,([]:List Int),0,0)) else (Zo.l0 k t524 a0_0 ([]:List Int) a0_2)))=some (r1,r2,r3,r4):=h
 clear h
 obtain ⟨t524,A2,H⟩:=ob H
 by_cases c3:(t524.length:Int)=0
 ·rw [if_pos c3] at H
  have c3b0:((t524.length:Int) == 0)=true:=beq_iff_eq.mpr c3
  have c3b1:((t524.length:Int) != 0)=false:=bne_eq_false_iff_eq.mpr c3
  clear c3
  simp only [Option.some.injEq,Prod.mk.injEq] at H
  obtain ⟨rfl,rfl,rfl,rfl⟩:=H
  obtain ⟨Ao4,co4,eo4⟩:=Kd.Zm HO0_1.out
  subst eo4
  go_enter Tryz.func23,Tryz.ntmps23
  go_wp2_with (first|((with_reducible refine gd 1 ?_);refine bx 1 #[.bool a0_0,.slice Ao4 l0_1.length co4,.int .i64 a0_2] 30 (h:=?_);intro gb522 hg w5 hbox hb;have BK522:=am hbox;have GW522:=am ((by rw [hg];exact (by first|exact HK.out.1|exact (show Kept w _ (fun k_=>P0_1_ k_) from by repeat (first|(with_reducible first|exact HK.out|apply Kept.alloc|apply Kept.drewN|apply Kept.drew)|exact HK.out)).1):w.heap.size<=gb522));have GE522:=am ((gw hg pB:w0.heap.size<=gb522));replace HO0_1:=rbl HO0_1 hb;replace HK:=am (Kept.below (S:=(fun k_=>P0_1_ k_)) (by repeat (first|(with_reducible first|exact HK.out|apply Kept.alloc|apply Kept.drewN|apply Kept.drew)|exact HK.out)) hb);replace HB:=bS hb;clear hb hbox hg)|((with_reducible refine gd 2 ?_);refine bx 2 #[.bool false,.slice none 0 0,.int .i64 0] 24 (h:=?_);intro gb523 hg w6 hbox hb;have BK523:=am hbox;have GW523:=am ((by rw [hg];exact (by first|exact HK.out.1|exact (show Kept w _ (fun k_=>P0_1_ k_) from by repeat (first|(with_reducible first|exact HK.out|apply Kept.alloc|apply Kept.drewN|apply Kept.drew|refine Kept.setCell ?_ (.inr GW522.out) _)|exact HK.out)).1):w.heap.size<=gb523));have GE523:=am ((gw hg pB:w0.heap.size<=gb523));have NB522_523:=nL hg BK522;have NB523_522:=nG hg BK522;replace HO0_1:=rbl HO0_1 hb;replace BK522:=bb BK522 hb;replace HK:=am (Kept.below (S:=(fun k_=>P0_1_ k_)) (by repeat (first|(with_reducible first|exact HK.out|apply Kept.alloc|apply Kept.drewN|apply Kept.drew|refine Kept.setCell ?_ (.inr GW522.out) _)|exact HK.out)) hb);replace HB:=bS hb;clear hb hbox hg;have hnb7:=NB522_523.out;have hnc7:=NB523_522.out;obtain ⟨hcz8_0,hcz8_1,hcz8_2,hfz8_0,hfz8_1,hfz8_2⟩:=cEc BK522.out)|(refine gL (some 7) Tryz.func79 #[.slice Ao4 l0_1.length co4] (h:=?_);(with_reducible refine (Zai.calls k (fun k_=>some k_=(.slice Ao4 l0_1.length co4:Value).ownBlock) (.slice Ao4 l0_1.length co4) l0_1 t524 w0 _ ?side1 ?side2 A2.out).mono ?_);(case side1=>exact pB);(case side2=>exact Kd.Zbr rfl HO0_1.out);rintro e w9 ⟨v525,rfl,ho0,hb,hkp⟩;refine ⟨_,rfl,?_⟩;have HO526:=am (Kd.Zi (ok':=fun k_=>(P0_1_ k_\/w.heap.size<=k_)) ho0 (fun k_ hk_=>Or.elim hk_ (fun hs_=>(HO0_1.out.1 k_ (hs_).symm)) (fun hn_=>(.inr (Nat.le_trans (by first|exact HK.out.1|exact (show Kept w _ (fun k_=>P0_1_ k_) from by repeat (first|(with_reducible first|exact HK.out|apply Kept.alloc|apply Kept.drewN|apply Kept.drew|refine Kept.setCell ?_ (.inr GW522.out) _|refine Kept.setCell ?_ (.inr GW523.out) _)|exact HK.out)).1) hn_)))));replace BK522:=am (Za2 (Zc BK522.out pl) hkp (fun e_=>Kd.R_ne HO0_1.out BK522.out (by decide) e_));replace BK523:=am (Za2 (Zc BK523.out pl) hkp (fun e_=>Kd.R_ne HO0_1.out BK523.out (by decide) e_));replace HK:=am (Kept.then_ (S:=(fun k_=>P0_1_ k_)) (by repeat (first|(with_reducible first|exact HK.out|apply Kept.alloc|apply Kept.drewN|apply Kept.drew|refine Kept.setCell ?_ (.inr GW522.out) _|refine Kept.setCell ?_ (.inr GW523.out) _)|exact HK.out)) hkp (fun k_ hs_=>(fun e_=>(HO0_1.out.1 k_ e_.symm)) hs_));replace HB:=am hb;clear HO0_1;obtain ⟨Ao10,co10,eo10⟩:=Kd.Zm HO526.out;subst eo10;obtain ⟨hcz11_0,hcz11_1,hcz11_2,hfz11_0,hfz11_1,hfz11_2⟩:=cEc BK523.out))
  refine bodyPost_ret (Za8 rfl _ _ gb523 24 #[.bool false,.slice none 0 0,.int .i64 0] (0,0) _ rfl (by exact p3 BK523) Tryz.underlying24 rfl (by kernel_rfl)) rfl ?_
  exact ⟨_,pE,pN,pB,by repeat (first|(with_reducible first|exact HK.out|apply Kept.alloc|apply Kept.drewN|apply Kept.drew|refine Kept.setCell ?_ (.inr GW522.out) _|refine Kept.setCell ?_ (.inr GW523.out) _)|exact HK.out)⟩
 ·rw [if_neg c3] at H
  have c3b0:((t524.length:Int) == 0)=false:=beq_eq_false_iff_ne.mpr c3
  have c3b1:((t524.length:Int) != 0)=true:=bne_iff_ne.mpr c3
  have c3b2:¬ (t524=[]):=fun h_=>c3 (by rw [h_];rfl)
  have H':=am H
  clear H
  obtain ⟨Ao12,co12,eo12⟩:=Kd.Zm HO0_1.out
  subst eo12
  go_enter Tryz.func23,Tryz.ntmps23
  go_wp2_with (first|((with_reducible refine gd 1 ?_);refine bx 1 #[.bool a0_0,.slice Ao12 l0_1.length co12,.int .i64 a0_2] 30 (h:=?_);intro gb522 hg w13 hbox hb;have BK522:=am hbox;have GW522:=am ((by rw [hg];exact (by first|exact HK.out.1|exact (show Kept w _ (fun k_=>P0_1_ k_) from by repeat (first|(with_reducible first|exact HK.out|apply Kept.alloc|apply Kept.drewN|apply Kept.drew)|exact HK.out)).1):w.heap.size<=gb522));have GE522:=am ((gw hg pB:w0.heap.size<=gb522));replace HO0_1:=rbl HO0_1 hb;replace HK:=am (Kept.below (S:=(fun k_=>P0_1_ k_)) (by repeat (first|(with_reducible first|exact HK.out|apply Kept.alloc|apply Kept.drewN|apply Kept.drew)|exact HK.out)) hb);replace HB:=bS hb;clear hb hbox hg)|((with_reducible refine gd 2 ?_);refine bx 2 #[.bool false,.slice none 0 0,.int .i64 0] 24 (h:=?_);intro gb523 hg w14 hbox hb;have BK523:=am hbox;have GW523:=am ((by rw [hg];exact (by first|exact HK.out.1|exact (show Kept w _ (fun k_=>P0_1_ k_) from by repeat (first|(with_reducible first|exact HK.out|apply Kept.alloc|apply Kept.drewN|apply Kept.drew|refine Kept.setCell ?_ (.inr GW522.out) _)|exact HK.out)).1):w.heap.size<=gb523));have GE523:=am ((gw hg pB:w0.heap.size<=gb523));have NB522_523:=nL hg BK522;have NB523_522:=nG hg BK522;replace HO0_1:=rbl HO0_1 hb;replace BK522:=bb BK522 hb;replace HK:=am (Kept.below (S:=(fun k_=>P0_1_ k_)) (by repeat (first|(with_reducible first|exact HK.out|apply Kept.alloc|apply Kept.drewN|apply Kept.drew|refine Kept.setCell ?_ (.inr GW522.out) _)|exact HK.out)) hb);replace HB:=bS hb;clear hb hbox hg;have hnb15:=NB522_523.out;have hnc15:=NB523_522.out;obtain ⟨hcz16_0,hcz16_1,hcz16_2,hfz16_0,hfz16_1,hfz16_2⟩:=cEc BK522.out)|(refine gL (some 7) Tryz.func79 #[.slice Ao12 l0_1.length co12] (h:=?_);(with_reducible refine (Zai.calls k (fun k_=>some k_=(.slice Ao12 l0_1.length co12:Value).ownBlock) (.slice Ao12 l0_1.length co12) l0_1 t524 w0 _ ?side1 ?side2 A2.out).mono ?_);(case side1=>exact pB);(case side2=>exact Kd.Zbr rfl HO0_1.out);rintro e w17 ⟨v525,rfl,ho0,hb,hkp⟩;refine ⟨_,rfl,?_⟩;have HO526:=am (Kd.Zi (ok':=fun k_=>(P0_1_ k_\/w.heap.size<=k_)) ho0 (fun k_ hk_=>Or.elim hk_ (fun hs_=>(HO0_1.out.1 k_ (hs_).symm)) (fun hn_=>(.inr (Nat.le_trans (by first|exact HK.out.1|exact (show Kept w _ (fun k_=>P0_1_ k_) from by repeat (first|(with_reducible first|exact HK.out|apply Kept.alloc|apply Kept.drewN|apply Kept.drew|refine Kept.setCell ?_ (.inr GW522.out) _|refine Kept.setCell ?_ (.inr GW523.out) _)|exact HK.out)).1) hn_)))));replace BK522:=am (Za2 (Zc BK522.out pl) hkp (fun e_=>Kd.R_ne HO0_1.out BK522.out (by decide) e_));replace BK523:=am (Za2 (Zc BK523.out pl) hkp (fun e_=>Kd.R_ne HO0_1.out BK523.out (by decide) e_));replace HK:=am (Kept.then_ (S:=(fun k_=>P0_1_ k_)) (by repeat (first|(with_reducible first|exact HK.out|apply Kept.alloc|apply Kept.drewN|apply Kept.drew|refine Kept.setCell ?_ (.inr GW522.out) _|refine Kept.setCell ?_ (.inr GW523.out) _)|exact HK.out)) hkp (fun k_ hs_=>(fun e_=>(HO0_1.out.1 k_ e_.symm)) hs_));replace HB:=am hb;clear HO0_1;obtain ⟨Ao18,co18,eo18⟩:=Kd.Zm HO526.out;subst eo18))
  go_loopg [4] k (fun kq v4 w' => ∃ (x4_1:List Int) (x523002_1:Int),Aside0 (Zo.l0 kq x4_1 a0_0 ([]:List Int) x523002_1=some (r1,r2,r3,r4))/\Aside0 (kq<=k)/\Aside0 (Kd.Q (Kd.int .i64) 3 w' w0.heap.size (fun k_=>(P0_1_ k_\/w.heap.size<=k_)) v4 x4_1)/\Aside0 (w'.heap[gb522]? = some (.cells #[.bool a0_0,(.slice Ao12 l0_1.length co12),.int .i64 x523002_1] 30 (0,0)))/\Aside0 (w'.heap[gb523]? = some (.cells #[.bool false,(.slice none 0 0),.int .i64 0] 24 (0,0)))/\Aside0 (Kept w w' (fun k_=>P0_1_ k_))/\Aside0 (Below w0.heap.size w0 w'))
  case atStart=>exact ⟨(t524),(a0_2),H',⟨Nat.le_refl _⟩,⟨Kd.Zqu (Kd.Za HO526.out pl)⟩,⟨Zc BK522.out pl⟩,⟨Zc BK523.out pl⟩,⟨by repeat (first|(with_reducible first|exact HK.out|apply Kept.alloc|apply Kept.drewN|apply Kept.drew|refine Kept.setCell ?_ (.inr GW522.out) _|refine Kept.setCell ?_ (.inr GW523.out) _)|exact HK.out)⟩,⟨pB⟩⟩
  case round =>
   clear H'
   obtain ⟨x4_1,x523002_1,HA,HK1,HO_4,BK522,BK523,HK,HB⟩:=hrel
   cases gk with
   | zero=>exact absurd HA.out (by simp [Zo.l0])
   | succ k1 =>
    have H:=HA.out
    clear HA
    simp only [Zo.l0] at H
    by_cases c19:0 < (x4_1.length:Int)
    ·rw [if_pos c19] at H
     have c19b0:decide (0 < (x4_1.length:Int))=true:=decide_eq_true c19
     have c19b1:decide (0 < x4_1.length)=true:=decide_eq_true (by omega)
     clear c19
     by_cases c20:(rd x4_1 0)=0
     ·rw [if_pos c20] at H
      have c20b0:((rd x4_1 0) == 0)=true:=beq_iff_eq.mpr c20
      have c20b1:((rd x4_1 0) != 0)=false:=bne_eq_false_iff_eq.mpr c20
      clear c20
      by_cases c21:1<=(x4_1.length:Int)
      ·rw [if_pos c21] at H
       have c21b0:=eq_true c21
       have c21b1:decide (1<=(x4_1.length:Int))=true:=decide_eq_true c21
       clear c21
       obtain ⟨y528,hy528⟩:∃ y_:List Int,y_=(x4_1.drop (1:Int).toNat):=⟨_,rfl⟩
       replace H:(Zo.l0 k1 y528 a0_0 ([]:List Int) (wrap64 (x523002_1 + 1)))=some (r1,r2,r3,r4):=by have hy_:=hy528;exact pH
       have Ny528:=am hy528
       clear hy528
       have H':=am H
       clear H
       obtain ⟨Ao22,co22,eo22,_⟩:=Kd.Zhc HO_4.out
       subst eo22
       have p527:0<=(0:Int):=(by omega)
       have q527:0 < (x4_1.length:Int):=of_decide_eq_true pQ
       obtain ⟨ad527,e527,hx527_0⟩:=Kd.Za4 (Kd.Zeh HO_4.out).2.2 0 p527 q527
       cases e527
       have qi527:(0 < x4_1.length)=True:=eq_true (by omega)
       (try rw [show ((0:Int)).toNat=0 from rfl] at hx527_0)
       (try rw [Addr.add_zero'] at hx527_0)
       replace p527:=eq_true p527
       replace q527:=eq_true q527
       have q23:(1:Int)<=((x4_1.length:Int):Int):=of_decide_eq_true pQ
       obtain ⟨i023,hi023,_,hsz23,_⟩:=info_parts info3
       have hcut23:=Zpz (P:=Tryz.prog) 28 3 .i64 Tryz.underlying28 hi023 1 hsz23 (some ad527) x4_1.length co22 1 (by omega) q23
       have hr23:=Kd.Zsh (k:=(1:Int).toNat) HO_4.out (by omega)
       obtain ⟨A23,hA23⟩:∃ A1,A1=(if co22=(1:Int).toNat then (some ad527) else ((some ad527):Option Addr).map (·.add ((1:Int).toNat * 1))):=⟨_,rfl⟩
       obtain ⟨c23,hc23⟩:∃ c1,c1=co22 - (1:Int).toNat:=⟨_,rfl⟩
       have hy23:y528.length=x4_1.length - (1:Int).toNat:=(by rw [Ny528.out,List.length_drop])
       rw [<- Ny528.out] at hr23
       rw [<- hy23,<- hA23,<- hc23] at hcut23
       replace hr23:Kd.Q (Kd.int .i64) 3 wr w0.heap.size (fun k_=>(P0_1_ k_\/w.heap.size<=k_)) (.slice A23 y528.length c23) y528:=(by rw [hA23,hc23,hy23];exact hr23)
       have HE23:Aside0 ((Value.slice A23 y528.length c23).ownBlock=(.slice (some ad527) x4_1.length co22:Value).ownBlock):=⟨by rw [hA23];split <;> (cases ((some ad527):Option Addr) <;> rfl)⟩
       clear hy23 hi023 hsz23 HO_4 hA23 hc23
       have HO530:=am hr23
       clear hr23
       replace q23:=eq_true q23
       have hnb24:=NB522_523.out
       have hnc24:=NB523_522.out
       obtain ⟨hcz25_0,hcz25_1,hcz25_2,hfz25_0,hfz25_1,hfz25_2⟩:=cEc BK522.out
       go_wp2
       go_roundg k1
       case measure=>have := HK1.out;omega
       case rel=>exact ⟨(y528),(wrap64 (x523002_1 + 1)),H',⟨by have := HK1.out;omega⟩,⟨by (with_reducible repeat (first|apply Kd.Znn|apply Kd.Znq|apply Kd.Znp));exact Kd.Znr (Kd.Ztk (p:=⟨gb522,2,none⟩) (Kd.Zrc HO530.out BK522.out (by decide)) (fun _ hk=>hk.2) (.int .i64 (wrap64 (x523002_1 + 1)))) (fun _ hk=>hk.1)⟩,⟨by refine bp ?_;refine Za6 (cs:=#[.bool a0_0,(.slice Ao12 l0_1.length co12),.int .i64 x523002_1]) ?_ 2 _ rfl;exact bp BK522.out⟩,⟨bf NB523_522.out BK523.out⟩,⟨by repeat (first|(with_reducible first|exact HK.out|apply Kept.alloc|apply Kept.drewN|apply Kept.drew|refine Kept.setCell ?_ (.inr GW522.out) _|refine Kept.setCell ?_ (.inr GW523.out) _)|exact HK.out)⟩,⟨pB⟩⟩
      ·rw [if_neg c21] at H
       exact absurd H (by simp)
     ·rw [if_neg c20] at H
      have c20b0:((rd x4_1 0) == 0)=false:=beq_eq_false_iff_ne.mpr c20
      have c20b1:((rd x4_1 0) != 0)=true:=bne_iff_ne.mpr c20
      by_cases c26:(x4_1.length:Int) > 300
      ·rw [if_pos c26] at H
       have c26b0:decide (300 < (x4_1.length:Int))=true:=decide_eq_true c26
       have c26b1:decide (300 < x4_1.length)=true:=decide_eq_true (by omega)
       clear c26
       simp only [Option.some.injEq,Prod.mk.injEq] at H
       obtain ⟨rfl,rfl,rfl,rfl⟩:=H
       obtain ⟨Ao27,co27,eo27,_⟩:=Kd.Zhc HO_4.out
       subst eo27
       have p527:0<=(0:Int):=(by omega)
       have q527:0 < (x4_1.length:Int):=of_decide_eq_true pQ
       obtain ⟨ad527,e527,hx527_0⟩:=Kd.Za4 (Kd.Zeh HO_4.out).2.2 0 p527 q527
       cases e527
       have qi527:(0 < x4_1.length)=True:=eq_true (by omega)
       (try rw [show ((0:Int)).toNat=0 from rfl] at hx527_0)
       (try rw [Addr.add_zero'] at hx527_0)
       replace p527:=eq_true p527
       replace q527:=eq_true q527
       have hnb28:=NB523_522.out
       have hnc28:=NB522_523.out
       obtain ⟨hcz29_0,hcz29_1,hcz29_2,hfz29_0,hfz29_1,hfz29_2⟩:=cEc BK523.out
       go_wp2
       refine bodyPost_ret (Za8 rfl _ _ gb523 24 #[.bool false,.slice none 0 0,.int .i64 0] (0,0) _ rfl (by exact p3 BK523) Tryz.underlying24 rfl (by kernel_rfl)) rfl ?_
       exact ⟨_,pE,pN,pB,by repeat (first|(with_reducible first|exact HK.out|apply Kept.alloc|apply Kept.drewN|apply Kept.drew|refine Kept.setCell ?_ (.inr GW522.out) _|refine Kept.setCell ?_ (.inr GW523.out) _)|exact HK.out)⟩
      ·rw [if_neg c26] at H
       have c26b0:decide (300 < (x4_1.length:Int))=false:=decide_eq_false c26
       have c26b1:decide (300 < x4_1.length)=false:=decide_eq_false (by omega)
       clear c26
       by_cases c30:x523002_1 < (-1000)
       ·rw [if_pos c30] at H
        have c30b0:decide (x523002_1 < (-1000))=true:=decide_eq_true c30
        clear c30
        simp only [Option.some.injEq,Prod.mk.injEq] at H
        obtain ⟨rfl,rfl,rfl,rfl⟩:=H
        obtain ⟨Ao31,co31,eo31,_⟩:=Kd.Zhc HO_4.out
        subst eo31
        have p527:0<=(0:Int):=(by omega)
        have q527:0 < (x4_1.length:Int):=of_decide_eq_true pQ
        obtain ⟨ad527,e527,hx527_0⟩:=Kd.Za4 (Kd.Zeh HO_4.out).2.2 0 p527 q527
        cases e527
        have qi527:(0 < x4_1.length)=True:=eq_true (by omega)
        (try rw [show ((0:Int)).toNat=0 from rfl] at hx527_0)
        (try rw [Addr.add_zero'] at hx527_0)
        replace p527:=eq_true p527
        replace q527:=eq_true q527
        have hnb32:=NB522_523.out
        have hnc32:=NB523_522.out
        obtain ⟨hcz33_0,hcz33_1,hcz33_2,hfz33_0,hfz33_1,hfz33_2⟩:=cEc BK522.out
        obtain ⟨hcz34_0,hcz34_1,hcz34_2,hfz34_0,hfz34_1,hfz34_2⟩:=cEc BK523.out
        go_wp2
        refine bodyPost_ret (Za8 rfl _ _ gb523 24 #[.bool false,.slice none 0 0,.int .i64 0] (0,0) _ rfl (by exact p3 BK523) Tryz.underlying24 rfl (by kernel_rfl)) rfl ?_
        exact ⟨_,pE,pN,pB,by repeat (first|(with_reducible first|exact HK.out|apply Kept.alloc|apply Kept.drewN|apply Kept.drew|refine Kept.setCell ?_ (.inr GW522.out) _|refine Kept.setCell ?_ (.inr GW523.out) _)|exact HK.out)⟩
       ·rw [if_neg c30] at H
        have c30b0:decide (x523002_1 < (-1000))=false:=decide_eq_false c30
        clear c30
        by_cases c35:x523002_1 > 1000
        ·rw [if_pos c35] at H
         have c35b0:decide (1000 < x523002_1)=true:=decide_eq_true c35
         clear c35
         simp only [Option.some.injEq,Prod.mk.injEq] at H
         obtain ⟨rfl,rfl,rfl,rfl⟩:=H
         obtain ⟨Ao36,co36,eo36,_⟩:=Kd.Zhc HO_4.out
         subst eo36
         have p527:0<=(0:Int):=(by omega)
         have q527:0 < (x4_1.length:Int):=of_decide_eq_true pQ
         obtain ⟨ad527,e527,hx527_0⟩:=Kd.Za4 (Kd.Zeh HO_4.out).2.2 0 p527 q527
         cases e527
         have qi527:(0 < x4_1.length)=True:=eq_true (by omega)
         (try rw [show ((0:Int)).toNat=0 from rfl] at hx527_0)
         (try rw [Addr.add_zero'] at hx527_0)
         replace p527:=eq_true p527
         replace q527:=eq_true q527
         have hnb37:=NB522_523.out
         have hnc37:=NB523_522.out
         obtain ⟨hcz38_0,hcz38_1,hcz38_2,hfz38_0,hfz38_1,hfz38_2⟩:=cEc BK522.out
         obtain ⟨hcz39_0,hcz39_1,hcz39_2,hfz39_0,hfz39_1,hfz39_2⟩:=cEc BK523.out
         go_wp2
         refine bodyPost_ret (Za8 rfl _ _ gb523 24 #[.bool false,.slice none 0 0,.int .i64 0] (0,0) _ rfl (by exact p3 BK523) Tryz.underlying24 rfl (by kernel_rfl)) rfl ?_
         exact ⟨_,pE,pN,pB,by repeat (first|(with_reducible first|exact HK.out|apply Kept.alloc|apply Kept.drewN|apply Kept.drew|refine Kept.setCell ?_ (.inr GW522.out) _|refine Kept.setCell ?_ (.inr GW523.out) _)|exact HK.out)⟩
        ·rw [if_neg c35] at H
         have c35b0:decide (1000 < x523002_1)=false:=decide_eq_false c35
         clear c35
         obtain ⟨t531,A40,H⟩:=ob H
         simp only [Option.some.injEq,Prod.mk.injEq] at H
         obtain ⟨rfl,rfl,rfl,rfl⟩:=H
         obtain ⟨Ao41,co41,eo41,_⟩:=Kd.Zhc HO_4.out
         subst eo41
         have p527:0<=(0:Int):=(by omega)
         have q527:0 < (x4_1.length:Int):=of_decide_eq_true pQ
         obtain ⟨ad527,e527,hx527_0⟩:=Kd.Za4 (Kd.Zeh HO_4.out).2.2 0 p527 q527
         cases e527
         have qi527:(0 < x4_1.length)=True:=eq_true (by omega)
         (try rw [show ((0:Int)).toNat=0 from rfl] at hx527_0)
         (try rw [Addr.add_zero'] at hx527_0)
         replace p527:=eq_true p527
         replace q527:=eq_true q527
         have hnb42:=NB522_523.out
         have hnc42:=NB523_522.out
         obtain ⟨hcz43_0,hcz43_1,hcz43_2,hfz43_0,hfz43_1,hfz43_2⟩:=cEc BK522.out
         try go_wp2
         replace HO_4:=am (Kd.Znp HO_4.out)
         replace BK522:=am (Zba BK522.out)
         replace BK523:=am (Zba BK523.out)
         replace HK:=am (Kept.drew HK.out)
         replace HB:=am (Zaz HB.out)
         refine start_ (n:=9) (S:=fun w'=>w'.cell? ⟨gb522,0,none⟩=some (.bool a0_0)/\w'.cell? ⟨gb522,1,none⟩=some ((.slice Ao12 l0_1.length co12))/\w'.cell? ⟨gb522,2,none⟩=some (.int .i64 x523002_1)) (ds:=[]) #[false,false,false,false,false,false,false,false,false] (by kernel_rfl) rfl rfl ⟨k0 BK522 0,k0 BK522 1,k0 BK522 2⟩ (fun hHeld=>?_);refine Zcn Zo.tab11 Zo.bits11 (fun HT_ HW_=>?_)
         generalize wr.drew=w44 at HO_4 BK522 BK523 HK HB hHeld ⊢
         refine pu 0 (some 37) #[true,false,false,false,false,false,false,false,false] (h:=?_)
         refine pu 2 (some 39) #[true,false,true,false,false,false,false,false,false] (h:=?_)
         refine pu 4 (some 41) #[true,false,true,false,true,false,false,false,false] (h:=?_)
         refine take_ (i:=1) (N:=some 38) (v:=?_) (a':=?_) #[true,true,true,false,true,false,false,false,false] rfl rfl (Zbh HT_.out HW_.out (by kernel_rfl)) (fun _ _ _ h=>h) (Or.inl ⟨by rfl,?_⟩) hHeld ?_ ?_
         rotate_left
         ·rintro w' ⟨s0,s1,s2⟩
          go_simp
          with_reducible rfl
         rotate_left
         ·exact pP
         refine take_ (i:=5) (N:=some 42) (v:=?_) (a':=?_) #[true,true,true,false,true,true,false,false,false] rfl rfl (Zbh HT_.out HW_.out (by kernel_rfl)) (fun _ _ _ h=>h) (Or.inl ⟨by rfl,?_⟩) hHeld ?_ ?_
         rotate_left
         ·rintro w' ⟨s0,s1,s2⟩
          go_simp
          with_reducible rfl
         rotate_left
         ·exact pP
         refine one_ (i:=3) (N:=some 40) #[true,true,true,true,true,true,false,false,false] rfl rfl (Zbx HT_.out (by kernel_rfl)) (by decide) (fun K hK=>?_)
         refine goes_ Tryz.func80 (by kernel_rfl) rfl #[.slice (some ad527) x4_1.length co41] (by rfl) rfl rfl pA ?_
         with_reducible refine (Zx.calls k1 _ _ x4_1 t531 _ ?side1 ?side2 A40.out).mono ?_
         (case side1=>exact Kd.Zh (Kd.Zeh HO_4.out).2.2 pl)
         (case side2=>exact (Kd.Zeh HO_4.out).2.1)
         rintro e w45 ⟨v532,rfl,ho0,hb⟩
         refine ⟨_,rfl,?_⟩
         replace HO_4:=am (Kd.Ziq (by (with_reducible repeat (first|apply Kd.Znn|apply Kd.Znq|apply Kd.Znp));exact HO_4.out) hb)
         have HO533:=am (Kd.Zq (Kd.Zep (M:=fun k_=>(P0_1_ k_\/w.heap.size<=k_)) ho0 (by first|exact HK.out.1|exact (show Kept w _ (fun k_=>P0_1_ k_) from by repeat (first|(with_reducible first|exact HK.out|apply Kept.alloc|apply Kept.drewN|apply Kept.drew|refine Kept.setCell ?_ (.inr GW522.out) _|refine Kept.setCell ?_ (.inr GW523.out) _)|exact HK.out)).1) (fun k_ h_=>.inr h_)) (Zb pB))
         replace BK522:=bb BK522 hb
         replace BK523:=bb BK523 hb
         replace HK:=am (Kept.below (S:=(fun k_=>P0_1_ k_)) (by repeat (first|(with_reducible first|exact HK.out|apply Kept.alloc|apply Kept.drewN|apply Kept.drew|refine Kept.setCell ?_ (.inr GW522.out) _|refine Kept.setCell ?_ (.inr GW523.out) _)|exact HK.out)) hb)
         replace HB:=bS hb
         obtain ⟨Ao46,co46,eo46⟩:=Kd.Zm HO533.out
         (first|subst eo46|(injection eo46 with f1_ f2_ f3_;have f4_:=f1_.symm;have f5_:=f3_.symm;clear f1_ f2_ f3_;subst f4_;subst f5_))
         refine hK.out _ _ ⟨k0 BK522 0,k0 BK522 1,k0 BK522 2⟩ (fun hHeld=>?_)
         clear hK K
         refine norm_ (a':=?_) ?_ ?_
         rotate_left
         ·show Act.put _ (some 40) _=_
          exact pP
         refine pu 6 (some 43) #[true,true,true,true,true,true,true,false,false] (h:=?_)
         refine one_ (i:=7) (N:=none) #[true,true,true,true,true,true,true,true,false] rfl rfl (Zbx HT_.out (by kernel_rfl)) (by decide) (fun K hK=>?_)
         have hs47:w45.cell? ⟨gb523,0,none⟩=some (.bool false):=k0 BK523 0
         have hfs47:=Zav BK523.out 0
         have hns47_0:=NB522_523.out
         have hms47_0:=NB523_522.out
         have hs48:w45.cell? ⟨gb523,1,none⟩=some (.slice none 0 0):=k0 BK523 1
         have hfs48:=Zav BK523.out 1
         have hns48_0:=NB522_523.out
         have hms48_0:=NB523_522.out
         have hs49:w45.cell? ⟨gb523,2,none⟩=some (.int .i64 0):=k0 BK523 2
         have hfs49:=Zav BK523.out 2
         have hns49_0:=NB522_523.out
         have hms49_0:=NB523_522.out
         refine skip_ (w1:=?_) (by rfl) rfl ?_ ?_
         rotate_left
         ·go_simp
          rfl
         refine hK.out _ _ ⟨((cell_far (p:=⟨gb523,_,none⟩) NB522_523.out _).trans (((cell_far (p:=⟨gb523,_,none⟩) NB522_523.out _).trans (((cell_far (p:=⟨gb523,_,none⟩) NB522_523.out _).trans (hHeld.1)))))),((cell_far (p:=⟨gb523,_,none⟩) NB522_523.out _).trans (((cell_far (p:=⟨gb523,_,none⟩) NB522_523.out _).trans (((cell_far (p:=⟨gb523,_,none⟩) NB522_523.out _).trans (hHeld.2.1)))))),((cell_far (p:=⟨gb523,_,none⟩) NB522_523.out _).trans (((cell_far (p:=⟨gb523,_,none⟩) NB522_523.out _).trans (((cell_far (p:=⟨gb523,_,none⟩) NB522_523.out _).trans (hHeld.2.2))))))⟩ (fun hHeld=>?_)
         clear hK K
         refine pu 8 (some 3) #[true,true,true,true,true,true,true,true,true] (h:=?_)
         refine done_ (Zdl HT_.out (by kernel_rfl)) ?_
         try go_wp2
         refine bodyPost_ret (Za8 rfl _ _ gb523 24 #[.bool a0_0,.slice Ao46 t531.length co46,.int .i64 x523002_1] (0,0) _ rfl (by exact p3 BK523) Tryz.underlying24 rfl (by kernel_rfl)) rfl ?_
         exact ⟨_,pE,by refine rp ?_;exact Kd.Zi (Kd.Zn (p:=⟨gb523,2,none⟩) (Kd.Zn (p:=⟨gb523,1,none⟩) (Kd.Zn (p:=⟨gb523,0,none⟩) (Kd.Zu HO533.out BK523.out (by decide)) (fun _ hk=>hk.2) (.bool a0_0)) (fun _ hk=>hk.2) (.slice Ao46 t531.length co46)) (fun _ hk=>hk.2) (.int .i64 x523002_1)) (fun _ hk=>hk.1.1),pB,by repeat (first|(with_reducible first|exact HK.out|apply Kept.alloc|apply Kept.drewN|apply Kept.drew|refine Kept.setCell ?_ (.inr GW522.out) _|refine Kept.setCell ?_ (.inr GW523.out) _)|exact HK.out)⟩
    ·rw [if_neg c19] at H
     exact absurd H (by simp)
def Zp.f (k:Nat) (a0_0:Bool) (l0_1:List Int) (a0_2:Int):Option (Bool × List Int × Int):=(Zan.f k l0_1).bind fun t589=>(some (a0_0,t589,a0_2))
def Zp.T1:Bool × List (List Nat × List Nat):=(true,[([],[]),([0],[0]),([],[]),([2],[2]),([3],[3]),([],[]),([5],[5]),([1,4,6],[1,4,6]),([7,4,0,1,2,3,4,5,6,7],[7])])
def Zp.B1:List Nat:=[0,1,0,4,12,0,32,127,255]
theorem Zp.tab1:rtab .any (opsOf Tryz.f18 1)=Zp.T1:=by kernel_rfl
theorem Zp.bits1:waitsOk Zp.T1.2 Zp.B1=true:=by kernel_rfl
theorem Zp.calls (k:Nat) (a0_0:Bool) (A0_1:Option Addr) (c0_1:Nat) (l0_1:List Int) (a0_2:Int) (r1:Bool) (r2:List Int) (r3:Int) (w:World) (hr0_1:Kd.C (Kd.int .u32) w A0_1 l0_1.length l0_1) (hc0_1:l0_1.length<=c0_1) (h:Zp.f k a0_0 l0_1 a0_2=some (r1,r2,r3)) :
  Calls Tryz.prog 18 #[.agg #[.bool a0_0,.slice A0_1 l0_1.length c0_1,.int .i64 a0_2]] w fun e w' => ∃ v1_:Value,e=.returned (.agg #[.bool r1,v1_,.int .i64 r3])/\Kd.R (Kd.int .i64) 3 w' w.heap.size (fun _=>True) v1_ r2/\Below w.heap.size w w':=by
 have hu24:=Tryz.underlying24
 have hu30:=Tryz.underlying30
 have HR0_1:=am hr0_1
 have HC0_1:=am hc0_1
 clear hr0_1 hc0_1
 have HB:=am (Below.refl w.heap.size w)
 have H:((Zan.f k l0_1).bind fun t589=>(some (a0_0,t589,a0_2)))=some (r1,r2,r3):=h
 clear h
 obtain ⟨t589,A2,H⟩:=ob H
 simp only [Option.some.injEq,Prod.mk.injEq] at H
 obtain ⟨rfl,rfl,rfl⟩:=H
 go_enter Tryz.func18,Tryz.ntmps18
 try go_wp2_with (first|((with_reducible refine gd 1 ?_);refine bx 1 #[.bool a0_0,.slice A0_1 l0_1.length c0_1,.int .i64 a0_2] 24 (h:=?_);intro gb587 hg w3 hbox hb;have BK587:=am hbox;have GW587:=gW hg;have GE587:=gW hg;replace HB:=bS hb;clear hb hbox hg)|((with_reducible refine gd 2 ?_);refine bx 2 #[.bool false,.slice none 0 0,.int .i64 0] 30 (h:=?_);intro gb588 hg w4 hbox hb;have BK588:=am hbox;have GW588:=gW hg;have GE588:=gW hg;have NB587_588:=nL hg BK587;have NB588_587:=nG hg BK587;replace BK587:=bb BK587 hb;replace HB:=bS hb;clear hb hbox hg))
 replace BK587:=am (Zba BK587.out)
 replace BK588:=am (Zba BK588.out)
 replace HB:=am (Zaz HB.out)
 refine start_ (n:=9) (S:=fun w'=>w'.cell? ⟨gb587,0,none⟩=some (.bool a0_0)/\w'.cell? ⟨gb587,1,none⟩=some (.slice A0_1 l0_1.length c0_1)/\w'.cell? ⟨gb587,2,none⟩=some (.int .i64 a0_2)) (ds:=[]) #[false,false,false,false,false,false,false,false,false] (by kernel_rfl) rfl rfl ⟨k0 BK587 0,k0 BK587 1,k0 BK587 2⟩ (fun hHeld=>?_);refine Zcn Zp.tab1 Zp.bits1 (fun HT_ HW_=>?_)
 generalize w4.drew=w5 at BK587 BK588 HB hHeld ⊢
 refine pu 0 (some 3) #[true,false,false,false,false,false,false,false,false] (h:=?_)
 refine pu 2 (some 5) #[true,false,true,false,false,false,false,false,false] (h:=?_)
 refine pu 5 (some 8) #[true,false,true,false,false,true,false,false,false] (h:=?_)
 refine take_ (i:=1) (N:=some 4) (v:=?_) (a':=?_) #[true,true,true,false,false,true,false,false,false] rfl rfl (Zbh HT_.out HW_.out (by kernel_rfl)) (fun _ _ _ h=>h) (Or.inl ⟨by rfl,?_⟩) hHeld ?_ ?_
 rotate_left
 ·rintro w' ⟨s0,s1,s2⟩
  go_simp
  with_reducible rfl
 rotate_left
 ·exact pP
 refine take_ (i:=3) (N:=some 6) (v:=?_) (a':=?_) #[true,true,true,true,false,true,false,false,false] rfl rfl (Zbh HT_.out HW_.out (by kernel_rfl)) (fun _ _ _ h=>h) (Or.inl ⟨by rfl,?_⟩) hHeld ?_ ?_
 rotate_left
 ·rintro w' ⟨s0,s1,s2⟩
  go_simp
  with_reducible rfl
 rotate_left
 ·exact pP
 refine take_ (i:=6) (N:=some 9) (v:=?_) (a':=?_) #[true,true,true,true,false,true,true,false,false] rfl rfl (Zbh HT_.out HW_.out (by kernel_rfl)) (fun _ _ _ h=>h) (Or.inl ⟨by rfl,?_⟩) hHeld ?_ ?_
 rotate_left
 ·rintro w' ⟨s0,s1,s2⟩
  go_simp
  with_reducible rfl
 rotate_left
 ·exact pP
 refine one_ (i:=4) (N:=some 7) #[true,true,true,true,true,true,true,false,false] rfl rfl (Zbx HT_.out (by kernel_rfl)) (by decide) (fun K hK=>?_)
 refine goes_ Tryz.func66 (by kernel_rfl) rfl #[.slice A0_1 l0_1.length c0_1] (by rfl) rfl rfl pA ?_
 with_reducible refine (Zan.calls k _ _ l0_1 t589 _ ?side1 ?side2 A2.out).mono ?_
 (case side1=>refine cp ?_;exact (Kd.Zh HR0_1.out HB.out))
 (case side2=>exact HC0_1.out)
 rintro e w6 ⟨v590,rfl,ho0,hb⟩
 refine ⟨_,rfl,?_⟩
 have HO591:=am (Kd.Zq ho0 (Zb pB))
 replace BK587:=bb BK587 hb
 replace BK588:=bb BK588 hb
 replace HB:=bS hb
 obtain ⟨Ao7,co7,eo7⟩:=Kd.Zm HO591.out
 (first|subst eo7|(injection eo7 with f1_ f2_ f3_;have f4_:=f1_.symm;have f5_:=f3_.symm;clear f1_ f2_ f3_;subst f4_;subst f5_))
 refine hK.out _ _ ⟨k0 BK587 0,k0 BK587 1,k0 BK587 2⟩ (fun hHeld=>?_)
 clear hK K
 refine norm_ (a':=?_) ?_ ?_
 rotate_left
 ·show Act.put _ (some 7) _=_
  exact pP
 refine pu 7 (some 10) #[true,true,true,true,true,true,true,true,false] (h:=?_)
 refine one_ (i:=8) (N:=none) #[true,true,true,true,true,true,true,true,true] rfl rfl (Zbx HT_.out (by kernel_rfl)) (by decide) (fun K hK=>?_)
 have hs8:w6.cell? ⟨gb588,0,none⟩=some (.bool false):=k0 BK588 0
 have hfs8:=Zav BK588.out 0
 have hns8_0:=NB587_588.out
 have hms8_0:=NB588_587.out
 have hs9:w6.cell? ⟨gb588,1,none⟩=some (.slice none 0 0):=k0 BK588 1
 have hfs9:=Zav BK588.out 1
 have hns9_0:=NB587_588.out
 have hms9_0:=NB588_587.out
 have hs10:w6.cell? ⟨gb588,2,none⟩=some (.int .i64 0):=k0 BK588 2
 have hfs10:=Zav BK588.out 2
 have hns10_0:=NB587_588.out
 have hms10_0:=NB588_587.out
 refine skip_ (w1:=?_) (by rfl) rfl ?_ ?_
 rotate_left
 ·go_simp
  rfl
 refine hK.out _ _ ⟨((cell_far (p:=⟨gb588,_,none⟩) NB587_588.out _).trans (((cell_far (p:=⟨gb588,_,none⟩) NB587_588.out _).trans (((cell_far (p:=⟨gb588,_,none⟩) NB587_588.out _).trans (hHeld.1)))))),((cell_far (p:=⟨gb588,_,none⟩) NB587_588.out _).trans (((cell_far (p:=⟨gb588,_,none⟩) NB587_588.out _).trans (((cell_far (p:=⟨gb588,_,none⟩) NB587_588.out _).trans (hHeld.2.1)))))),((cell_far (p:=⟨gb588,_,none⟩) NB587_588.out _).trans (((cell_far (p:=⟨gb588,_,none⟩) NB587_588.out _).trans (((cell_far (p:=⟨gb588,_,none⟩) NB587_588.out _).trans (hHeld.2.2))))))⟩ (fun hHeld=>?_)
 clear hK K
 refine done_ (Zdl HT_.out (by kernel_rfl)) ?_
 try go_wp2
 refine bodyPost_ret (results_cell_row rfl _ _ gb588 30 #[.bool a0_0,.slice Ao7 t589.length co7,.int .i64 a0_2] (0,0) _ rfl (by exact p3 BK588) Tryz.underlying30 rfl (by kernel_rfl)) rfl ?_
 exact ⟨_,pE,by refine rp ?_;exact Kd.Zi (Kd.Zn (p:=⟨gb588,2,none⟩) (Kd.Zn (p:=⟨gb588,1,none⟩) (Kd.Zn (p:=⟨gb588,0,none⟩) (Kd.Zu HO591.out BK588.out (by decide)) (fun _ hk=>hk.2) (.bool a0_0)) (fun _ hk=>hk.2) (.slice Ao7 t589.length co7)) (fun _ hk=>hk.2) (.int .i64 a0_2)) (fun _ hk=>trivial),pB⟩
mutual
def Zr.j0:Nat->Bool->Bool->List Int->Int->Option (Int)
 | 0,_,_,_,_=>none
 | k + 1,x13,x648000,x648001,x648002=>if x13=true then (some 9) else ((Zp.f k x648000 x648001 x648002).bind fun bt649=>(if (bt649.2.1.length:Int)=0 then (if x648000=true then (Zr.j1 k true) else (Zr.j1 k (x648002 != 0))) else (if 0 < (bt649.2.1.length:Int) then (if (rd bt649.2.1 0)=0 then (some 9) else (if (bt649.2.1.length:Int) > 300 then (some 9) else (if x648002 < (-1000) then (some 9) else (if x648002 > 1000 then (some 9) else (some 0))))) else (none))))
def Zr.j1:Nat->Bool->Option (Int)
 | 0,_=>none
 | k + 1,x26=>if x26=true then (some 9) else (some 0)
end
def Zr.f (k:Nat) (a0_0:Bool) (l0_1:List Int) (a0_2:Int):Option (Int):=(Zb4.f l0_1).bind fun t648=>(if t648=0 then (Zr.j0 k (decide ((l0_1.length:Int) > 40)) a0_0 l0_1 a0_2) else (Zr.j0 k true a0_0 l0_1 a0_2))
theorem Zr.calls (k:Nat) (a0_0:Bool) (A0_1:Option Addr) (c0_1:Nat) (l0_1:List Int) (a0_2:Int) (r:Int) (w:World) (hr0_1:Kd.C (Kd.int .u32) w A0_1 l0_1.length l0_1) (hc0_1:l0_1.length<=c0_1) (h:Zr.f k a0_0 l0_1 a0_2=some r) :
  Calls Tryz.prog 33 #[.agg #[.bool a0_0,.slice A0_1 l0_1.length c0_1,.int .i64 a0_2]] w fun e w'=>e=.returned (.int .i64 r)/\Below w.heap.size w w':=by
 have hu24:=Tryz.underlying24
 have hu30:=Tryz.underlying30
 have HR0_1:=am hr0_1
 have HC0_1:=am hc0_1
 clear hr0_1 hc0_1
 have HB:=am (Below.refl w.heap.size w)
 have H:((Zb4.f l0_1).bind fun t648=>(if t648=0 then (Zr.j0 k (decide ((l0_1.length:Int) > 40)) a0_0 l0_1 a0_2) else (Zr.j0 k true a0_0 l0_1 a0_2)))=some r:=h
 clear h
 have HC2:=am H
 clear H
 go_enter Tryz.func33,Tryz.ntmps33
 go_upto_region 1 with (first|((with_reducible refine gd 1 ?_);(try (refine Zas (by rfl) ?_;dsimp only));refine bx 1 #[.bool a0_0,.slice A0_1 l0_1.length c0_1,.int .i64 a0_2] 24 (h:=?_);intro gb647 hg w3 hbox hb;have BK647:=am hbox;have GW647:=gW hg;have GE647:=gW hg;replace HB:=bS hb;clear hb hbox hg))
 (try simp only [Act.put,List.setIfInBounds_toArray,List.set_cons_zero,List.set_cons_succ])
 go_cut [13] (fun v13 wc => ∃ (kq:Nat) (x13_1:Bool),v13=.bool x13_1/\Aside0 (Zr.j0 kq x13_1 a0_0 l0_1 a0_2=some r)/\Aside0 (kq<=k)/\Aside0 (wc.heap[gb647]? = some (.cells #[.bool a0_0,(.slice A0_1 l0_1.length c0_1),.int .i64 a0_2] 24 (0,0)))/\Aside0 (Below w.heap.size w wc))
 case first =>
  have H:=HC2.out
  clear HC2
  obtain ⟨t648,A4,H⟩:=ob H
  by_cases c5:t648=0
  ·rw [if_pos c5] at H
   have c5b0:(t648 == 0)=true:=beq_iff_eq.mpr c5
   have c5b1:(t648 != 0)=false:=bne_eq_false_iff_eq.mpr c5
   clear c5
   (first|rw [c5b0]|(simp only [Zcc,Zdc];rw [c5b0])|skip)
   have H':=am H
   clear H
   obtain ⟨hcz6_0,hcz6_1,hcz6_2,hfz6_0,hfz6_1,hfz6_2⟩:=cEc BK647.out
   go_wp2_with (first|(refine gL (some 6) Tryz.func91 #[.slice A0_1 l0_1.length c0_1] (h:=?_);(with_reducible refine (Zb4.calls _ _ l0_1 t648 _ ?side1 ?side2 A4.out).mono ?_);(case side1=>refine cp ?_;exact (Kd.Zh HR0_1.out HB.out));(case side2=>exact HC0_1.out);rintro e w' ⟨rfl,⟨nd,rfl⟩⟩;refine ⟨_,rfl,?_⟩))
   go_meet
   case rel=>exact ⟨_,(decide ((l0_1.length:Int) > 40)),pR,H',⟨by first|omega|exact Nat.le_refl _⟩,⟨Zc BK647.out pl⟩,⟨pB⟩⟩
  ·rw [if_neg c5] at H
   have c5b0:(t648 == 0)=false:=beq_eq_false_iff_ne.mpr c5
   have c5b1:(t648 != 0)=true:=bne_iff_ne.mpr c5
   (first|rw [c5b0]|(simp only [Zcc,Zdc];rw [c5b0])|skip)
   have H':=am H
   clear H
   obtain ⟨hcz7_0,hcz7_1,hcz7_2,hfz7_0,hfz7_1,hfz7_2⟩:=cEc BK647.out
   go_wp2_with (first|(refine gL (some 6) Tryz.func91 #[.slice A0_1 l0_1.length c0_1] (h:=?_);(with_reducible refine (Zb4.calls _ _ l0_1 t648 _ ?side1 ?side2 A4.out).mono ?_);(case side1=>refine cp ?_;exact (Kd.Zh HR0_1.out HB.out));(case side2=>exact HC0_1.out);rintro e w' ⟨rfl,⟨nd,rfl⟩⟩;refine ⟨_,rfl,?_⟩))
   go_meet
   case rel=>exact ⟨_,(true),pR,H',⟨by first|omega|exact Nat.le_refl _⟩,⟨Zc BK647.out pl⟩,⟨pB⟩⟩
 case rest =>
  clear HC2
  obtain ⟨kq,x13_1,rfl,HA,HJ1,BK647,HB⟩:=hcut
  cases kq with
  | zero=>exact absurd HA.out (by simp [Zr.j0])
  | succ kj1 =>
   have H:=HA.out
   clear HA
   simp only [Zr.j0] at H
   by_cases c8:x13_1=true
   ·subst c8
    rw [if_pos rfl] at H
    obtain rfl:=Option.some.inj H
    go_wp2
    go_ret
    exact ⟨pE,pB⟩
   ·replace c8:=Bool.eq_false_iff.mpr c8
    subst c8
    rw [if_neg (show ¬ (false=true) by decide)] at H
    obtain ⟨⟨t649,t650,t653⟩,A9,H⟩:=ob H;(try dsimp only at H)
    by_cases c10:(t650.length:Int)=0
    ·rw [if_pos c10] at H
     have c10b0:((t650.length:Int) == 0)=true:=beq_iff_eq.mpr c10
     have c10b1:((t650.length:Int) != 0)=false:=bne_eq_false_iff_eq.mpr c10
     clear c10
     have HC11:=am H
     clear H
     obtain ⟨hcz12_0,hcz12_1,hcz12_2,hfz12_0,hfz12_1,hfz12_2⟩:=cEc BK647.out
     go_upto_region 5 with (first|(refine gL (some 15) Tryz.func18 #[.agg #[.bool a0_0,.slice A0_1 l0_1.length c0_1,.int .i64 a0_2]] (h:=?_);(with_reducible refine (Zp.calls kj1 a0_0 _ _ l0_1 a0_2 t649 t650 t653 _ ?side1 ?side2 A9.out).mono ?_);(case side1=>refine cp ?_;exact (Kd.Zh HR0_1.out HB.out));(case side2=>exact HC0_1.out);rintro e w13 ⟨v651,rfl,ho0,hb⟩;refine ⟨_,rfl,?_⟩;have HO652:=am (Kd.Zq ho0 (Zb pB));replace BK647:=bb BK647 hb;replace HB:=bS hb)|((with_reducible refine gd 3 ?_);(try (refine Zas (by rfl) ?_;dsimp only));refine bx 3 #[.bool false,.slice none 0 0,.int .i64 0] 30 (h:=?_);intro gb654 hg w14 hbox hb;have BK654:=am hbox;have GW654:=gW hg;have GE654:=gW hg;have NB647_654:=nL hg BK647;have NB654_647:=nG hg BK647;replace HO652:=rbl HO652 hb;replace BK647:=bb BK647 hb;replace HB:=bS hb;clear hb hbox hg;have hnb15:=NB654_647.out;have hnc15:=NB647_654.out;obtain ⟨hcz16_0,hcz16_1,hcz16_2,hfz16_0,hfz16_1,hfz16_2⟩:=cEc BK654.out;obtain ⟨Ao17,co17,eo17⟩:=Kd.Zm HO652.out;subst eo17))
     (try simp only [Act.put,List.setIfInBounds_toArray,List.set_cons_zero,List.set_cons_succ])
     go_cut [26] (fun v26 wc => ∃ (kq:Nat) (x26_10:Bool),v26=.bool x26_10/\Aside0 (Zr.j1 kq x26_10=some r)/\Aside0 (kq<=kj1)/\Aside0 (Kd.R (Kd.int .i64) 3 wc w.heap.size (fun _=>True) (.slice Ao17 t650.length co17) t650)/\Aside0 (wc.heap[gb647]? = some (.cells #[.bool a0_0,(.slice A0_1 l0_1.length c0_1),.int .i64 a0_2] 24 (0,0)))/\Aside0 (wc.heap[gb654]? = some (.cells #[.bool t649,(.slice Ao17 t650.length co17),.int .i64 t653] 30 (0,0)))/\Aside0 (Below w.heap.size w wc))
     case first =>
      have H:=HC11.out
      clear HC11
      by_cases c18:a0_0=true
      ·subst c18
       rw [if_pos rfl] at H
       have H':=am H
       clear H
       have hnb19:=NB647_654.out
       have hnc19:=NB654_647.out
       obtain ⟨hcz20_0,hcz20_1,hcz20_2,hfz20_0,hfz20_1,hfz20_2⟩:=cEc BK647.out
       go_wp2
       go_meet
       case rel=>exact ⟨_,(true),pR,H',⟨by have := HJ1.out;first|omega|exact Nat.le_refl _⟩,⟨by refine rp ?_;exact Kd.Zi (Kd.Zn (p:=⟨gb654,2,none⟩) (Kd.Zn (p:=⟨gb654,1,none⟩) (Kd.Zn (p:=⟨gb654,0,none⟩) (Kd.Zu HO652.out BK654.out (by decide)) (fun _ hk=>hk.2) (.bool t649)) (fun _ hk=>hk.2) (.slice Ao17 t650.length co17)) (fun _ hk=>hk.2) (.int .i64 t653)) (fun _ hk=>trivial)⟩,⟨bf NB647_654.out BK647.out⟩,⟨by exact p3 BK654⟩,⟨pB⟩⟩
      ·replace c18:=Bool.eq_false_iff.mpr c18
       subst c18
       rw [if_neg (show ¬ (false=true) by decide)] at H
       have H':=am H
       clear H
       have hnb21:=NB647_654.out
       have hnc21:=NB654_647.out
       obtain ⟨hcz22_0,hcz22_1,hcz22_2,hfz22_0,hfz22_1,hfz22_2⟩:=cEc BK647.out
       go_wp2
       go_meet
       case rel=>exact ⟨_,((a0_2 != 0)),pR,H',⟨by have := HJ1.out;first|omega|exact Nat.le_refl _⟩,⟨by refine rp ?_;exact Kd.Zi (Kd.Zn (p:=⟨gb654,2,none⟩) (Kd.Zn (p:=⟨gb654,1,none⟩) (Kd.Zn (p:=⟨gb654,0,none⟩) (Kd.Zu HO652.out BK654.out (by decide)) (fun _ hk=>hk.2) (.bool t649)) (fun _ hk=>hk.2) (.slice Ao17 t650.length co17)) (fun _ hk=>hk.2) (.int .i64 t653)) (fun _ hk=>trivial)⟩,⟨bf NB647_654.out BK647.out⟩,⟨by exact p3 BK654⟩,⟨pB⟩⟩
     case rest =>
      clear HC11
      obtain ⟨kq,x26_10,rfl,HA,HJ10,HO_655001,BK647,BK654,HB⟩:=hcut
      cases kq with
      | zero=>exact absurd HA.out (by simp [Zr.j1])
      | succ kj10 =>
       have H:=HA.out
       clear HA
       simp only [Zr.j1] at H
       by_cases c23:x26_10=true
       ·subst c23
        rw [if_pos rfl] at H
        obtain rfl:=Option.some.inj H
        go_wp2
        go_ret
        exact ⟨pE,pB⟩
       ·replace c23:=Bool.eq_false_iff.mpr c23
        subst c23
        rw [if_neg (show ¬ (false=true) by decide)] at H
        obtain rfl:=Option.some.inj H
        go_wp2
        go_ret
        exact ⟨pE,pB⟩
    ·rw [if_neg c10] at H
     have c10b0:((t650.length:Int) == 0)=false:=beq_eq_false_iff_ne.mpr c10
     have c10b1:((t650.length:Int) != 0)=true:=bne_iff_ne.mpr c10
     have c10b2:¬ (t650=[]):=fun h_=>c10 (by rw [h_];rfl)
     by_cases c24:0 < (t650.length:Int)
     ·rw [if_pos c24] at H
      have c24b0:decide (0 < (t650.length:Int))=true:=decide_eq_true c24
      have c24b1:decide (0 < t650.length)=true:=decide_eq_true (by omega)
      clear c24
      by_cases c25:(rd t650 0)=0
      ·rw [if_pos c25] at H
       have c25b0:((rd t650 0) == 0)=true:=beq_iff_eq.mpr c25
       have c25b1:((rd t650 0) != 0)=false:=bne_eq_false_iff_eq.mpr c25
       clear c25
       obtain rfl:=Option.some.inj H
       obtain ⟨hcz26_0,hcz26_1,hcz26_2,hfz26_0,hfz26_1,hfz26_2⟩:=cEc BK647.out
       go_wp2_with (first|(refine gL (some 15) Tryz.func18 #[.agg #[.bool a0_0,.slice A0_1 l0_1.length c0_1,.int .i64 a0_2]] (h:=?_);(with_reducible refine (Zp.calls kj1 a0_0 _ _ l0_1 a0_2 t649 t650 t653 _ ?side1 ?side2 A9.out).mono ?_);(case side1=>refine cp ?_;exact (Kd.Zh HR0_1.out HB.out));(case side2=>exact HC0_1.out);rintro e w27 ⟨v651,rfl,ho0,hb⟩;refine ⟨_,rfl,?_⟩;have HO652:=am (Kd.Zq ho0 (Zb pB));replace BK647:=bb BK647 hb;replace HB:=bS hb)|((with_reducible refine gd 3 ?_);(try (refine Zas (by rfl) ?_;dsimp only));refine bx 3 #[.bool false,.slice none 0 0,.int .i64 0] 30 (h:=?_);intro gb654 hg w28 hbox hb;have BK654:=am hbox;have GW654:=gW hg;have GE654:=gW hg;have NB647_654:=nL hg BK647;have NB654_647:=nG hg BK647;replace HO652:=rbl HO652 hb;replace BK647:=bb BK647 hb;replace HB:=bS hb;clear hb hbox hg;have hnb29:=NB654_647.out;have hnc29:=NB647_654.out;obtain ⟨hcz30_0,hcz30_1,hcz30_2,hfz30_0,hfz30_1,hfz30_2⟩:=cEc BK654.out;obtain ⟨Ao31,co31,eo31⟩:=Kd.Zm HO652.out;subst eo31;have p655:0<=(0:Int):=(by omega);have q655:0 < (t650.length:Int):=of_decide_eq_true pQ;obtain ⟨ad655,e655,hx655_0⟩:=Kd.Za4 (Kd.Zd HO652.out).2.2 0 p655 q655;cases e655;have qi655:(0 < t650.length)=True:=eq_true (by omega);(try rw [show ((0:Int)).toNat=0 from rfl] at hx655_0);(try rw [Addr.add_zero'] at hx655_0);have hn655_0:ad655.block ≠ gb654:=Kd.Zdo (Kd.R_ne HO652.out BK654.out (by decide));have hn655_1:ad655.block ≠ gb654:=Kd.Zdo (Kd.R_ne HO652.out BK654.out (by decide));have hn655_2:ad655.block ≠ gb654:=Kd.Zdo (Kd.R_ne HO652.out BK654.out (by decide));replace hx655_0:=(cell_far (p:=⟨gb654,0,none⟩) (by first|(rw [Za9];exact hn655_0)|(show (Addr.add _ _).block ≠ _;rw [Za9];exact hn655_0)|exact hn655_0) (.bool t649)).trans hx655_0;replace hx655_0:=(cell_far (p:=⟨gb654,1,none⟩) (by first|(rw [Za9];exact hn655_1)|(show (Addr.add _ _).block ≠ _;rw [Za9];exact hn655_1)|exact hn655_1) (.slice (some ad655) t650.length co31)).trans hx655_0;replace hx655_0:=(cell_far (p:=⟨gb654,2,none⟩) (by first|(rw [Za9];exact hn655_2)|(show (Addr.add _ _).block ≠ _;rw [Za9];exact hn655_2)|exact hn655_2) (.int .i64 t653)).trans hx655_0;clear hn655_0 hn655_1 hn655_2;replace p655:=eq_true p655;replace q655:=eq_true q655))
       go_ret
       exact ⟨pE,pB⟩
      ·rw [if_neg c25] at H
       have c25b0:((rd t650 0) == 0)=false:=beq_eq_false_iff_ne.mpr c25
       have c25b1:((rd t650 0) != 0)=true:=bne_iff_ne.mpr c25
       by_cases c32:(t650.length:Int) > 300
       ·rw [if_pos c32] at H
        have c32b0:decide (300 < (t650.length:Int))=true:=decide_eq_true c32
        have c32b1:decide (300 < t650.length)=true:=decide_eq_true (by omega)
        clear c32
        obtain rfl:=Option.some.inj H
        obtain ⟨hcz33_0,hcz33_1,hcz33_2,hfz33_0,hfz33_1,hfz33_2⟩:=cEc BK647.out
        go_wp2_with (first|(refine gL (some 15) Tryz.func18 #[.agg #[.bool a0_0,.slice A0_1 l0_1.length c0_1,.int .i64 a0_2]] (h:=?_);(with_reducible refine (Zp.calls kj1 a0_0 _ _ l0_1 a0_2 t649 t650 t653 _ ?side1 ?side2 A9.out).mono ?_);(case side1=>refine cp ?_;exact (Kd.Zh HR0_1.out HB.out));(case side2=>exact HC0_1.out);rintro e w34 ⟨v651,rfl,ho0,hb⟩;refine ⟨_,rfl,?_⟩;have HO652:=am (Kd.Zq ho0 (Zb pB));replace BK647:=bb BK647 hb;replace HB:=bS hb)|((with_reducible refine gd 3 ?_);(try (refine Zas (by rfl) ?_;dsimp only));refine bx 3 #[.bool false,.slice none 0 0,.int .i64 0] 30 (h:=?_);intro gb654 hg w35 hbox hb;have BK654:=am hbox;have GW654:=gW hg;have GE654:=gW hg;have NB647_654:=nL hg BK647;have NB654_647:=nG hg BK647;replace HO652:=rbl HO652 hb;replace BK647:=bb BK647 hb;replace HB:=bS hb;clear hb hbox hg;have hnb36:=NB654_647.out;have hnc36:=NB647_654.out;obtain ⟨hcz37_0,hcz37_1,hcz37_2,hfz37_0,hfz37_1,hfz37_2⟩:=cEc BK654.out;obtain ⟨Ao38,co38,eo38⟩:=Kd.Zm HO652.out;subst eo38;have p655:0<=(0:Int):=(by omega);have q655:0 < (t650.length:Int):=of_decide_eq_true pQ;obtain ⟨ad655,e655,hx655_0⟩:=Kd.Za4 (Kd.Zd HO652.out).2.2 0 p655 q655;cases e655;have qi655:(0 < t650.length)=True:=eq_true (by omega);(try rw [show ((0:Int)).toNat=0 from rfl] at hx655_0);(try rw [Addr.add_zero'] at hx655_0);have hn655_0:ad655.block ≠ gb654:=Kd.Zdo (Kd.R_ne HO652.out BK654.out (by decide));have hn655_1:ad655.block ≠ gb654:=Kd.Zdo (Kd.R_ne HO652.out BK654.out (by decide));have hn655_2:ad655.block ≠ gb654:=Kd.Zdo (Kd.R_ne HO652.out BK654.out (by decide));replace hx655_0:=(cell_far (p:=⟨gb654,0,none⟩) (by first|(rw [Za9];exact hn655_0)|(show (Addr.add _ _).block ≠ _;rw [Za9];exact hn655_0)|exact hn655_0) (.bool t649)).trans hx655_0;replace hx655_0:=(cell_far (p:=⟨gb654,1,none⟩) (by first|(rw [Za9];exact hn655_1)|(show (Addr.add _ _).block ≠ _;rw [Za9];exact hn655_1)|exact hn655_1) (.slice (some ad655) t650.length co38)).trans hx655_0;replace hx655_0:=(cell_far (p:=⟨gb654,2,none⟩) (by first|(rw [Za9];exact hn655_2)|(show (Addr.add _ _).block ≠ _;rw [Za9];exact hn655_2)|exact hn655_2) (.int .i64 t653)).trans hx655_0;clear hn655_0 hn655_1 hn655_2;replace p655:=eq_true p655;replace q655:=eq_true q655))
        go_ret
        exact ⟨pE,pB⟩
       ·rw [if_neg c32] at H
        have c32b0:decide (300 < (t650.length:Int))=false:=decide_eq_false c32
        have c32b1:decide (300 < t650.length)=false:=decide_eq_false (by omega)
        clear c32
        by_cases c39:a0_2 < (-1000)
        ·rw [if_pos c39] at H
         have c39b0:decide (a0_2 < (-1000))=true:=decide_eq_true c39
         clear c39
         obtain rfl:=Option.some.inj H
         obtain ⟨hcz40_0,hcz40_1,hcz40_2,hfz40_0,hfz40_1,hfz40_2⟩:=cEc BK647.out
         go_wp2_with (first|(refine gL (some 15) Tryz.func18 #[.agg #[.bool a0_0,.slice A0_1 l0_1.length c0_1,.int .i64 a0_2]] (h:=?_);(with_reducible refine (Zp.calls kj1 a0_0 _ _ l0_1 a0_2 t649 t650 t653 _ ?side1 ?side2 A9.out).mono ?_);(case side1=>refine cp ?_;exact (Kd.Zh HR0_1.out HB.out));(case side2=>exact HC0_1.out);rintro e w41 ⟨v651,rfl,ho0,hb⟩;refine ⟨_,rfl,?_⟩;have HO652:=am (Kd.Zq ho0 (Zb pB));replace BK647:=bb BK647 hb;replace HB:=bS hb)|((with_reducible refine gd 3 ?_);(try (refine Zas (by rfl) ?_;dsimp only));refine bx 3 #[.bool false,.slice none 0 0,.int .i64 0] 30 (h:=?_);intro gb654 hg w42 hbox hb;have BK654:=am hbox;have GW654:=gW hg;have GE654:=gW hg;have NB647_654:=nL hg BK647;have NB654_647:=nG hg BK647;replace HO652:=rbl HO652 hb;replace BK647:=bb BK647 hb;replace HB:=bS hb;clear hb hbox hg;have hnb43:=NB654_647.out;have hnc43:=NB647_654.out;obtain ⟨hcz44_0,hcz44_1,hcz44_2,hfz44_0,hfz44_1,hfz44_2⟩:=cEc BK654.out;obtain ⟨Ao45,co45,eo45⟩:=Kd.Zm HO652.out;subst eo45;have p655:0<=(0:Int):=(by omega);have q655:0 < (t650.length:Int):=of_decide_eq_true pQ;obtain ⟨ad655,e655,hx655_0⟩:=Kd.Za4 (Kd.Zd HO652.out).2.2 0 p655 q655;cases e655;have qi655:(0 < t650.length)=True:=eq_true (by omega);(try rw [show ((0:Int)).toNat=0 from rfl] at hx655_0);(try rw [Addr.add_zero'] at hx655_0);have hn655_0:ad655.block ≠ gb654:=Kd.Zdo (Kd.R_ne HO652.out BK654.out (by decide));have hn655_1:ad655.block ≠ gb654:=Kd.Zdo (Kd.R_ne HO652.out BK654.out (by decide));have hn655_2:ad655.block ≠ gb654:=Kd.Zdo (Kd.R_ne HO652.out BK654.out (by decide));replace hx655_0:=(cell_far (p:=⟨gb654,0,none⟩) (by first|(rw [Za9];exact hn655_0)|(show (Addr.add _ _).block ≠ _;rw [Za9];exact hn655_0)|exact hn655_0) (.bool t649)).trans hx655_0;replace hx655_0:=(cell_far (p:=⟨gb654,1,none⟩) (by first|(rw [Za9];exact hn655_1)|(show (Addr.add _ _).block ≠ _;rw [Za9];exact hn655_1)|exact hn655_1) (.slice (some ad655) t650.length co45)).trans hx655_0;replace hx655_0:=(cell_far (p:=⟨gb654,2,none⟩) (by first|(rw [Za9];exact hn655_2)|(show (Addr.add _ _).block ≠ _;rw [Za9];exact hn655_2)|exact hn655_2) (.int .i64 t653)).trans hx655_0;clear hn655_0 hn655_1 hn655_2;replace p655:=eq_true p655;replace q655:=eq_true q655;obtain ⟨hcz46_0,hcz46_1,hcz46_2,hfz46_0,hfz46_1,hfz46_2⟩:=cEc BK647.out))
         go_ret
         exact ⟨pE,pB⟩
        ·rw [if_neg c39] at H
         have c39b0:decide (a0_2 < (-1000))=false:=decide_eq_false c39
         clear c39
         by_cases c47:a0_2 > 1000
         ·rw [if_pos c47] at H
          have c47b0:decide (1000 < a0_2)=true:=decide_eq_true c47
          clear c47
          obtain rfl:=Option.some.inj H
          obtain ⟨hcz48_0,hcz48_1,hcz48_2,hfz48_0,hfz48_1,hfz48_2⟩:=cEc BK647.out
          go_wp2_with (first|(refine gL (some 15) Tryz.func18 #[.agg #[.bool a0_0,.slice A0_1 l0_1.length c0_1,.int .i64 a0_2]] (h:=?_);(with_reducible refine (Zp.calls kj1 a0_0 _ _ l0_1 a0_2 t649 t650 t653 _ ?side1 ?side2 A9.out).mono ?_);(case side1=>refine cp ?_;exact (Kd.Zh HR0_1.out HB.out));(case side2=>exact HC0_1.out);rintro e w49 ⟨v651,rfl,ho0,hb⟩;refine ⟨_,rfl,?_⟩;have HO652:=am (Kd.Zq ho0 (Zb pB));replace BK647:=bb BK647 hb;replace HB:=bS hb)|((with_reducible refine gd 3 ?_);(try (refine Zas (by rfl) ?_;dsimp only));refine bx 3 #[.bool false,.slice none 0 0,.int .i64 0] 30 (h:=?_);intro gb654 hg w50 hbox hb;have BK654:=am hbox;have GW654:=gW hg;have GE654:=gW hg;have NB647_654:=nL hg BK647;have NB654_647:=nG hg BK647;replace HO652:=rbl HO652 hb;replace BK647:=bb BK647 hb;replace HB:=bS hb;clear hb hbox hg;have hnb51:=NB654_647.out;have hnc51:=NB647_654.out;obtain ⟨hcz52_0,hcz52_1,hcz52_2,hfz52_0,hfz52_1,hfz52_2⟩:=cEc BK654.out;obtain ⟨Ao53,co53,eo53⟩:=Kd.Zm HO652.out;subst eo53;have p655:0<=(0:Int):=(by omega);have q655:0 < (t650.length:Int):=of_decide_eq_true pQ;obtain ⟨ad655,e655,hx655_0⟩:=Kd.Za4 (Kd.Zd HO652.out).2.2 0 p655 q655;cases e655;have qi655:(0 < t650.length)=True:=eq_true (by omega);(try rw [show ((0:Int)).toNat=0 from rfl] at hx655_0);(try rw [Addr.add_zero'] at hx655_0);have hn655_0:ad655.block ≠ gb654:=Kd.Zdo (Kd.R_ne HO652.out BK654.out (by decide));have hn655_1:ad655.block ≠ gb654:=Kd.Zdo (Kd.R_ne HO652.out BK654.out (by decide));have hn655_2:ad655.block ≠ gb654:=Kd.Zdo (Kd.R_ne HO652.out BK654.out (by decide));replace hx655_0:=(cell_far (p:=⟨gb654,0,none⟩) (by first|(rw [Za9];exact hn655_0)|(show (Addr.add _ _).block ≠ _;rw [Za9];exact hn655_0)|exact hn655_0) (.bool t649)).trans hx655_0;replace hx655_0:=(cell_far (p:=⟨gb654,1,none⟩) (by first|(rw [Za9];exact hn655_1)|(show (Addr.add _ _).block ≠ _;rw [Za9];exact hn655_1)|exact hn655_1) (.slice (some ad655) t650.length co53)).trans hx655_0;replace hx655_0:=(cell_far (p:=⟨gb654,2,none⟩) (by first|(rw [Za9];exact hn655_2)|(show (Addr.add _ _).block ≠ _;rw [Za9];exact hn655_2)|exact hn655_2) (.int .i64 t653)).trans hx655_0;clear hn655_0 hn655_1 hn655_2;replace p655:=eq_true p655;replace q655:=eq_true q655;obtain ⟨hcz54_0,hcz54_1,hcz54_2,hfz54_0,hfz54_1,hfz54_2⟩:=cEc BK647.out))
          go_ret
          exact ⟨pE,pB⟩
         ·rw [if_neg c47] at H
          have c47b0:decide (1000 < a0_2)=false:=decide_eq_false c47
          clear c47
          obtain rfl:=Option.some.inj H
          obtain ⟨hcz55_0,hcz55_1,hcz55_2,hfz55_0,hfz55_1,hfz55_2⟩:=cEc BK647.out
          go_wp2_with (first|(refine gL (some 15) Tryz.func18 #[.agg #[.bool a0_0,.slice A0_1 l0_1.length c0_1,.int .i64 a0_2]] (h:=?_);(with_reducible refine (Zp.calls kj1 a0_0 _ _ l0_1 a0_2 t649 t650 t653 _ ?side1 ?side2 A9.out).mono ?_);(case side1=>refine cp ?_;exact (Kd.Zh HR0_1.out HB.out));(case side2=>exact HC0_1.out);rintro e w56 ⟨v651,rfl,ho0,hb⟩;refine ⟨_,rfl,?_⟩;have HO652:=am (Kd.Zq ho0 (Zb pB));replace BK647:=bb BK647 hb;replace HB:=bS hb)|((with_reducible refine gd 3 ?_);(try (refine Zas (by rfl) ?_;dsimp only));refine bx 3 #[.bool false,.slice none 0 0,.int .i64 0] 30 (h:=?_);intro gb654 hg w57 hbox hb;have BK654:=am hbox;have GW654:=gW hg;have GE654:=gW hg;have NB647_654:=nL hg BK647;have NB654_647:=nG hg BK647;replace HO652:=rbl HO652 hb;replace BK647:=bb BK647 hb;replace HB:=bS hb;clear hb hbox hg;have hnb58:=NB654_647.out;have hnc58:=NB647_654.out;obtain ⟨hcz59_0,hcz59_1,hcz59_2,hfz59_0,hfz59_1,hfz59_2⟩:=cEc BK654.out;obtain ⟨Ao60,co60,eo60⟩:=Kd.Zm HO652.out;subst eo60;have p655:0<=(0:Int):=(by omega);have q655:0 < (t650.length:Int):=of_decide_eq_true pQ;obtain ⟨ad655,e655,hx655_0⟩:=Kd.Za4 (Kd.Zd HO652.out).2.2 0 p655 q655;cases e655;have qi655:(0 < t650.length)=True:=eq_true (by omega);(try rw [show ((0:Int)).toNat=0 from rfl] at hx655_0);(try rw [Addr.add_zero'] at hx655_0);have hn655_0:ad655.block ≠ gb654:=Kd.Zdo (Kd.R_ne HO652.out BK654.out (by decide));have hn655_1:ad655.block ≠ gb654:=Kd.Zdo (Kd.R_ne HO652.out BK654.out (by decide));have hn655_2:ad655.block ≠ gb654:=Kd.Zdo (Kd.R_ne HO652.out BK654.out (by decide));replace hx655_0:=(cell_far (p:=⟨gb654,0,none⟩) (by first|(rw [Za9];exact hn655_0)|(show (Addr.add _ _).block ≠ _;rw [Za9];exact hn655_0)|exact hn655_0) (.bool t649)).trans hx655_0;replace hx655_0:=(cell_far (p:=⟨gb654,1,none⟩) (by first|(rw [Za9];exact hn655_1)|(show (Addr.add _ _).block ≠ _;rw [Za9];exact hn655_1)|exact hn655_1) (.slice (some ad655) t650.length co60)).trans hx655_0;replace hx655_0:=(cell_far (p:=⟨gb654,2,none⟩) (by first|(rw [Za9];exact hn655_2)|(show (Addr.add _ _).block ≠ _;rw [Za9];exact hn655_2)|exact hn655_2) (.int .i64 t653)).trans hx655_0;clear hn655_0 hn655_1 hn655_2;replace p655:=eq_true p655;replace q655:=eq_true q655;obtain ⟨hcz61_0,hcz61_1,hcz61_2,hfz61_0,hfz61_1,hfz61_2⟩:=cEc BK647.out))
          go_ret
          exact ⟨pE,pB⟩
     ·rw [if_neg c24] at H
      exact absurd H (by simp)
def Zbk.f (a0_0:Bool) (l0_1:List Int) (a0_2:Int):Option (Bool × List Int × Int):=if a0_0=true then (some (false,l0_1,a0_2)) else (some (decide ((l0_1.length:Int) > 0),l0_1,a0_2))
theorem Zbk.calls (a0_0:Bool) (P0_1_:Nat->Prop) (u9000_:Value) (l0_1:List Int) (a0_2:Int) (r1:Bool) (r2:List Int) (r3:Int) (w0 w:World) (hB:Below w0.heap.size w0 w) (ho0_1:Kd.R (Kd.int .i64) 3 w w0.heap.size P0_1_ u9000_ l0_1) (h:Zbk.f a0_0 l0_1 a0_2=some (r1,r2,r3)) :
  Calls Tryz.prog 78 #[.agg #[.bool a0_0,u9000_,.int .i64 a0_2]] w fun e w' => ∃ v1_:Value,e=.returned (.agg #[.bool r1,v1_,.int .i64 r3])/\Kd.R (Kd.int .i64) 3 w' w0.heap.size (fun k_=>(P0_1_ k_\/w.heap.size<=k_)) v1_ r2/\Below w0.heap.size w0 w'/\Kept w w' (fun k_=>P0_1_ k_):=by
 have hu30:=Tryz.underlying30
 have HO0_1:=am (show Kd.R (Kd.int .i64) 3 w w0.heap.size (fun k_=>(P0_1_ k_\/w.heap.size<=k_)) u9000_ l0_1 from Kd.Zi ho0_1 (fun k_ hk=>(.inl hk)))
 have HK:=am (Kept.refl w (fun k_=>P0_1_ k_))
 have HW0:=am hB.size
 have HB:=am hB
 clear hB
 have H:(if a0_0=true then (some (false,l0_1,a0_2)) else (some (decide ((l0_1.length:Int) > 0),l0_1,a0_2)))=some (r1,r2,r3):=h
 clear h
 by_cases c2:a0_0=true
 ·subst c2
  rw [if_pos rfl] at H
  simp only [Option.some.injEq,Prod.mk.injEq] at H
  obtain ⟨rfl,rfl,rfl⟩:=H
  obtain ⟨Ao3,co3,eo3⟩:=Kd.Zm HO0_1.out
  subst eo3
  go_enter Tryz.func78,Tryz.ntmps78
  go_wp2_with (first|((with_reducible refine gd 1 ?_);(try (refine Zas (by rfl) ?_;dsimp only));refine bx 1 #[.bool true,.slice Ao3 l0_1.length co3,.int .i64 a0_2] 30 (h:=?_);intro gb801 hg w4 hbox hb;have BK801:=am hbox;have GW801:=am ((by rw [hg];exact (by first|exact HK.out.1|exact (show Kept w _ (fun k_=>P0_1_ k_) from by repeat (first|(with_reducible first|exact HK.out|apply Kept.alloc|apply Kept.drewN|apply Kept.drew)|exact HK.out)).1):w.heap.size<=gb801));have GE801:=am ((gw hg pB:w0.heap.size<=gb801));replace HO0_1:=rbl HO0_1 hb;replace HK:=am (Kept.below (S:=(fun k_=>P0_1_ k_)) (by repeat (first|(with_reducible first|exact HK.out|apply Kept.alloc|apply Kept.drewN|apply Kept.drew)|exact HK.out)) hb);replace HB:=bS hb;clear hb hbox hg)|((with_reducible refine gd 2 ?_);(try (refine Zas (by rfl) ?_;dsimp only));refine bx 2 #[.bool false,.slice none 0 0,.int .i64 0] 30 (h:=?_);intro gb802 hg w5 hbox hb;have BK802:=am hbox;have GW802:=am ((by rw [hg];exact (by first|exact HK.out.1|exact (show Kept w _ (fun k_=>P0_1_ k_) from by repeat (first|(with_reducible first|exact HK.out|apply Kept.alloc|apply Kept.drewN|apply Kept.drew|refine Kept.setCell ?_ (.inr GW801.out) _)|exact HK.out)).1):w.heap.size<=gb802));have GE802:=am ((gw hg pB:w0.heap.size<=gb802));have NB801_802:=nL hg BK801;have NB802_801:=nG hg BK801;replace HO0_1:=rbl HO0_1 hb;replace BK801:=bb BK801 hb;replace HK:=am (Kept.below (S:=(fun k_=>P0_1_ k_)) (by repeat (first|(with_reducible first|exact HK.out|apply Kept.alloc|apply Kept.drewN|apply Kept.drew|refine Kept.setCell ?_ (.inr GW801.out) _)|exact HK.out)) hb);replace HB:=bS hb;clear hb hbox hg;have hnb6:=NB801_802.out;have hnc6:=NB802_801.out;obtain ⟨hcz7_0,hcz7_1,hcz7_2,hfz7_0,hfz7_1,hfz7_2⟩:=cEc BK801.out;obtain ⟨hcz8_0,hcz8_1,hcz8_2,hfz8_0,hfz8_1,hfz8_2⟩:=cEc BK802.out))
  refine bodyPost_ret (results_cell_row rfl _ _ gb802 30 #[.bool false,.slice Ao3 l0_1.length co3,.int .i64 a0_2] (0,0) _ rfl (by refine bp ?_;refine Za6 (cs:=#[.bool false,.slice Ao3 l0_1.length co3,.int .i64 0]) ?_ 2 _ rfl;refine bp ?_;refine Za6 (cs:=#[.bool false,.slice none 0 0,.int .i64 0]) ?_ 1 _ rfl;refine bp ?_;refine Za6 (cs:=#[.bool false,.slice none 0 0,.int .i64 0]) ?_ 0 _ rfl;refine bp ?_;refine Zah ?_ NB802_801.out _;exact bp BK802.out) Tryz.underlying30 rfl (by kernel_rfl)) rfl ?_
  exact ⟨_,pE,by refine rp ?_;exact Kd.Zi (Kd.Zn (p:=⟨gb802,2,none⟩) (Kd.Zn (p:=⟨gb802,1,none⟩) (Kd.Zn (p:=⟨gb802,0,none⟩) (Kd.Zn (p:=⟨gb801,0,none⟩) (Kd.Zu (Kd.Zu HO0_1.out BK801.out (by decide)) BK802.out (by decide)) (fun _ hk=>hk.1.2) (.bool false)) (fun _ hk=>hk.2) (.bool false)) (fun _ hk=>hk.2) (.slice Ao3 l0_1.length co3)) (fun _ hk=>hk.2) (.int .i64 a0_2)) (fun _ hk=>hk.1.1),pB,by repeat (first|(with_reducible first|exact HK.out|apply Kept.alloc|apply Kept.drewN|apply Kept.drew|refine Kept.setCell ?_ (.inr GW801.out) _|refine Kept.setCell ?_ (.inr GW802.out) _)|exact HK.out)⟩
 ·replace c2:=Bool.eq_false_iff.mpr c2
  subst c2
  rw [if_neg (show ¬ (false=true) by decide)] at H
  simp only [Option.some.injEq,Prod.mk.injEq] at H
  obtain ⟨rfl,rfl,rfl⟩:=H
  obtain ⟨Ao9,co9,eo9⟩:=Kd.Zm HO0_1.out
  subst eo9
  rw [show decide ((l0_1.length:Int) > 0)=decide (0 < l0_1.length) by simp]
  go_enter Tryz.func78,Tryz.ntmps78
  go_wp2_with (first|((with_reducible refine gd 1 ?_);(try (refine Zas (by rfl) ?_;dsimp only));refine bx 1 #[.bool false,.slice Ao9 l0_1.length co9,.int .i64 a0_2] 30 (h:=?_);intro gb801 hg w10 hbox hb;have BK801:=am hbox;have GW801:=am ((by rw [hg];exact (by first|exact HK.out.1|exact (show Kept w _ (fun k_=>P0_1_ k_) from by repeat (first|(with_reducible first|exact HK.out|apply Kept.alloc|apply Kept.drewN|apply Kept.drew)|exact HK.out)).1):w.heap.size<=gb801));have GE801:=am ((gw hg pB:w0.heap.size<=gb801));replace HO0_1:=rbl HO0_1 hb;replace HK:=am (Kept.below (S:=(fun k_=>P0_1_ k_)) (by repeat (first|(with_reducible first|exact HK.out|apply Kept.alloc|apply Kept.drewN|apply Kept.drew)|exact HK.out)) hb);replace HB:=bS hb;clear hb hbox hg)|((with_reducible refine gd 2 ?_);(try (refine Zas (by rfl) ?_;dsimp only));refine bx 2 #[.bool false,.slice none 0 0,.int .i64 0] 30 (h:=?_);intro gb802 hg w11 hbox hb;have BK802:=am hbox;have GW802:=am ((by rw [hg];exact (by first|exact HK.out.1|exact (show Kept w _ (fun k_=>P0_1_ k_) from by repeat (first|(with_reducible first|exact HK.out|apply Kept.alloc|apply Kept.drewN|apply Kept.drew|refine Kept.setCell ?_ (.inr GW801.out) _)|exact HK.out)).1):w.heap.size<=gb802));have GE802:=am ((gw hg pB:w0.heap.size<=gb802));have NB801_802:=nL hg BK801;have NB802_801:=nG hg BK801;replace HO0_1:=rbl HO0_1 hb;replace BK801:=bb BK801 hb;replace HK:=am (Kept.below (S:=(fun k_=>P0_1_ k_)) (by repeat (first|(with_reducible first|exact HK.out|apply Kept.alloc|apply Kept.drewN|apply Kept.drew|refine Kept.setCell ?_ (.inr GW801.out) _)|exact HK.out)) hb);replace HB:=bS hb;clear hb hbox hg;have hnb12:=NB801_802.out;have hnc12:=NB802_801.out;obtain ⟨hcz13_0,hcz13_1,hcz13_2,hfz13_0,hfz13_1,hfz13_2⟩:=cEc BK801.out;obtain ⟨hcz14_0,hcz14_1,hcz14_2,hfz14_0,hfz14_1,hfz14_2⟩:=cEc BK802.out))
  refine bodyPost_ret (results_cell_row rfl _ _ gb802 30 #[.bool (decide (0 < l0_1.length)),.slice Ao9 l0_1.length co9,.int .i64 a0_2] (0,0) _ rfl (by refine bp ?_;refine Za6 (cs:=#[.bool (decide (0 < l0_1.length)),.slice Ao9 l0_1.length co9,.int .i64 0]) ?_ 2 _ rfl;refine bp ?_;refine Za6 (cs:=#[.bool (decide (0 < l0_1.length)),.slice none 0 0,.int .i64 0]) ?_ 1 _ rfl;refine bp ?_;refine Za6 (cs:=#[.bool false,.slice none 0 0,.int .i64 0]) ?_ 0 _ rfl;refine bp ?_;refine Zah ?_ NB802_801.out _;exact bp BK802.out) Tryz.underlying30 rfl (by kernel_rfl)) rfl ?_
  exact ⟨_,pE,by refine rp ?_;exact Kd.Zi (Kd.Zn (p:=⟨gb802,2,none⟩) (Kd.Zn (p:=⟨gb802,1,none⟩) (Kd.Zn (p:=⟨gb802,0,none⟩) (Kd.Zn (p:=⟨gb801,0,none⟩) (Kd.Zu (Kd.Zu HO0_1.out BK801.out (by decide)) BK802.out (by decide)) (fun _ hk=>hk.1.2) (.bool (decide (0 < l0_1.length)))) (fun _ hk=>hk.2) (.bool (decide (0 < l0_1.length)))) (fun _ hk=>hk.2) (.slice Ao9 l0_1.length co9)) (fun _ hk=>hk.2) (.int .i64 a0_2)) (fun _ hk=>hk.1.1),pB,by repeat (first|(with_reducible first|exact HK.out|apply Kept.alloc|apply Kept.drewN|apply Kept.drew|refine Kept.setCell ?_ (.inr GW801.out) _|refine Kept.setCell ?_ (.inr GW802.out) _)|exact HK.out)⟩
def Za3.f (k:Nat) (a0_0:Bool) (l0_1:List Int) (a0_2:Int) (a1_0:Bool) (l1_1:List Int) (a1_2:Int):Option (Int):=(Zr.f k a0_0 l0_1 a0_2).bind fun t658=>(if t658=0 then ((Zr.f k a1_0 l1_1 a1_2).bind fun t659=>(if t659=0 then (some 0) else (some 9))) else (some 9))
theorem Za3.calls (k:Nat) (a0_0:Bool) (A0_1:Option Addr) (c0_1:Nat) (l0_1:List Int) (a0_2:Int) (a1_0:Bool) (A1_1:Option Addr) (c1_1:Nat) (l1_1:List Int) (a1_2:Int) (r:Int) (w:World) (hr0_1:Kd.C (Kd.int .u32) w A0_1 l0_1.length l0_1) (hc0_1:l0_1.length<=c0_1) (hr1_1:Kd.C (Kd.int .u32) w A1_1 l1_1.length l1_1) (hc1_1:l1_1.length<=c1_1) (h:Za3.f k a0_0 l0_1 a0_2 a1_0 l1_1 a1_2=some r) :
  Calls Tryz.prog 64 #[.agg #[.bool a0_0,.slice A0_1 l0_1.length c0_1,.int .i64 a0_2],.agg #[.bool a1_0,.slice A1_1 l1_1.length c1_1,.int .i64 a1_2]] w fun e w'=>e=.returned (.int .i64 r)/\Below w.heap.size w w':=by
 have hu24:=Tryz.underlying24
 have HR0_1:=am hr0_1
 have HC0_1:=am hc0_1
 clear hr0_1 hc0_1
 have HR1_1:=am hr1_1
 have HC1_1:=am hc1_1
 clear hr1_1 hc1_1
 have HB:=am (Below.refl w.heap.size w)
 have H:((Zr.f k a0_0 l0_1 a0_2).bind fun t658=>(if t658=0 then ((Zr.f k a1_0 l1_1 a1_2).bind fun t659=>(if t659=0 then (some 0) else (some 9))) else (some 9)))=some r:=h
 clear h
 obtain ⟨t658,A3,H⟩:=ob H
 by_cases c4:t658=0
 ·rw [if_pos c4] at H
  have c4b0:(t658 == 0)=true:=beq_iff_eq.mpr c4
  have c4b1:(t658 != 0)=false:=bne_eq_false_iff_eq.mpr c4
  clear c4
  obtain ⟨t659,A5,H⟩:=ob H
  by_cases c6:t659=0
  ·rw [if_pos c6] at H
   have c6b0:(t659 == 0)=true:=beq_iff_eq.mpr c6
   have c6b1:(t659 != 0)=false:=bne_eq_false_iff_eq.mpr c6
   clear c6
   obtain rfl:=Option.some.inj H
   go_enter Tryz.func64,Tryz.ntmps64
   go_wp2_with (first|((with_reducible refine gd 2 ?_);refine bx 2 #[.bool a0_0,.slice A0_1 l0_1.length c0_1,.int .i64 a0_2] 24 (h:=?_);intro gb656 hg w7 hbox hb;have BK656:=am hbox;have GW656:=gW hg;have GE656:=gW hg;replace HB:=bS hb;clear hb hbox hg)|((with_reducible refine gd 3 ?_);refine bx 3 #[.bool a1_0,.slice A1_1 l1_1.length c1_1,.int .i64 a1_2] 24 (h:=?_);intro gb657 hg w8 hbox hb;have BK657:=am hbox;have GW657:=gW hg;have GE657:=gW hg;have NB656_657:=nL hg BK656;have NB657_656:=nG hg BK656;replace BK656:=bb BK656 hb;replace HB:=bS hb;clear hb hbox hg;have hnb9:=NB656_657.out;have hnc9:=NB657_656.out;obtain ⟨hcz10_0,hcz10_1,hcz10_2,hfz10_0,hfz10_1,hfz10_2⟩:=cEc BK656.out)|(refine gL (some 6) Tryz.func33 #[.agg #[.bool a0_0,.slice A0_1 l0_1.length c0_1,.int .i64 a0_2]] (h:=?_);(with_reducible refine (Zr.calls k a0_0 _ _ l0_1 a0_2 t658 _ ?side1 ?side2 A3.out).mono ?_);(case side1=>refine cp ?_;exact (Kd.Zh HR0_1.out HB.out));(case side2=>exact HC0_1.out);rintro e w11 ⟨rfl,hb⟩;refine ⟨_,rfl,?_⟩;replace BK656:=bb BK656 hb;replace BK657:=bb BK657 hb;replace HB:=bS hb;obtain ⟨hcz12_0,hcz12_1,hcz12_2,hfz12_0,hfz12_1,hfz12_2⟩:=cEc BK657.out)|(go_at_call 33;(with_reducible refine (Zr.calls k a1_0 _ _ l1_1 a1_2 t659 _ ?side1 ?side2 A5.out).mono ?_);(case side1=>refine cp ?_;exact (Kd.Zh HR1_1.out HB.out));(case side2=>exact HC1_1.out);rintro e w13 ⟨rfl,hb⟩;replace BK656:=bb BK656 hb;replace BK657:=bb BK657 hb;replace HB:=bS hb))
   go_ret
   exact ⟨pE,pB⟩
  ·rw [if_neg c6] at H
   have c6b0:(t659 == 0)=false:=beq_eq_false_iff_ne.mpr c6
   have c6b1:(t659 != 0)=true:=bne_iff_ne.mpr c6
   obtain rfl:=Option.some.inj H
   go_enter Tryz.func64,Tryz.ntmps64
   go_wp2_with (first|((with_reducible refine gd 2 ?_);refine bx 2 #[.bool a0_0,.slice A0_1 l0_1.length c0_1,.int .i64 a0_2] 24 (h:=?_);intro gb656 hg w14 hbox hb;have BK656:=am hbox;have GW656:=gW hg;have GE656:=gW hg;replace HB:=bS hb;clear hb hbox hg)|((with_reducible refine gd 3 ?_);refine bx 3 #[.bool a1_0,.slice A1_1 l1_1.length c1_1,.int .i64 a1_2] 24 (h:=?_);intro gb657 hg w15 hbox hb;have BK657:=am hbox;have GW657:=gW hg;have GE657:=gW hg;have NB656_657:=nL hg BK656;have NB657_656:=nG hg BK656;replace BK656:=bb BK656 hb;replace HB:=bS hb;clear hb hbox hg;have hnb16:=NB656_657.out;have hnc16:=NB657_656.out;obtain ⟨hcz17_0,hcz17_1,hcz17_2,hfz17_0,hfz17_1,hfz17_2⟩:=cEc BK656.out)|(refine gL (some 6) Tryz.func33 #[.agg #[.bool a0_0,.slice A0_1 l0_1.length c0_1,.int .i64 a0_2]] (h:=?_);(with_reducible refine (Zr.calls k a0_0 _ _ l0_1 a0_2 t658 _ ?side1 ?side2 A3.out).mono ?_);(case side1=>refine cp ?_;exact (Kd.Zh HR0_1.out HB.out));(case side2=>exact HC0_1.out);rintro e w18 ⟨rfl,hb⟩;refine ⟨_,rfl,?_⟩;replace BK656:=bb BK656 hb;replace BK657:=bb BK657 hb;replace HB:=bS hb;obtain ⟨hcz19_0,hcz19_1,hcz19_2,hfz19_0,hfz19_1,hfz19_2⟩:=cEc BK657.out)|(go_at_call 33;(with_reducible refine (Zr.calls k a1_0 _ _ l1_1 a1_2 t659 _ ?side1 ?side2 A5.out).mono ?_);(case side1=>refine cp ?_;exact (Kd.Zh HR1_1.out HB.out));(case side2=>exact HC1_1.out);rintro e w20 ⟨rfl,hb⟩;replace BK656:=bb BK656 hb;replace BK657:=bb BK657 hb;replace HB:=bS hb))
   go_ret
   exact ⟨pE,pB⟩
 ·rw [if_neg c4] at H
  have c4b0:(t658 == 0)=false:=beq_eq_false_iff_ne.mpr c4
  have c4b1:(t658 != 0)=true:=bne_iff_ne.mpr c4
  obtain rfl:=Option.some.inj H
  go_enter Tryz.func64,Tryz.ntmps64
  go_wp2_with (first|((with_reducible refine gd 2 ?_);refine bx 2 #[.bool a0_0,.slice A0_1 l0_1.length c0_1,.int .i64 a0_2] 24 (h:=?_);intro gb656 hg w21 hbox hb;have BK656:=am hbox;have GW656:=gW hg;have GE656:=gW hg;replace HB:=bS hb;clear hb hbox hg)|((with_reducible refine gd 3 ?_);refine bx 3 #[.bool a1_0,.slice A1_1 l1_1.length c1_1,.int .i64 a1_2] 24 (h:=?_);intro gb657 hg w22 hbox hb;have BK657:=am hbox;have GW657:=gW hg;have GE657:=gW hg;have NB656_657:=nL hg BK656;have NB657_656:=nG hg BK656;replace BK656:=bb BK656 hb;replace HB:=bS hb;clear hb hbox hg;have hnb23:=NB656_657.out;have hnc23:=NB657_656.out;obtain ⟨hcz24_0,hcz24_1,hcz24_2,hfz24_0,hfz24_1,hfz24_2⟩:=cEc BK656.out)|(refine gL (some 6) Tryz.func33 #[.agg #[.bool a0_0,.slice A0_1 l0_1.length c0_1,.int .i64 a0_2]] (h:=?_);(with_reducible refine (Zr.calls k a0_0 _ _ l0_1 a0_2 t658 _ ?side1 ?side2 A3.out).mono ?_);(case side1=>refine cp ?_;exact (Kd.Zh HR0_1.out HB.out));(case side2=>exact HC0_1.out);rintro e w25 ⟨rfl,hb⟩;refine ⟨_,rfl,?_⟩;replace BK656:=bb BK656 hb;replace BK657:=bb BK657 hb;replace HB:=bS hb))
  go_ret
  exact ⟨pE,pB⟩
def Zcf.f (a0_0:Bool) (l0_1:List Int) (a0_2:Int) (a1_0:Bool) (l1_1:List Int) (a1_2:Int):Option (Bool × List Int × Int × Bool × List Int × Int):=(Zbb.f l0_1 (wrap64 (a0_2 - (mn a0_2 a1_2)))).bind fun t755=>((Zbb.f l1_1 (wrap64 (a1_2 - (mn a0_2 a1_2)))).bind fun t758=>(some (a0_0,t755,mn a0_2 a1_2,a1_0,t758,mn a0_2 a1_2)))
theorem Zcf.calls (a0_0:Bool) (A0_1:Option Addr) (c0_1:Nat) (l0_1:List Int) (a0_2:Int) (a1_0:Bool) (A1_1:Option Addr) (c1_1:Nat) (l1_1:List Int) (a1_2:Int) (r1:Bool) (r2:List Int) (r3:Int) (r4:Bool) (r5:List Int) (r6:Int) (w:World) (hr0_1:Kd.C (Kd.int .i64) w A0_1 l0_1.length l0_1) (hc0_1:l0_1.length<=c0_1) (hr1_1:Kd.C (Kd.int .i64) w A1_1 l1_1.length l1_1) (hc1_1:l1_1.length<=c1_1) (h:Zcf.f a0_0 l0_1 a0_2 a1_0 l1_1 a1_2=some (r1,r2,r3,r4,r5,r6)) :
  Calls Tryz.prog 133 #[.agg #[.bool a0_0,.slice A0_1 l0_1.length c0_1,.int .i64 a0_2],.agg #[.bool a1_0,.slice A1_1 l1_1.length c1_1,.int .i64 a1_2]] w fun e w' => ∃ v1_ v4_:Value,e=.returned (.tuple #[.agg #[.bool r1,v1_,.int .i64 r3],.agg #[.bool r4,v4_,.int .i64 r6]])/\Kd.R (Kd.int .i64) 3 w' w.heap.size (fun k_=>some k_ ≠ (v4_:Value).ownBlock) v1_ r2/\Kd.R (Kd.int .i64) 3 w' w.heap.size (fun k_=>some k_ ≠ (v1_:Value).ownBlock) v4_ r5/\Below w.heap.size w w':=by
 have hu30:=Tryz.underlying30
 have HR0_1:=am hr0_1
 have HC0_1:=am hc0_1
 clear hr0_1 hc0_1
 have HR1_1:=am hr1_1
 have HC1_1:=am hc1_1
 clear hr1_1 hc1_1
 have HB:=am (Below.refl w.heap.size w)
 have H:((Zbb.f l0_1 (wrap64 (a0_2 - (mn a0_2 a1_2)))).bind fun t755=>((Zbb.f l1_1 (wrap64 (a1_2 - (mn a0_2 a1_2)))).bind fun t758=>(some (a0_0,t755,mn a0_2 a1_2,a1_0,t758,mn a0_2 a1_2))))=some (r1,r2,r3,r4,r5,r6):=h
 clear h
 obtain ⟨ji3,hji3⟩:∃ j_:Int,(mn a0_2 a1_2)=j_:=⟨_,rfl⟩
 replace H:((Zbb.f l0_1 (wrap64 (a0_2 - (ji3)))).bind fun t755=>((Zbb.f l1_1 (wrap64 (a1_2 - (ji3)))).bind fun t758=>(some (a0_0,t755,ji3,a1_0,t758,ji3))))=some (r1,r2,r3,r4,r5,r6):=by first|(rw [hji3] at H;exact H)|(simp only [hji3] at H ⊢;exact H)
 have hji3_:(if a1_2 < a0_2 then a1_2 else a0_2)=ji3:=hji3
 obtain ⟨t755,A4,H⟩:=ob H
 obtain ⟨t758,A5,H⟩:=ob H
 simp only [Option.some.injEq,Prod.mk.injEq] at H
 obtain ⟨rfl,rfl,rfl,rfl,rfl,rfl⟩:=H
 go_enter Tryz.func133,Tryz.ntmps133
 try go_wp2_with (first|((with_reducible refine gd 2 ?_);refine bx 2 #[.bool a0_0,.slice A0_1 l0_1.length c0_1,.int .i64 a0_2] 30 (h:=?_);intro gb751 hg w6 hbox hb;have BK751:=am hbox;have GW751:=gW hg;have GE751:=gW hg;replace HB:=bS hb;clear hb hbox hg)|((with_reducible refine gd 3 ?_);refine bx 3 #[.bool a1_0,.slice A1_1 l1_1.length c1_1,.int .i64 a1_2] 30 (h:=?_);intro gb752 hg w7 hbox hb;have BK752:=am hbox;have GW752:=gW hg;have GE752:=gW hg;have NB751_752:=nL hg BK751;have NB752_751:=nG hg BK751;replace BK751:=bb BK751 hb;replace HB:=bS hb;clear hb hbox hg)|((with_reducible refine gd 4 ?_);refine bx 4 #[.bool false,.slice none 0 0,.int .i64 0] 30 (h:=?_);intro gb753 hg w8 hbox hb;have BK753:=am hbox;have GW753:=gW hg;have GE753:=gW hg;have NB751_753:=nL hg BK751;have NB753_751:=nG hg BK751;have NB752_753:=nL hg BK752;have NB753_752:=nG hg BK752;replace BK751:=bb BK751 hb;replace BK752:=bb BK752 hb;replace HB:=bS hb;clear hb hbox hg)|((with_reducible refine gd 5 ?_);refine bx 5 #[.bool false,.slice none 0 0,.int .i64 0] 30 (h:=?_);intro gb754 hg w9 hbox hb;have BK754:=am hbox;have GW754:=gW hg;have GE754:=gW hg;have NB751_754:=nL hg BK751;have NB754_751:=nG hg BK751;have NB752_754:=nL hg BK752;have NB754_752:=nG hg BK752;have NB753_754:=nL hg BK753;have NB754_753:=nG hg BK753;replace BK751:=bb BK751 hb;replace BK752:=bb BK752 hb;replace BK753:=bb BK753 hb;replace HB:=bS hb;clear hb hbox hg;have hnb10:=NB751_752.out;have hnc10:=NB752_751.out;have hnb11:=NB751_753.out;have hnc11:=NB753_751.out;have hnb12:=NB751_754.out;have hnc12:=NB754_751.out;obtain ⟨hcz13_0,hcz13_1,hcz13_2,hfz13_0,hfz13_1,hfz13_2⟩:=cEc BK751.out;have hnb14:=NB752_753.out;have hnc14:=NB753_752.out;have hnb15:=NB752_754.out;have hnc15:=NB754_752.out;obtain ⟨hcz16_0,hcz16_1,hcz16_2,hfz16_0,hfz16_1,hfz16_2⟩:=cEc BK752.out)|((with_reducible refine Zdw (f:=93) rfl ?_);refine goesL_ (some 18) rfl rfl Tryz.func93 (by kernel_rfl) rfl #[.slice A0_1 l0_1.length c0_1,.int .i64 (wrap64 (a0_2 - (ji3)))] rfl (by (try simp only [List.map_toArray,List.map_cons,List.map_nil]);first|done|(simp only [hji3];rfl)|rfl|(simp only [List.length_drop,List.length_take];rfl)) ?_;(with_reducible refine (Zbb.calls _ _ l0_1 (wrap64 (a0_2 - (ji3))) t755 _ ?side1 ?side2 A4.out).mono ?_);(case side1=>refine cp ?_;exact (Kd.Zh HR0_1.out HB.out));(case side2=>exact HC0_1.out);rintro e w17 ⟨v756,rfl,ho0,hb⟩;refine ⟨_,rfl,?_⟩;have HO757:=am (Kd.Zq ho0 (Zb pB));replace BK751:=bb BK751 hb;replace BK752:=bb BK752 hb;replace BK753:=bb BK753 hb;replace BK754:=bb BK754 hb;replace HB:=bS hb;obtain ⟨Ao18,co18,eo18⟩:=Kd.Zm HO757.out;subst eo18;obtain ⟨hcz19_0,hcz19_1,hcz19_2,hfz19_0,hfz19_1,hfz19_2⟩:=cEc BK751.out;obtain ⟨hcz20_0,hcz20_1,hcz20_2,hfz20_0,hfz20_1,hfz20_2⟩:=cEc BK752.out)|((with_reducible refine Zdw (f:=93) rfl ?_);refine goesL_ (some 28) rfl rfl Tryz.func93 (by kernel_rfl) rfl #[.slice A1_1 l1_1.length c1_1,.int .i64 (wrap64 (a1_2 - (ji3)))] rfl (by (try simp only [List.map_toArray,List.map_cons,List.map_nil]);first|done|(simp only [hji3];rfl)|rfl|(simp only [List.length_drop,List.length_take];rfl)) ?_;(with_reducible refine (Zbb.calls _ _ l1_1 (wrap64 (a1_2 - (ji3))) t758 _ ?side1 ?side2 A5.out).mono ?_);(case side1=>exact Kd.Zh HR1_1.out pB);(case side2=>exact HC1_1.out);rintro e w21 ⟨v759,rfl,ho0,hb⟩;refine ⟨_,rfl,?_⟩;have HO760:=am (Kd.Zq (Kd.Zv ho0 (Kd.R_lt (Kd.Za (Kd.Zi (Kd.Zn (p:=⟨gb751,2,none⟩) (Kd.Zn (p:=⟨gb751,1,none⟩) (Kd.Zu HO757.out BK751.out (by decide)) (fun _ hk=>hk.2) (.slice Ao18 t755.length co18)) (fun _ hk=>hk.2) (.int .i64 ji3)) (fun _ h_=>h_.1)) pl))) (Zb pB));replace HO757:=am (Kd.Zco (Kd.Za (Kd.Zi (Kd.Zn (p:=⟨gb751,2,none⟩) (Kd.Zn (p:=⟨gb751,1,none⟩) (Kd.Zu HO757.out BK751.out (by decide)) (fun _ hk=>hk.2) (.slice Ao18 t755.length co18)) (fun _ hk=>hk.2) (.int .i64 ji3)) (fun _ h_=>h_.1)) pl) (Kd.Zat ho0) hb);replace BK751:=am (Zc (g:=gb751) (o:=.cells #[.bool a0_0,.slice Ao18 t755.length co18,.int .i64 ji3] 30 (0,0)) (by refine bp ?_;refine Za6 (cs:=#[.bool a0_0,.slice Ao18 t755.length co18,.int .i64 a0_2]) ?_ 2 _ rfl;refine bp ?_;refine Za6 (cs:=#[.bool a0_0,.slice A0_1 l0_1.length c0_1,.int .i64 a0_2]) ?_ 1 _ rfl;exact bp BK751.out) hb);replace BK752:=bfb NB752_751 BK752 hb;replace BK753:=bfb NB753_751 BK753 hb;replace BK754:=bfb NB754_751 BK754 hb;replace HB:=bS hb;obtain ⟨Ao22,co22,eo22⟩:=Kd.Zm HO760.out;subst eo22;obtain ⟨hcz23_0,hcz23_1,hcz23_2,hfz23_0,hfz23_1,hfz23_2⟩:=cEc BK752.out))
 have n0_:Aside0 (Kd.R (Kd.int .i64) 3 ((w21.setCell ⟨gb752,1,none⟩ (.slice Ao22 t758.length co22)).setCell ⟨gb752,2,none⟩ (.int .i64 ji3)) w.heap.size (fun k_=>some k_ ≠ (.slice Ao22 t758.length co22:Value).ownBlock) (.slice Ao18 t755.length co18) t755):=⟨by refine rp ?_;exact Kd.Zi (Kd.Zn (p:=⟨gb752,2,none⟩) (Kd.Zn (p:=⟨gb752,1,none⟩) (Kd.Zu HO757.out BK752.out (by decide)) (fun _ hk=>hk.2) (.slice Ao22 t758.length co22)) (fun _ hk=>hk.2) (.int .i64 ji3)) (fun _ hk=>hk.1.2)⟩
 have n1_:Aside0 (Kd.R (Kd.int .i64) 3 ((w21.setCell ⟨gb752,1,none⟩ (.slice Ao22 t758.length co22)).setCell ⟨gb752,2,none⟩ (.int .i64 ji3)) w.heap.size (fun k_=>some k_ ≠ (.slice Ao18 t755.length co18:Value).ownBlock) (.slice Ao22 t758.length co22) t758):=⟨by refine rp ?_;exact Kd.Zi (Kd.Zn (p:=⟨gb752,2,none⟩) (Kd.Zn (p:=⟨gb752,1,none⟩) (Kd.Zu HO760.out BK752.out (by decide)) (fun _ hk=>hk.2) (.slice Ao22 t758.length co22)) (fun _ hk=>hk.2) (.int .i64 ji3)) (fun _ hk=>hk.1.2)⟩
 have n2_:Aside0 (((w21.setCell ⟨gb752,1,none⟩ (.slice Ao22 t758.length co22)).setCell ⟨gb752,2,none⟩ (.int .i64 ji3)).heap[gb751]? = some (.cells #[.bool a0_0,.slice Ao18 t755.length co18,.int .i64 ji3] 30 (0,0))):=⟨bf NB751_752.out BK751.out⟩
 have n3_:Aside0 (((w21.setCell ⟨gb752,1,none⟩ (.slice Ao22 t758.length co22)).setCell ⟨gb752,2,none⟩ (.int .i64 ji3)).heap[gb752]? = some (.cells #[.bool a1_0,.slice Ao22 t758.length co22,.int .i64 ji3] 30 (0,0))):=⟨by refine bp ?_;refine Za6 (cs:=#[.bool a1_0,.slice Ao22 t758.length co22,.int .i64 a1_2]) ?_ 2 _ rfl;refine bp ?_;refine Za6 (cs:=#[.bool a1_0,.slice A1_1 l1_1.length c1_1,.int .i64 a1_2]) ?_ 1 _ rfl;exact bp BK752.out⟩
 have n4_:Aside0 (((w21.setCell ⟨gb752,1,none⟩ (.slice Ao22 t758.length co22)).setCell ⟨gb752,2,none⟩ (.int .i64 ji3)).heap[gb753]? = some (.cells #[.bool false,.slice none 0 0,.int .i64 0] 30 (0,0))):=⟨bf NB753_752.out BK753.out⟩
 have n5_:Aside0 (((w21.setCell ⟨gb752,1,none⟩ (.slice Ao22 t758.length co22)).setCell ⟨gb752,2,none⟩ (.int .i64 ji3)).heap[gb754]? = some (.cells #[.bool false,.slice none 0 0,.int .i64 0] 30 (0,0))):=⟨bf NB754_752.out BK754.out⟩
 have n6_:Aside0 (Below w.heap.size w ((w21.setCell ⟨gb752,1,none⟩ (.slice Ao22 t758.length co22)).setCell ⟨gb752,2,none⟩ (.int .i64 ji3))):=⟨pB⟩
 generalize ((w21.setCell ⟨gb752,1,none⟩ (.slice Ao22 t758.length co22)).setCell ⟨gb752,2,none⟩ (.int .i64 ji3))=w24 at n0_ n1_ n2_ n3_ n4_ n5_ n6_ ⊢
 have HO757:=n0_
 have HO760:=n1_
 have BK751:=n2_
 have BK752:=n3_
 have BK753:=n4_
 have BK754:=n5_
 have HB:=n6_
 clear n0_ n1_ n2_ n3_ n4_ n5_ n6_
 replace HO757:=am (Kd.Zei HO757.out)
 replace HO760:=am (Kd.Zei HO760.out)
 replace BK751:=am (Zba BK751.out)
 replace BK752:=am (Zba BK752.out)
 replace BK753:=am (Zba BK753.out)
 replace BK754:=am (Zba BK754.out)
 replace HB:=am (Zaz HB.out)
 refine start_ (n:=4) (S:=fun w'=>w'.cell? ⟨gb751,0,none⟩=some (.bool a0_0)/\w'.cell? ⟨gb751,1,none⟩=some (.slice Ao18 t755.length co18)/\w'.cell? ⟨gb751,2,none⟩=some (.int .i64 ji3)/\w'.cell? ⟨gb752,0,none⟩=some (.bool a1_0)/\w'.cell? ⟨gb752,1,none⟩=some (.slice Ao22 t758.length co22)/\w'.cell? ⟨gb752,2,none⟩=some (.int .i64 ji3)) (ds:=[]) #[false,false,false,false] (by kernel_rfl) rfl rfl ⟨k0 BK751 0,k0 BK751 1,k0 BK751 2,k0 BK752 0,k0 BK752 1,k0 BK752 2⟩ (fun hHeld=>?_)
 generalize w24.drew=w25 at HO757 HO760 BK751 BK752 BK753 BK754 HB hHeld ⊢
 refine take_ (i:=0) (N:=some 32) (v:=?_) (a':=?_) #[true,false,false,false] rfl rfl (by kernel_rfl) (fun _ _ _ h=>h) (Or.inl ⟨by rfl,?_⟩) hHeld ?_ ?_
 rotate_left
 ·rintro w' ⟨s0,s1,s2,s3,s4,s5⟩
  go_simp
  with_reducible rfl
 rotate_left
 ·exact pP
 refine take_ (i:=1) (N:=some 33) (v:=?_) (a':=?_) #[true,true,false,false] rfl rfl (by kernel_rfl) (fun _ _ _ h=>h) (Or.inl ⟨by rfl,?_⟩) hHeld ?_ ?_
 rotate_left
 ·rintro w' ⟨s0,s1,s2,s3,s4,s5⟩
  go_simp
  with_reducible rfl
 rotate_left
 ·exact pP
 refine one_ (i:=2) (N:=none) #[true,true,true,false] rfl rfl (by kernel_rfl) (by decide) (fun K hK=>?_)
 have hs26:w25.cell? ⟨gb753,0,none⟩=some (.bool false):=k0 BK753 0
 have hfs26:=Zav BK753.out 0
 have hns26_0:=NB751_753.out
 have hns26_1:=NB752_753.out
 have hns26_3:=NB754_753.out
 have hms26_0:=NB753_751.out
 have hms26_1:=NB753_752.out
 have hms26_3:=NB753_754.out
 have hs27:w25.cell? ⟨gb753,1,none⟩=some (.slice none 0 0):=k0 BK753 1
 have hfs27:=Zav BK753.out 1
 have hns27_0:=NB751_753.out
 have hns27_1:=NB752_753.out
 have hns27_3:=NB754_753.out
 have hms27_0:=NB753_751.out
 have hms27_1:=NB753_752.out
 have hms27_3:=NB753_754.out
 have hs28:w25.cell? ⟨gb753,2,none⟩=some (.int .i64 0):=k0 BK753 2
 have hfs28:=Zav BK753.out 2
 have hns28_0:=NB751_753.out
 have hns28_1:=NB752_753.out
 have hns28_3:=NB754_753.out
 have hms28_0:=NB753_751.out
 have hms28_1:=NB753_752.out
 have hms28_3:=NB753_754.out
 refine skip_ (w1:=?_) (by rfl) rfl ?_ ?_
 rotate_left
 ·go_simp
  rfl
 refine hK.out _ _ ⟨((cell_far (p:=⟨gb753,_,none⟩) NB751_753.out _).trans (((cell_far (p:=⟨gb753,_,none⟩) NB751_753.out _).trans (((cell_far (p:=⟨gb753,_,none⟩) NB751_753.out _).trans (hHeld.1)))))),((cell_far (p:=⟨gb753,_,none⟩) NB751_753.out _).trans (((cell_far (p:=⟨gb753,_,none⟩) NB751_753.out _).trans (((cell_far (p:=⟨gb753,_,none⟩) NB751_753.out _).trans (hHeld.2.1)))))),((cell_far (p:=⟨gb753,_,none⟩) NB751_753.out _).trans (((cell_far (p:=⟨gb753,_,none⟩) NB751_753.out _).trans (((cell_far (p:=⟨gb753,_,none⟩) NB751_753.out _).trans (hHeld.2.2.1)))))),((cell_far (p:=⟨gb753,_,none⟩) NB752_753.out _).trans (((cell_far (p:=⟨gb753,_,none⟩) NB752_753.out _).trans (((cell_far (p:=⟨gb753,_,none⟩) NB752_753.out _).trans (hHeld.2.2.2.1)))))),((cell_far (p:=⟨gb753,_,none⟩) NB752_753.out _).trans (((cell_far (p:=⟨gb753,_,none⟩) NB752_753.out _).trans (((cell_far (p:=⟨gb753,_,none⟩) NB752_753.out _).trans (hHeld.2.2.2.2.1)))))),((cell_far (p:=⟨gb753,_,none⟩) NB752_753.out _).trans (((cell_far (p:=⟨gb753,_,none⟩) NB752_753.out _).trans (((cell_far (p:=⟨gb753,_,none⟩) NB752_753.out _).trans (hHeld.2.2.2.2.2))))))⟩ (fun hHeld=>?_)
 clear hK K
 refine one_ (i:=3) (N:=none) #[true,true,true,true] rfl rfl (by kernel_rfl) (by decide) (fun K hK=>?_)
 have hs29:w25.cell? ⟨gb754,0,none⟩=some (.bool false):=k0 BK754 0
 have hfs29:=Zav BK754.out 0
 have hns29_0:=NB751_754.out
 have hns29_1:=NB752_754.out
 have hns29_2:=NB753_754.out
 have hms29_0:=NB754_751.out
 have hms29_1:=NB754_752.out
 have hms29_2:=NB754_753.out
 have hs30:w25.cell? ⟨gb754,1,none⟩=some (.slice none 0 0):=k0 BK754 1
 have hfs30:=Zav BK754.out 1
 have hns30_0:=NB751_754.out
 have hns30_1:=NB752_754.out
 have hns30_2:=NB753_754.out
 have hms30_0:=NB754_751.out
 have hms30_1:=NB754_752.out
 have hms30_2:=NB754_753.out
 have hs31:w25.cell? ⟨gb754,2,none⟩=some (.int .i64 0):=k0 BK754 2
 have hfs31:=Zav BK754.out 2
 have hns31_0:=NB751_754.out
 have hns31_1:=NB752_754.out
 have hns31_2:=NB753_754.out
 have hms31_0:=NB754_751.out
 have hms31_1:=NB754_752.out
 have hms31_2:=NB754_753.out
 refine skip_ (w1:=?_) (by rfl) rfl ?_ ?_
 rotate_left
 ·go_simp
  rfl
 refine hK.out _ _ ⟨((cell_far (p:=⟨gb754,_,none⟩) NB751_754.out _).trans (((cell_far (p:=⟨gb754,_,none⟩) NB751_754.out _).trans (((cell_far (p:=⟨gb754,_,none⟩) NB751_754.out _).trans (hHeld.1)))))),((cell_far (p:=⟨gb754,_,none⟩) NB751_754.out _).trans (((cell_far (p:=⟨gb754,_,none⟩) NB751_754.out _).trans (((cell_far (p:=⟨gb754,_,none⟩) NB751_754.out _).trans (hHeld.2.1)))))),((cell_far (p:=⟨gb754,_,none⟩) NB751_754.out _).trans (((cell_far (p:=⟨gb754,_,none⟩) NB751_754.out _).trans (((cell_far (p:=⟨gb754,_,none⟩) NB751_754.out _).trans (hHeld.2.2.1)))))),((cell_far (p:=⟨gb754,_,none⟩) NB752_754.out _).trans (((cell_far (p:=⟨gb754,_,none⟩) NB752_754.out _).trans (((cell_far (p:=⟨gb754,_,none⟩) NB752_754.out _).trans (hHeld.2.2.2.1)))))),((cell_far (p:=⟨gb754,_,none⟩) NB752_754.out _).trans (((cell_far (p:=⟨gb754,_,none⟩) NB752_754.out _).trans (((cell_far (p:=⟨gb754,_,none⟩) NB752_754.out _).trans (hHeld.2.2.2.2.1)))))),((cell_far (p:=⟨gb754,_,none⟩) NB752_754.out _).trans (((cell_far (p:=⟨gb754,_,none⟩) NB752_754.out _).trans (((cell_far (p:=⟨gb754,_,none⟩) NB752_754.out _).trans (hHeld.2.2.2.2.2))))))⟩ (fun hHeld=>?_)
 clear hK K
 refine done_ (by kernel_rfl) ?_
 try go_wp2
 refine bodyPost_ret (Zm5 rfl _ _ gb753 gb754 30 30 #[.bool a0_0,.slice Ao18 t755.length co18,.int .i64 ji3] #[.bool a1_0,.slice Ao22 t758.length co22,.int .i64 ji3] (0,0) (0,0) _ _ rfl (by refine bp ?_;refine Zah ?_ NB753_754.out _;refine bp ?_;refine Zah ?_ NB753_754.out _;refine bp ?_;refine Zah ?_ NB753_754.out _;exact p3 BK753) Tryz.underlying30 rfl (by kernel_rfl) rfl (by refine bp ?_;refine Za6 (cs:=#[.bool a1_0,.slice Ao22 t758.length co22,.int .i64 0]) ?_ 2 _ rfl;refine bp ?_;refine Za6 (cs:=#[.bool a1_0,.slice none 0 0,.int .i64 0]) ?_ 1 _ rfl;refine bp ?_;refine Za6 (cs:=#[.bool false,.slice none 0 0,.int .i64 0]) ?_ 0 _ rfl;refine bp ?_;refine Zah ?_ NB754_753.out _;refine bp ?_;refine Zah ?_ NB754_753.out _;refine bp ?_;refine Zah ?_ NB754_753.out _;exact bp BK754.out) Tryz.underlying30 rfl (by kernel_rfl)) rfl ?_
 exact ⟨_,_,by first|rfl|(simp [Zal,Zam] <;> rfl)|(simp only [<- hji3];first|rfl|(simp [Zal,Zam] <;> rfl))|(simp [*,Zal,Zam] <;> rfl),by refine rp ?_;exact Kd.Zi (Kd.Zn (p:=⟨gb754,2,none⟩) (Kd.Zn (p:=⟨gb754,1,none⟩) (Kd.Zn (p:=⟨gb754,0,none⟩) (Kd.Zn (p:=⟨gb753,2,none⟩) (Kd.Zn (p:=⟨gb753,1,none⟩) (Kd.Zn (p:=⟨gb753,0,none⟩) (Kd.Zu (Kd.Zu HO757.out BK753.out (by decide)) BK754.out (by decide)) (fun _ hk=>hk.1.2) (.bool a0_0)) (fun _ hk=>hk.1.2) (.slice Ao18 t755.length co18)) (fun _ hk=>hk.1.2) (.int .i64 ji3)) (fun _ hk=>hk.2) (.bool a1_0)) (fun _ hk=>hk.2) (.slice Ao22 t758.length co22)) (fun _ hk=>hk.2) (.int .i64 ji3)) (fun _ hk=>hk.1.1),by refine rp ?_;exact Kd.Zi (Kd.Zn (p:=⟨gb754,2,none⟩) (Kd.Zn (p:=⟨gb754,1,none⟩) (Kd.Zn (p:=⟨gb754,0,none⟩) (Kd.Zn (p:=⟨gb753,2,none⟩) (Kd.Zn (p:=⟨gb753,1,none⟩) (Kd.Zn (p:=⟨gb753,0,none⟩) (Kd.Zu (Kd.Zu HO760.out BK753.out (by decide)) BK754.out (by decide)) (fun _ hk=>hk.1.2) (.bool a0_0)) (fun _ hk=>hk.1.2) (.slice Ao18 t755.length co18)) (fun _ hk=>hk.1.2) (.int .i64 ji3)) (fun _ hk=>hk.2) (.bool a1_0)) (fun _ hk=>hk.2) (.slice Ao22 t758.length co22)) (fun _ hk=>hk.2) (.int .i64 ji3)) (fun _ hk=>hk.1.1),pB⟩
def Zaf.f (k:Nat) (a0_0:Bool) (l0_1:List Int) (a0_2:Int) (a1_0:Bool) (l1_1:List Int) (a1_2:Int):Option (Bool × List Int × Int):=(Zcf.f a0_0 l0_1 a0_2 a1_0 l1_1 a1_2).bind fun bt781=>(if (bt781.1 == bt781.2.2.2.1)=true then ((Zt.f k bt781.2.1 bt781.2.2.2.2.1).bind fun t791=>(some (bt781.1,t791,bt781.2.2.1))) else ((Zaq.f k bt781.2.1 bt781.2.2.2.2.1).bind fun t794=>(if t794 >= 0 then ((Zaa.f k bt781.2.1 bt781.2.2.2.2.1).bind fun t795=>(some (bt781.1,t795,bt781.2.2.1))) else ((Zaa.f k bt781.2.2.2.2.1 bt781.2.1).bind fun t798=>(some (bt781.2.2.2.1,t798,bt781.2.2.1))))))
def Zaf.T2:Bool × List (List Nat × List Nat):=(true,[([],[]),([0],[0]),([],[]),([2],[2]),([],[]),([4],[4]),([3,5],[3,5]),([0,1,4,5],[]),([7,1,6,0,1,4,5],[1,7]),([0,1,2,3,4,5,6,7,8],[]),([9,6,8,0,1,2,3,4,5,6,7,8],[6,9])])
def Zaf.B2:List Nat:=[0,1,0,4,0,16,60,51,255,511,1023]
theorem Zaf.tab2:rtab .any (opsOf Tryz.f77 2)=Zaf.T2:=by kernel_rfl
theorem Zaf.bits2:waitsOk Zaf.T2.2 Zaf.B2=true:=by kernel_rfl
theorem Zaf.leaf {P:Prop} (h:P:=by
 go_enter Tryz.func77,Tryz.ntmps77
 try go_wp2_with (first|((with_reducible refine gd 2 ?_);refine bx 2 #[.bool a0_0,.slice A0_1 l0_1.length c0_1,.int .i64 a0_2] 30 (h:=?_);intro gb0z hg w1z hbox hb;have BK2z:=am hbox;have GW3z:=gW hg;have GE4z:=gW hg;replace HB:=bS hb;clear hb hbox hg)|((with_reducible refine gd 3 ?_);refine bx 3 #[.bool a1_0,.slice A1_1 l1_1.length c1_1,.int .i64 a1_2] 30 (h:=?_);intro gb5z hg w6z hbox hb;have BK7z:=am hbox;have GW8z:=gW hg;have GE9z:=gW hg;have NB10z:=nL hg BK2z;have NB11z:=nG hg BK2z;replace BK2z:=bb BK2z hb;replace HB:=bS hb;clear hb hbox hg)|((with_reducible refine gd 4 ?_);refine bx 4 #[.bool false,.slice none 0 0,.int .i64 0] 30 (h:=?_);intro gb12z hg w13z hbox hb;have BK14z:=am hbox;have GW15z:=gW hg;have GE16z:=gW hg;have NB17z:=nL hg BK2z;have NB18z:=nG hg BK2z;have NB19z:=nL hg BK7z;have NB20z:=nG hg BK7z;replace BK2z:=bb BK2z hb;replace BK7z:=bb BK7z hb;replace HB:=bS hb;clear hb hbox hg;have hnb21z:=NB10z.out;have hnc22z:=NB11z.out;have hnb23z:=NB17z.out;have hnc24z:=NB18z.out;obtain ⟨hcz25z,hcz26z,hcz27z,hfz28z,hfz29z,hfz30z⟩:=cEc BK2z.out;have hnb31z:=NB19z.out;have hnc32z:=NB20z.out;obtain ⟨hcz33z,hcz34z,hcz35z,hfz36z,hfz37z,hfz38z⟩:=cEc BK7z.out)|(refine gL (some 8) Tryz.func133 #[.agg #[.bool a0_0,.slice A0_1 l0_1.length c0_1,.int .i64 a0_2],.agg #[.bool a1_0,.slice A1_1 l1_1.length c1_1,.int .i64 a1_2]] (h:=?_);(with_reducible refine (Zcf.calls a0_0 _ _ l0_1 a0_2 a1_0 _ _ l1_1 a1_2 t781 t782 t785 t786 t787 t790 _ ?side1 ?side2 ?side3 ?side4 A3.out).mono ?_);(case side1=>refine cp ?_;exact (Kd.Zh HR0_1.out HB.out));(case side2=>exact HC0_1.out);(case side3=>refine cp ?_;exact (Kd.Zh HR1_1.out HB.out));(case side4=>exact HC1_1.out);rintro e w39z ⟨v40z,v41z,rfl,ho42z,ho43z,hb⟩;refine ⟨_,rfl,?_⟩;have HO44z:=am (Kd.Zq ho42z (Zb pB));have HO45z:=am (Kd.Zq ho43z (Zb pB));replace BK2z:=bb BK2z hb;replace BK7z:=bb BK7z hb;replace BK14z:=bb BK14z hb;replace HB:=bS hb;obtain ⟨hcz46z,hcz47z,hcz48z,hfz49z,hfz50z,hfz51z⟩:=cEc BK2z.out;obtain ⟨Ao52z,co53z,eo54z⟩:=Kd.Zm HO44z.out;subst eo54z;obtain ⟨hcz55z,hcz56z,hcz57z,hfz58z,hfz59z,hfz60z⟩:=cEc BK7z.out;obtain ⟨Ao61z,co62z,eo63z⟩:=Kd.Zm HO45z.out;subst eo63z)|(refine gL (some 37) Tryz.func94 #[.slice Ao52z t782.length co53z,.slice Ao61z t787.length co62z] (h:=?_);(with_reducible refine (Zaq.calls k _ _ t782 _ _ t787 t794 _ ?side1 ?side2 ?side3 ?side4 A23.out).mono ?_);(case side1=>refine (Kd.Zd (e:=3) (base:=w.heap.size) (ok:=fun k_=>some k_ ≠ (.slice Ao61z t787.length co62z:Value).ownBlock) (n:=t782.length) (c:=co53z) ?_).2.2;exact (Kd.Za (Kd.Zi (Kd.Zi (Kd.Zn (p:=⟨gb5z,2,none⟩) (Kd.Zn (p:=⟨gb5z,1,none⟩) (Kd.Zn (p:=⟨gb5z,0,none⟩) (Kd.Zn (p:=⟨gb0z,2,none⟩) (Kd.Zn (p:=⟨gb0z,1,none⟩) (Kd.Zn (p:=⟨gb0z,0,none⟩) (Kd.Zu (Kd.Zu HO44z.out BK2z.out (by decide)) BK7z.out (by decide)) (fun _ hk=>hk.1.2) (.bool t781)) (fun _ hk=>hk.1.2) (.slice Ao52z t782.length co53z)) (fun _ hk=>hk.1.2) (.int .i64 t785)) (fun _ hk=>hk.2) (.bool t786)) (fun _ hk=>hk.2) (.slice Ao61z t787.length co62z)) (fun _ hk=>hk.2) (.int .i64 t790)) (fun _ h_=>h_.1)) (fun _ h_=>h_.1)) pl));(case side2=>exact (Kd.Zd HO44z.out).2.1);(case side3=>refine (Kd.Zd (e:=3) (base:=w.heap.size) (ok:=fun k_=>some k_ ≠ (.slice Ao52z t782.length co53z:Value).ownBlock) (n:=t787.length) (c:=co62z) ?_).2.2;exact (Kd.Za (Kd.Zi (Kd.Zi (Kd.Zn (p:=⟨gb5z,2,none⟩) (Kd.Zn (p:=⟨gb5z,1,none⟩) (Kd.Zn (p:=⟨gb5z,0,none⟩) (Kd.Zn (p:=⟨gb0z,2,none⟩) (Kd.Zn (p:=⟨gb0z,1,none⟩) (Kd.Zn (p:=⟨gb0z,0,none⟩) (Kd.Zu (Kd.Zu HO45z.out BK2z.out (by decide)) BK7z.out (by decide)) (fun _ hk=>hk.1.2) (.bool t781)) (fun _ hk=>hk.1.2) (.slice Ao52z t782.length co53z)) (fun _ hk=>hk.1.2) (.int .i64 t785)) (fun _ hk=>hk.2) (.bool t786)) (fun _ hk=>hk.2) (.slice Ao61z t787.length co62z)) (fun _ hk=>hk.2) (.int .i64 t790)) (fun _ h_=>h_.1)) (fun _ h_=>h_.1)) pl));(case side4=>exact (Kd.Zd HO45z.out).2.1);rintro e w' ⟨rfl,⟨nd,rfl⟩⟩;refine ⟨_,rfl,?_⟩)|(refine gL (some 43) Tryz.func134 #[.slice Ao52z t782.length co53z,.slice Ao61z t787.length co62z] (h:=?_);(with_reducible refine (Zaa.calls k _ _ t782 _ _ t787 t795 _ ?side1 ?side2 ?side3 ?side4 A25.out).mono ?_);(case side1=>refine (Kd.Zd (e:=3) (base:=w.heap.size) (ok:=fun k_=>some k_ ≠ (.slice Ao61z t787.length co62z:Value).ownBlock) (n:=t782.length) (c:=co53z) ?_).2.2;exact (Kd.Za (Kd.Zi (Kd.Zi (Kd.Zn (p:=⟨gb5z,2,none⟩) (Kd.Zn (p:=⟨gb5z,1,none⟩) (Kd.Zn (p:=⟨gb5z,0,none⟩) (Kd.Zn (p:=⟨gb0z,2,none⟩) (Kd.Zn (p:=⟨gb0z,1,none⟩) (Kd.Zn (p:=⟨gb0z,0,none⟩) (Kd.Zu (Kd.Zu HO44z.out BK2z.out (by decide)) BK7z.out (by decide)) (fun _ hk=>hk.1.2) (.bool t781)) (fun _ hk=>hk.1.2) (.slice Ao52z t782.length co53z)) (fun _ hk=>hk.1.2) (.int .i64 t785)) (fun _ hk=>hk.2) (.bool t786)) (fun _ hk=>hk.2) (.slice Ao61z t787.length co62z)) (fun _ hk=>hk.2) (.int .i64 t790)) (fun _ h_=>h_.1)) (fun _ h_=>h_.1)) pl));(case side2=>exact (Kd.Zd HO44z.out).2.1);(case side3=>refine (Kd.Zd (e:=3) (base:=w.heap.size) (ok:=fun k_=>some k_ ≠ (.slice Ao52z t782.length co53z:Value).ownBlock) (n:=t787.length) (c:=co62z) ?_).2.2;exact (Kd.Za (Kd.Zi (Kd.Zi (Kd.Zn (p:=⟨gb5z,2,none⟩) (Kd.Zn (p:=⟨gb5z,1,none⟩) (Kd.Zn (p:=⟨gb5z,0,none⟩) (Kd.Zn (p:=⟨gb0z,2,none⟩) (Kd.Zn (p:=⟨gb0z,1,none⟩) (Kd.Zn (p:=⟨gb0z,0,none⟩) (Kd.Zu (Kd.Zu HO45z.out BK2z.out (by decide)) BK7z.out (by decide)) (fun _ hk=>hk.1.2) (.bool t781)) (fun _ hk=>hk.1.2) (.slice Ao52z t782.length co53z)) (fun _ hk=>hk.1.2) (.int .i64 t785)) (fun _ hk=>hk.2) (.bool t786)) (fun _ hk=>hk.2) (.slice Ao61z t787.length co62z)) (fun _ hk=>hk.2) (.int .i64 t790)) (fun _ h_=>h_.1)) (fun _ h_=>h_.1)) pl));(case side4=>exact (Kd.Zd HO45z.out).2.1);rintro e w64z ⟨v65z,rfl,ho42z,hb⟩;refine ⟨_,rfl,?_⟩;have HO66z:=am (Kd.Zq (Kd.Zv (Kd.Zv ho42z (Kd.R_lt (Kd.Za (Kd.Zi (Kd.Zi (Kd.Zn (p:=⟨gb5z,2,none⟩) (Kd.Zn (p:=⟨gb5z,1,none⟩) (Kd.Zn (p:=⟨gb5z,0,none⟩) (Kd.Zn (p:=⟨gb0z,2,none⟩) (Kd.Zn (p:=⟨gb0z,1,none⟩) (Kd.Zn (p:=⟨gb0z,0,none⟩) (Kd.Zu (Kd.Zu HO44z.out BK2z.out (by decide)) BK7z.out (by decide)) (fun _ hk=>hk.1.2) (.bool t781)) (fun _ hk=>hk.1.2) (.slice Ao52z t782.length co53z)) (fun _ hk=>hk.1.2) (.int .i64 t785)) (fun _ hk=>hk.2) (.bool t786)) (fun _ hk=>hk.2) (.slice Ao61z t787.length co62z)) (fun _ hk=>hk.2) (.int .i64 t790)) (fun _ h_=>h_.1)) (fun _ h_=>h_.1)) pl))) (Kd.R_lt (Kd.Za (Kd.Zi (Kd.Zi (Kd.Zn (p:=⟨gb5z,2,none⟩) (Kd.Zn (p:=⟨gb5z,1,none⟩) (Kd.Zn (p:=⟨gb5z,0,none⟩) (Kd.Zn (p:=⟨gb0z,2,none⟩) (Kd.Zn (p:=⟨gb0z,1,none⟩) (Kd.Zn (p:=⟨gb0z,0,none⟩) (Kd.Zu (Kd.Zu HO45z.out BK2z.out (by decide)) BK7z.out (by decide)) (fun _ hk=>hk.1.2) (.bool t781)) (fun _ hk=>hk.1.2) (.slice Ao52z t782.length co53z)) (fun _ hk=>hk.1.2) (.int .i64 t785)) (fun _ hk=>hk.2) (.bool t786)) (fun _ hk=>hk.2) (.slice Ao61z t787.length co62z)) (fun _ hk=>hk.2) (.int .i64 t790)) (fun _ h_=>h_.1)) (fun _ h_=>h_.1)) pl))) (Zb pB));replace HO44z:=am (Kd.Zco (Kd.Za (Kd.Zi (Kd.Zi (Kd.Zn (p:=⟨gb5z,2,none⟩) (Kd.Zn (p:=⟨gb5z,1,none⟩) (Kd.Zn (p:=⟨gb5z,0,none⟩) (Kd.Zn (p:=⟨gb0z,2,none⟩) (Kd.Zn (p:=⟨gb0z,1,none⟩) (Kd.Zn (p:=⟨gb0z,0,none⟩) (Kd.Zu (Kd.Zu HO44z.out BK2z.out (by decide)) BK7z.out (by decide)) (fun _ hk=>hk.1.2) (.bool t781)) (fun _ hk=>hk.1.2) (.slice Ao52z t782.length co53z)) (fun _ hk=>hk.1.2) (.int .i64 t785)) (fun _ hk=>hk.2) (.bool t786)) (fun _ hk=>hk.2) (.slice Ao61z t787.length co62z)) (fun _ hk=>hk.2) (.int .i64 t790)) (fun _ h_=>h_.1)) (fun _ h_=>h_.1)) pl) (Kd.Zat ho42z) hb);replace HO45z:=am (Kd.Zco (Kd.Za (Kd.Zi (Kd.Zi (Kd.Zn (p:=⟨gb5z,2,none⟩) (Kd.Zn (p:=⟨gb5z,1,none⟩) (Kd.Zn (p:=⟨gb5z,0,none⟩) (Kd.Zn (p:=⟨gb0z,2,none⟩) (Kd.Zn (p:=⟨gb0z,1,none⟩) (Kd.Zn (p:=⟨gb0z,0,none⟩) (Kd.Zu (Kd.Zu HO45z.out BK2z.out (by decide)) BK7z.out (by decide)) (fun _ hk=>hk.1.2) (.bool t781)) (fun _ hk=>hk.1.2) (.slice Ao52z t782.length co53z)) (fun _ hk=>hk.1.2) (.int .i64 t785)) (fun _ hk=>hk.2) (.bool t786)) (fun _ hk=>hk.2) (.slice Ao61z t787.length co62z)) (fun _ hk=>hk.2) (.int .i64 t790)) (fun _ h_=>h_.1)) (fun _ h_=>h_.1)) pl) (Kd.Zat ho42z) hb);replace BK2z:=am (Zc (g:=gb0z) (o:=.cells #[.bool t781,.slice Ao52z t782.length co53z,.int .i64 t785] 30 (0,0)) (by refine bp ?_;refine Zah ?_ NB10z.out _;refine bp ?_;refine Zah ?_ NB10z.out _;refine bp ?_;refine Zah ?_ NB10z.out _;exact p3 BK2z) hb);replace BK7z:=am (Zc (g:=gb5z) (o:=.cells #[.bool t786,.slice Ao61z t787.length co62z,.int .i64 t790] 30 (0,0)) (by refine bp ?_;refine Za6 (cs:=#[.bool t786,.slice Ao61z t787.length co62z,.int .i64 a1_2]) ?_ 2 _ rfl;refine bp ?_;refine Za6 (cs:=#[.bool t786,.slice A1_1 l1_1.length c1_1,.int .i64 a1_2]) ?_ 1 _ rfl;refine bp ?_;refine Za6 (cs:=#[.bool a1_0,.slice A1_1 l1_1.length c1_1,.int .i64 a1_2]) ?_ 0 _ rfl;refine bp ?_;refine Zah ?_ NB11z.out _;refine bp ?_;refine Zah ?_ NB11z.out _;refine bp ?_;refine Zah ?_ NB11z.out _;exact bp BK7z.out) hb);replace BK14z:=am (Zc (g:=gb12z) (o:=.cells #[.bool false,.slice none 0 0,.int .i64 0] 30 (0,0)) (by refine bp ?_;refine Zah ?_ NB20z.out _;refine bp ?_;refine Zah ?_ NB20z.out _;refine bp ?_;refine Zah ?_ NB20z.out _;refine bp ?_;refine Zah ?_ NB18z.out _;refine bp ?_;refine Zah ?_ NB18z.out _;refine bp ?_;refine Zah ?_ NB18z.out _;exact bp BK14z.out) hb);replace HB:=bS hb;obtain ⟨Ao67z,co68z,eo69z⟩:=Kd.Zm HO66z.out;subst eo69z;obtain ⟨hcz70z,hcz71z,hcz72z,hfz73z,hfz74z,hfz75z⟩:=cEc BK2z.out;obtain ⟨hcz76z,hcz77z,hcz78z,hfz79z,hfz80z,hfz81z⟩:=cEc BK14z.out)|(refine gL (some 30) Tryz.func85 #[.slice Ao52z t782.length co53z,.slice Ao61z t787.length co62z] (h:=?_);(with_reducible refine (Zt.calls k _ _ t782 _ _ t787 t791 _ ?side1 ?side2 ?side3 ?side4 A5.out).mono ?_);(case side1=>refine (Kd.Zd (e:=3) (base:=w.heap.size) (ok:=fun k_=>some k_ ≠ (.slice Ao61z t787.length co62z:Value).ownBlock) (n:=t782.length) (c:=co53z) ?_).2.2;exact (Kd.Za (Kd.Zi (Kd.Zi (Kd.Zn (p:=⟨gb5z,2,none⟩) (Kd.Zn (p:=⟨gb5z,1,none⟩) (Kd.Zn (p:=⟨gb5z,0,none⟩) (Kd.Zn (p:=⟨gb0z,2,none⟩) (Kd.Zn (p:=⟨gb0z,1,none⟩) (Kd.Zn (p:=⟨gb0z,0,none⟩) (Kd.Zu (Kd.Zu HO44z.out BK2z.out (by decide)) BK7z.out (by decide)) (fun _ hk=>hk.1.2) (.bool t781)) (fun _ hk=>hk.1.2) (.slice Ao52z t782.length co53z)) (fun _ hk=>hk.1.2) (.int .i64 t785)) (fun _ hk=>hk.2) (.bool t786)) (fun _ hk=>hk.2) (.slice Ao61z t787.length co62z)) (fun _ hk=>hk.2) (.int .i64 t790)) (fun _ h_=>h_.1)) (fun _ h_=>h_.1)) pl));(case side2=>exact (Kd.Zd HO44z.out).2.1);(case side3=>refine (Kd.Zd (e:=3) (base:=w.heap.size) (ok:=fun k_=>some k_ ≠ (.slice Ao52z t782.length co53z:Value).ownBlock) (n:=t787.length) (c:=co62z) ?_).2.2;exact (Kd.Za (Kd.Zi (Kd.Zi (Kd.Zn (p:=⟨gb5z,2,none⟩) (Kd.Zn (p:=⟨gb5z,1,none⟩) (Kd.Zn (p:=⟨gb5z,0,none⟩) (Kd.Zn (p:=⟨gb0z,2,none⟩) (Kd.Zn (p:=⟨gb0z,1,none⟩) (Kd.Zn (p:=⟨gb0z,0,none⟩) (Kd.Zu (Kd.Zu HO45z.out BK2z.out (by decide)) BK7z.out (by decide)) (fun _ hk=>hk.1.2) (.bool t781)) (fun _ hk=>hk.1.2) (.slice Ao52z t782.length co53z)) (fun _ hk=>hk.1.2) (.int .i64 t785)) (fun _ hk=>hk.2) (.bool t786)) (fun _ hk=>hk.2) (.slice Ao61z t787.length co62z)) (fun _ hk=>hk.2) (.int .i64 t790)) (fun _ h_=>h_.1)) (fun _ h_=>h_.1)) pl));(case side4=>exact (Kd.Zd HO45z.out).2.1);rintro e w64z ⟨v65z,rfl,ho42z,hb⟩;refine ⟨_,rfl,?_⟩;have HO66z:=am (Kd.Zq (Kd.Zv (Kd.Zv ho42z (Kd.R_lt (Kd.Za (Kd.Zi (Kd.Zi (Kd.Zn (p:=⟨gb5z,2,none⟩) (Kd.Zn (p:=⟨gb5z,1,none⟩) (Kd.Zn (p:=⟨gb5z,0,none⟩) (Kd.Zn (p:=⟨gb0z,2,none⟩) (Kd.Zn (p:=⟨gb0z,1,none⟩) (Kd.Zn (p:=⟨gb0z,0,none⟩) (Kd.Zu (Kd.Zu HO44z.out BK2z.out (by decide)) BK7z.out (by decide)) (fun _ hk=>hk.1.2) (.bool t781)) (fun _ hk=>hk.1.2) (.slice Ao52z t782.length co53z)) (fun _ hk=>hk.1.2) (.int .i64 t785)) (fun _ hk=>hk.2) (.bool t786)) (fun _ hk=>hk.2) (.slice Ao61z t787.length co62z)) (fun _ hk=>hk.2) (.int .i64 t790)) (fun _ h_=>h_.1)) (fun _ h_=>h_.1)) pl))) (Kd.R_lt (Kd.Za (Kd.Zi (Kd.Zi (Kd.Zn (p:=⟨gb5z,2,none⟩) (Kd.Zn (p:=⟨gb5z,1,none⟩) (Kd.Zn (p:=⟨gb5z,0,none⟩) (Kd.Zn (p:=⟨gb0z,2,none⟩) (Kd.Zn (p:=⟨gb0z,1,none⟩) (Kd.Zn (p:=⟨gb0z,0,none⟩) (Kd.Zu (Kd.Zu HO45z.out BK2z.out (by decide)) BK7z.out (by decide)) (fun _ hk=>hk.1.2) (.bool t781)) (fun _ hk=>hk.1.2) (.slice Ao52z t782.length co53z)) (fun _ hk=>hk.1.2) (.int .i64 t785)) (fun _ hk=>hk.2) (.bool t786)) (fun _ hk=>hk.2) (.slice Ao61z t787.length co62z)) (fun _ hk=>hk.2) (.int .i64 t790)) (fun _ h_=>h_.1)) (fun _ h_=>h_.1)) pl))) (Zb pB));replace HO44z:=am (Kd.Zco (Kd.Za (Kd.Zi (Kd.Zi (Kd.Zn (p:=⟨gb5z,2,none⟩) (Kd.Zn (p:=⟨gb5z,1,none⟩) (Kd.Zn (p:=⟨gb5z,0,none⟩) (Kd.Zn (p:=⟨gb0z,2,none⟩) (Kd.Zn (p:=⟨gb0z,1,none⟩) (Kd.Zn (p:=⟨gb0z,0,none⟩) (Kd.Zu (Kd.Zu HO44z.out BK2z.out (by decide)) BK7z.out (by decide)) (fun _ hk=>hk.1.2) (.bool t781)) (fun _ hk=>hk.1.2) (.slice Ao52z t782.length co53z)) (fun _ hk=>hk.1.2) (.int .i64 t785)) (fun _ hk=>hk.2) (.bool t786)) (fun _ hk=>hk.2) (.slice Ao61z t787.length co62z)) (fun _ hk=>hk.2) (.int .i64 t790)) (fun _ h_=>h_.1)) (fun _ h_=>h_.1)) pl) (Kd.Zat ho42z) hb);replace HO45z:=am (Kd.Zco (Kd.Za (Kd.Zi (Kd.Zi (Kd.Zn (p:=⟨gb5z,2,none⟩) (Kd.Zn (p:=⟨gb5z,1,none⟩) (Kd.Zn (p:=⟨gb5z,0,none⟩) (Kd.Zn (p:=⟨gb0z,2,none⟩) (Kd.Zn (p:=⟨gb0z,1,none⟩) (Kd.Zn (p:=⟨gb0z,0,none⟩) (Kd.Zu (Kd.Zu HO45z.out BK2z.out (by decide)) BK7z.out (by decide)) (fun _ hk=>hk.1.2) (.bool t781)) (fun _ hk=>hk.1.2) (.slice Ao52z t782.length co53z)) (fun _ hk=>hk.1.2) (.int .i64 t785)) (fun _ hk=>hk.2) (.bool t786)) (fun _ hk=>hk.2) (.slice Ao61z t787.length co62z)) (fun _ hk=>hk.2) (.int .i64 t790)) (fun _ h_=>h_.1)) (fun _ h_=>h_.1)) pl) (Kd.Zat ho42z) hb);replace BK2z:=am (Zc (g:=gb0z) (o:=.cells #[.bool t781,.slice Ao52z t782.length co53z,.int .i64 t785] 30 (0,0)) (by refine bp ?_;refine Zah ?_ NB10z.out _;refine bp ?_;refine Zah ?_ NB10z.out _;refine bp ?_;refine Zah ?_ NB10z.out _;exact p3 BK2z) hb);replace BK7z:=am (Zc (g:=gb5z) (o:=.cells #[.bool t786,.slice Ao61z t787.length co62z,.int .i64 t790] 30 (0,0)) (by refine bp ?_;refine Za6 (cs:=#[.bool t786,.slice Ao61z t787.length co62z,.int .i64 a1_2]) ?_ 2 _ rfl;refine bp ?_;refine Za6 (cs:=#[.bool t786,.slice A1_1 l1_1.length c1_1,.int .i64 a1_2]) ?_ 1 _ rfl;refine bp ?_;refine Za6 (cs:=#[.bool a1_0,.slice A1_1 l1_1.length c1_1,.int .i64 a1_2]) ?_ 0 _ rfl;refine bp ?_;refine Zah ?_ NB11z.out _;refine bp ?_;refine Zah ?_ NB11z.out _;refine bp ?_;refine Zah ?_ NB11z.out _;exact bp BK7z.out) hb);replace BK14z:=am (Zc (g:=gb12z) (o:=.cells #[.bool false,.slice none 0 0,.int .i64 0] 30 (0,0)) (by refine bp ?_;refine Zah ?_ NB20z.out _;refine bp ?_;refine Zah ?_ NB20z.out _;refine bp ?_;refine Zah ?_ NB20z.out _;refine bp ?_;refine Zah ?_ NB18z.out _;refine bp ?_;refine Zah ?_ NB18z.out _;refine bp ?_;refine Zah ?_ NB18z.out _;exact bp BK14z.out) hb);replace HB:=bS hb;obtain ⟨Ao67z,co68z,eo69z⟩:=Kd.Zm HO66z.out;subst eo69z;obtain ⟨hcz70z,hcz71z,hcz72z,hfz73z,hfz74z,hfz75z⟩:=cEc BK2z.out;obtain ⟨hcz76z,hcz77z,hcz78z,hfz79z,hfz80z,hfz81z⟩:=cEc BK14z.out))
 first
  | have q_:=A25
    refine bodyPost_ret (results_cell_row rfl _ _ gb12z 30 #[.bool t781,.slice Ao67z t795.length co68z,.int .i64 t785] (0,0) _ rfl (by refine bp ?_;refine Za6 (cs:=#[.bool t781,.slice Ao67z t795.length co68z,.int .i64 0]) ?_ 2 _ rfl;refine bp ?_;refine Za6 (cs:=#[.bool t781,.slice none 0 0,.int .i64 0]) ?_ 1 _ rfl;refine bp ?_;refine Za6 (cs:=#[.bool false,.slice none 0 0,.int .i64 0]) ?_ 0 _ rfl;refine bp ?_;refine Zah ?_ NB18z.out _;exact bp BK14z.out) Tryz.underlying30 rfl (by kernel_rfl)) rfl ?_
    exact ⟨_,pE,by refine rp ?_;exact Kd.Zi (Kd.Zn (p:=⟨gb12z,2,none⟩) (Kd.Zn (p:=⟨gb12z,1,none⟩) (Kd.Zn (p:=⟨gb12z,0,none⟩) (Kd.Zn (p:=⟨gb0z,1,none⟩) (Kd.Zu (Kd.Zu HO66z.out BK2z.out (by decide)) BK14z.out (by decide)) (fun _ hk=>hk.1.2) (.slice Ao67z t795.length co68z)) (fun _ hk=>hk.2) (.bool t781)) (fun _ hk=>hk.2) (.slice Ao67z t795.length co68z)) (fun _ hk=>hk.2) (.int .i64 t785)) (fun _ hk=>trivial),pB⟩
  | have q_:=A43
    have n0_:Aside0 (Kd.R (Kd.int .i64) 3 ((((((w39z.setCell ⟨gb0z,0,none⟩ (.bool t781)).setCell ⟨gb0z,1,none⟩ (.slice Ao52z t782.length co53z)).setCell ⟨gb0z,2,none⟩ (.int .i64 t785)).setCell ⟨gb5z,0,none⟩ (.bool t786)).setCell ⟨gb5z,1,none⟩ (.slice Ao61z t787.length co62z)).setCell ⟨gb5z,2,none⟩ (.int .i64 t790)) w.heap.size (fun k_=>some k_ ≠ (.slice Ao61z t787.length co62z:Value).ownBlock) (.slice Ao52z t782.length co53z) t782):=⟨by refine rp ?_;exact Kd.Zi (Kd.Zn (p:=⟨gb5z,2,none⟩) (Kd.Zn (p:=⟨gb5z,1,none⟩) (Kd.Zn (p:=⟨gb5z,0,none⟩) (Kd.Zn (p:=⟨gb0z,2,none⟩) (Kd.Zn (p:=⟨gb0z,1,none⟩) (Kd.Zn (p:=⟨gb0z,0,none⟩) (Kd.Zu (Kd.Zu HO44z.out BK2z.out (by decide)) BK7z.out (by decide)) (fun _ hk=>hk.1.2) (.bool t781)) (fun _ hk=>hk.1.2) (.slice Ao52z t782.length co53z)) (fun _ hk=>hk.1.2) (.int .i64 t785)) (fun _ hk=>hk.2) (.bool t786)) (fun _ hk=>hk.2) (.slice Ao61z t787.length co62z)) (fun _ hk=>hk.2) (.int .i64 t790)) (fun _ hk=>hk.1.1)⟩
    have n1_:Aside0 (Kd.R (Kd.int .i64) 3 ((((((w39z.setCell ⟨gb0z,0,none⟩ (.bool t781)).setCell ⟨gb0z,1,none⟩ (.slice Ao52z t782.length co53z)).setCell ⟨gb0z,2,none⟩ (.int .i64 t785)).setCell ⟨gb5z,0,none⟩ (.bool t786)).setCell ⟨gb5z,1,none⟩ (.slice Ao61z t787.length co62z)).setCell ⟨gb5z,2,none⟩ (.int .i64 t790)) w.heap.size (fun k_=>some k_ ≠ (.slice Ao52z t782.length co53z:Value).ownBlock) (.slice Ao61z t787.length co62z) t787):=⟨by refine rp ?_;exact Kd.Zi (Kd.Zn (p:=⟨gb5z,2,none⟩) (Kd.Zn (p:=⟨gb5z,1,none⟩) (Kd.Zn (p:=⟨gb5z,0,none⟩) (Kd.Zn (p:=⟨gb0z,2,none⟩) (Kd.Zn (p:=⟨gb0z,1,none⟩) (Kd.Zn (p:=⟨gb0z,0,none⟩) (Kd.Zu (Kd.Zu HO45z.out BK2z.out (by decide)) BK7z.out (by decide)) (fun _ hk=>hk.1.2) (.bool t781)) (fun _ hk=>hk.1.2) (.slice Ao52z t782.length co53z)) (fun _ hk=>hk.1.2) (.int .i64 t785)) (fun _ hk=>hk.2) (.bool t786)) (fun _ hk=>hk.2) (.slice Ao61z t787.length co62z)) (fun _ hk=>hk.2) (.int .i64 t790)) (fun _ hk=>hk.1.1)⟩
    have n2_:Aside0 (((((((w39z.setCell ⟨gb0z,0,none⟩ (.bool t781)).setCell ⟨gb0z,1,none⟩ (.slice Ao52z t782.length co53z)).setCell ⟨gb0z,2,none⟩ (.int .i64 t785)).setCell ⟨gb5z,0,none⟩ (.bool t786)).setCell ⟨gb5z,1,none⟩ (.slice Ao61z t787.length co62z)).setCell ⟨gb5z,2,none⟩ (.int .i64 t790)).heap[gb0z]? = some (.cells #[.bool t781,.slice Ao52z t782.length co53z,.int .i64 t785] 30 (0,0))):=⟨by refine bp ?_;refine Zah ?_ NB10z.out _;refine bp ?_;refine Zah ?_ NB10z.out _;refine bp ?_;refine Zah ?_ NB10z.out _;exact p3 BK2z⟩
    have n3_:Aside0 (((((((w39z.setCell ⟨gb0z,0,none⟩ (.bool t781)).setCell ⟨gb0z,1,none⟩ (.slice Ao52z t782.length co53z)).setCell ⟨gb0z,2,none⟩ (.int .i64 t785)).setCell ⟨gb5z,0,none⟩ (.bool t786)).setCell ⟨gb5z,1,none⟩ (.slice Ao61z t787.length co62z)).setCell ⟨gb5z,2,none⟩ (.int .i64 t790)).heap[gb5z]? = some (.cells #[.bool t786,.slice Ao61z t787.length co62z,.int .i64 t790] 30 (0,0))):=⟨by refine bp ?_;refine Za6 (cs:=#[.bool t786,.slice Ao61z t787.length co62z,.int .i64 a1_2]) ?_ 2 _ rfl;refine bp ?_;refine Za6 (cs:=#[.bool t786,.slice A1_1 l1_1.length c1_1,.int .i64 a1_2]) ?_ 1 _ rfl;refine bp ?_;refine Za6 (cs:=#[.bool a1_0,.slice A1_1 l1_1.length c1_1,.int .i64 a1_2]) ?_ 0 _ rfl;refine bp ?_;refine Zah ?_ NB11z.out _;refine bp ?_;refine Zah ?_ NB11z.out _;refine bp ?_;refine Zah ?_ NB11z.out _;exact bp BK7z.out⟩
    have n4_:Aside0 (((((((w39z.setCell ⟨gb0z,0,none⟩ (.bool t781)).setCell ⟨gb0z,1,none⟩ (.slice Ao52z t782.length co53z)).setCell ⟨gb0z,2,none⟩ (.int .i64 t785)).setCell ⟨gb5z,0,none⟩ (.bool t786)).setCell ⟨gb5z,1,none⟩ (.slice Ao61z t787.length co62z)).setCell ⟨gb5z,2,none⟩ (.int .i64 t790)).heap[gb12z]? = some (.cells #[.bool false,.slice none 0 0,.int .i64 0] 30 (0,0))):=⟨by refine bp ?_;refine Zah ?_ NB20z.out _;refine bp ?_;refine Zah ?_ NB20z.out _;refine bp ?_;refine Zah ?_ NB20z.out _;refine bp ?_;refine Zah ?_ NB18z.out _;refine bp ?_;refine Zah ?_ NB18z.out _;refine bp ?_;refine Zah ?_ NB18z.out _;exact bp BK14z.out⟩
    have n5_:Aside0 (Below w.heap.size w ((((((w39z.setCell ⟨gb0z,0,none⟩ (.bool t781)).setCell ⟨gb0z,1,none⟩ (.slice Ao52z t782.length co53z)).setCell ⟨gb0z,2,none⟩ (.int .i64 t785)).setCell ⟨gb5z,0,none⟩ (.bool t786)).setCell ⟨gb5z,1,none⟩ (.slice Ao61z t787.length co62z)).setCell ⟨gb5z,2,none⟩ (.int .i64 t790))):=⟨pB⟩
    generalize ((((((w39z.setCell ⟨gb0z,0,none⟩ (.bool t781)).setCell ⟨gb0z,1,none⟩ (.slice Ao52z t782.length co53z)).setCell ⟨gb0z,2,none⟩ (.int .i64 t785)).setCell ⟨gb5z,0,none⟩ (.bool t786)).setCell ⟨gb5z,1,none⟩ (.slice Ao61z t787.length co62z)).setCell ⟨gb5z,2,none⟩ (.int .i64 t790))=w64z at n0_ n1_ n2_ n3_ n4_ n5_ ⊢
    have HO44z:=n0_
    have HO45z:=n1_
    have BK2z:=n2_
    have BK7z:=n3_
    have BK14z:=n4_
    have HB:=n5_
    clear n0_ n1_ n2_ n3_ n4_ n5_
    (try (rw [Zgm w64z];generalize hq_:World.drewN w64z _=w64z;replace HO44z:Aside0 (Kd.R (Kd.int .i64) 3 w64z w.heap.size (fun k_=>some k_ ≠ (.slice Ao61z t787.length co62z:Value).ownBlock) (.slice Ao52z t782.length co53z) t782):=⟨by rw [<- hq_];exact (Kd.Za HO44z.out pl)⟩;replace HO45z:Aside0 (Kd.R (Kd.int .i64) 3 w64z w.heap.size (fun k_=>some k_ ≠ (.slice Ao52z t782.length co53z:Value).ownBlock) (.slice Ao61z t787.length co62z) t787):=⟨by rw [<- hq_];exact (Kd.Za HO45z.out pl)⟩;replace BK2z:Aside0 (w64z.heap[gb0z]? = some (.cells #[.bool t781,.slice Ao52z t782.length co53z,.int .i64 t785] 30 (0,0))):=⟨by rw [<- hq_];exact (Zc BK2z.out pl)⟩;replace BK7z:Aside0 (w64z.heap[gb5z]? = some (.cells #[.bool t786,.slice Ao61z t787.length co62z,.int .i64 t790] 30 (0,0))):=⟨by rw [<- hq_];exact (Zc BK7z.out pl)⟩;replace BK14z:Aside0 (w64z.heap[gb12z]? = some (.cells #[.bool false,.slice none 0 0,.int .i64 0] 30 (0,0))):=⟨by rw [<- hq_];exact (Zc BK14z.out pl)⟩;replace HB:Aside0 (Below w.heap.size w w64z):=⟨by rw [<- hq_];exact pB⟩;clear hq_))
    replace HO44z:=am (Kd.Zei HO44z.out)
    replace HO45z:=am (Kd.Zei HO45z.out)
    replace BK2z:=am (Zba BK2z.out)
    replace BK7z:=am (Zba BK7z.out)
    replace BK14z:=am (Zba BK14z.out)
    replace HB:=am (Zaz HB.out)
    refine start_ (n:=11) (S:=fun w'=>w'.cell? ⟨gb5z,0,none⟩=some (.bool t786)/\w'.cell? ⟨gb5z,1,none⟩=some (.slice Ao61z t787.length co62z)/\w'.cell? ⟨gb5z,2,none⟩=some (.int .i64 t790)/\w'.cell? ⟨gb0z,0,none⟩=some (.bool t781)/\w'.cell? ⟨gb0z,1,none⟩=some (.slice Ao52z t782.length co53z)/\w'.cell? ⟨gb0z,2,none⟩=some (.int .i64 t785)) (ds:=[8,10]) #[false,false,false,false,false,false,false,false,false,false,false] (by kernel_rfl) rfl rfl ⟨k0 BK7z 0,k0 BK7z 1,k0 BK7z 2,k0 BK2z 0,k0 BK2z 1,k0 BK2z 2⟩ (fun hHeld=>?_);refine Zcn Zaf.tab2 Zaf.bits2 (fun HT_ HW_=>?_)
    generalize w64z.drew=w65z at HO44z HO45z BK2z BK7z BK14z HB hHeld ⊢
    refine pu 0 (some 11) #[true,false,false,false,false,false,false,false,false,false,false] (h:=?_)
    refine pu 2 (some 13) #[true,false,true,false,false,false,false,false,false,false,false] (h:=?_)
    refine pu 4 (some 15) #[true,false,true,false,true,false,false,false,false,false,false] (h:=?_)
    refine take_ (i:=1) (N:=some 12) (v:=?_) (a':=?_) #[true,true,true,false,true,false,false,false,false,false,false] rfl rfl (Zbh HT_.out HW_.out (by kernel_rfl)) (fun _ _ _ h=>h) (Or.inl ⟨by rfl,?_⟩) hHeld ?_ ?_
    rotate_left
    ·rintro w' ⟨s66z,s67z,s68z,s69z,s70z,s71z⟩
     go_simp
     with_reducible rfl
    rotate_left
    ·exact pP
    refine take_ (i:=3) (N:=some 14) (v:=?_) (a':=?_) #[true,true,true,true,true,false,false,false,false,false,false] rfl rfl (Zbh HT_.out HW_.out (by kernel_rfl)) (fun _ _ _ h=>h) (Or.inl ⟨by rfl,?_⟩) hHeld ?_ ?_
    rotate_left
    ·rintro w' ⟨s66z,s67z,s68z,s69z,s70z,s71z⟩
     go_simp
     with_reducible rfl
    rotate_left
    ·exact pP
    refine take_ (i:=5) (N:=some 16) (v:=?_) (a':=?_) #[true,true,true,true,true,true,false,false,false,false,false] rfl rfl (Zbh HT_.out HW_.out (by kernel_rfl)) (fun _ _ _ h=>h) (Or.inl ⟨by rfl,?_⟩) hHeld ?_ ?_
    rotate_left
    ·rintro w' ⟨s66z,s67z,s68z,s69z,s70z,s71z⟩
     go_simp
     with_reducible rfl
    rotate_left
    ·exact pP
    refine pu 7 (some 18) #[true,true,true,true,true,true,false,true,false,false,false] (h:=?_)
    refine one_ (i:=6) (N:=some 17) #[true,true,true,true,true,true,true,true,false,false,false] rfl rfl (Zbx HT_.out (by kernel_rfl)) (by decide) (fun K hK=>?_)
    refine goes_ Tryz.func134 (by kernel_rfl) rfl #[.slice Ao61z t787.length co62z,.slice Ao52z t782.length co53z] (by rfl) rfl rfl pA ?_
    with_reducible refine (Zaa.calls k _ _ t787 _ _ t782 t798 _ ?side1 ?side2 ?side3 ?side4 A43.out).mono ?_
    (case side1=>exact Kd.Zh (Kd.Zd HO45z.out).2.2 pl)
    (case side2=>exact (Kd.Zd HO45z.out).2.1)
    (case side3=>exact Kd.Zh (Kd.Zd HO44z.out).2.2 pl)
    (case side4=>exact (Kd.Zd HO44z.out).2.1)
    rintro e w72z ⟨v73z,rfl,ho42z,hb⟩
    refine ⟨_,rfl,?_⟩
    have HO74z:=am (Kd.Zq (Kd.Zv (Kd.Zv ho42z (Kd.R_lt (Kd.Za HO44z.out pl))) (Kd.R_lt (Kd.Za HO45z.out pl))) (Zb pB))
    replace HO44z:=reR HO44z ho42z hb
    replace HO45z:=reR HO45z ho42z hb
    replace BK2z:=bb BK2z hb
    replace BK7z:=bb BK7z hb
    replace BK14z:=bb BK14z hb
    replace HB:=bS hb
    obtain ⟨Ao75z,co76z,eo77z⟩:=Kd.Zm HO74z.out
    (first|subst eo77z|(injection eo77z with f1_ f2_ f3_;have f4_:=f1_.symm;have f5_:=f3_.symm;clear f1_ f2_ f3_;subst f4_;subst f5_))
    refine hK.out _ _ ⟨k0 BK7z 0,k0 BK7z 1,k0 BK7z 2,k0 BK2z 0,k0 BK2z 1,k0 BK2z 2⟩ (fun hHeld=>?_)
    clear hK K
    refine norm_ (a':=?_) ?_ ?_
    rotate_left
    ·show Act.put _ (some 17) _=_
     exact pP
    refine last_ (i:=8) (N:=none) #[true,true,true,true,true,true,true,true,true,false,false] rfl rfl (Zbx HT_.out (by kernel_rfl)) (by decide) (fun K hK=>?_)
    have hs78z:w72z.cell? ⟨gb0z,0,none⟩=some (.bool t781):=k0 BK2z 0
    have hfs79z:=Zav BK2z.out 0
    have hns80z:=NB11z.out
    have hns81z:=NB18z.out
    have hms82z:=NB10z.out
    have hms83z:=NB17z.out
    refine skip_ (w1:=?_) (by rfl) rfl ?_ ?_
    rotate_left
    ·go_simp
     rfl
    refine hK.out _ _ ?_
    clear hK K
    refine pu 9 (some 19) #[true,true,true,true,true,true,true,true,true,true,false] (h:=?_)
    refine last_ (i:=10) (N:=none) #[true,true,true,true,true,true,true,true,true,true,true] rfl rfl (Zbx HT_.out (by kernel_rfl)) (by decide) (fun K hK=>?_)
    have hs84z:w72z.cell? ⟨gb0z,1,none⟩=some (.slice Ao52z t782.length co53z):=k0 BK2z 1
    have hfs85z:=Zav BK2z.out 1
    have hns86z:=NB11z.out
    have hns87z:=NB18z.out
    have hms88z:=NB10z.out
    have hms89z:=NB17z.out
    refine skip_ (w1:=?_) (by rfl) rfl ?_ ?_
    rotate_left
    ·go_simp
     rfl
    refine hK.out _ _ ?_
    clear hK K
    refine done_ (Zdl HT_.out (by kernel_rfl)) ?_
    obtain ⟨hcz90z,hcz91z,hcz92z,hfz93z,hfz94z,hfz95z⟩:=cEc BK2z.out
    obtain ⟨hcz96z,hcz97z,hcz98z,hfz99z,hfz100z,hfz101z⟩:=cEc BK14z.out
    try go_wp2
    refine bodyPost_ret (results_cell_row rfl _ _ gb12z 30 #[.bool t786,.slice Ao75z t798.length co76z,.int .i64 t785] (0,0) _ rfl (by refine bp ?_;refine Za6 (cs:=#[.bool t786,.slice Ao75z t798.length co76z,.int .i64 0]) ?_ 2 _ rfl;refine bp ?_;refine Za6 (cs:=#[.bool t786,.slice none 0 0,.int .i64 0]) ?_ 1 _ rfl;refine bp ?_;refine Za6 (cs:=#[.bool false,.slice none 0 0,.int .i64 0]) ?_ 0 _ rfl;refine bp ?_;refine Zah ?_ NB18z.out _;refine bp ?_;refine Zah ?_ NB18z.out _;exact bp BK14z.out) Tryz.underlying30 rfl (by kernel_rfl)) rfl ?_
    exact ⟨_,pE,by refine rp ?_;exact Kd.Zi (Kd.Zn (p:=⟨gb12z,2,none⟩) (Kd.Zn (p:=⟨gb12z,1,none⟩) (Kd.Zn (p:=⟨gb12z,0,none⟩) (Kd.Zn (p:=⟨gb0z,1,none⟩) (Kd.Zn (p:=⟨gb0z,0,none⟩) (Kd.Zu (Kd.Zu HO74z.out BK2z.out (by decide)) BK14z.out (by decide)) (fun _ hk=>hk.1.2) (.bool t786)) (fun _ hk=>hk.1.2) (.slice Ao75z t798.length co76z)) (fun _ hk=>hk.2) (.bool t786)) (fun _ hk=>hk.2) (.slice Ao75z t798.length co76z)) (fun _ hk=>hk.2) (.int .i64 t785)) (fun _ hk=>trivial),pB⟩
  | refine bodyPost_ret (results_cell_row rfl _ _ gb12z 30 #[.bool t781,.slice Ao67z t791.length co68z,.int .i64 t785] (0,0) _ rfl (by refine bp ?_;refine Za6 (cs:=#[.bool t781,.slice Ao67z t791.length co68z,.int .i64 0]) ?_ 2 _ rfl;refine bp ?_;refine Za6 (cs:=#[.bool t781,.slice none 0 0,.int .i64 0]) ?_ 1 _ rfl;refine bp ?_;refine Za6 (cs:=#[.bool false,.slice none 0 0,.int .i64 0]) ?_ 0 _ rfl;refine bp ?_;refine Zah ?_ NB18z.out _;exact bp BK14z.out) Tryz.underlying30 rfl (by kernel_rfl)) rfl ?_
    exact ⟨_,pE,by refine rp ?_;exact Kd.Zi (Kd.Zn (p:=⟨gb12z,2,none⟩) (Kd.Zn (p:=⟨gb12z,1,none⟩) (Kd.Zn (p:=⟨gb12z,0,none⟩) (Kd.Zn (p:=⟨gb0z,1,none⟩) (Kd.Zu (Kd.Zu HO66z.out BK2z.out (by decide)) BK14z.out (by decide)) (fun _ hk=>hk.1.2) (.slice Ao67z t791.length co68z)) (fun _ hk=>hk.2) (.bool t781)) (fun _ hk=>hk.2) (.slice Ao67z t791.length co68z)) (fun _ hk=>hk.2) (.int .i64 t785)) (fun _ hk=>trivial),pB⟩):P:=h
theorem Zaf.calls (k:Nat) (a0_0:Bool) (A0_1:Option Addr) (c0_1:Nat) (l0_1:List Int) (a0_2:Int) (a1_0:Bool) (A1_1:Option Addr) (c1_1:Nat) (l1_1:List Int) (a1_2:Int) (r1:Bool) (r2:List Int) (r3:Int) (w:World) (hr0_1:Kd.C (Kd.int .i64) w A0_1 l0_1.length l0_1) (hc0_1:l0_1.length<=c0_1) (hr1_1:Kd.C (Kd.int .i64) w A1_1 l1_1.length l1_1) (hc1_1:l1_1.length<=c1_1) (h:Zaf.f k a0_0 l0_1 a0_2 a1_0 l1_1 a1_2=some (r1,r2,r3)) :
  Calls Tryz.prog 77 #[.agg #[.bool a0_0,.slice A0_1 l0_1.length c0_1,.int .i64 a0_2],.agg #[.bool a1_0,.slice A1_1 l1_1.length c1_1,.int .i64 a1_2]] w fun e w' => ∃ v1_:Value,e=.returned (.agg #[.bool r1,v1_,.int .i64 r3])/\Kd.R (Kd.int .i64) 3 w' w.heap.size (fun _=>True) v1_ r2/\Below w.heap.size w w':=by
 have hu30:=Tryz.underlying30
 have HR0_1:=am hr0_1
 have HC0_1:=am hc0_1
 clear hr0_1 hc0_1
 have HR1_1:=am hr1_1
 have HC1_1:=am hc1_1
 clear hr1_1 hc1_1
 have HB:=am (Below.refl w.heap.size w)
 have H:((Zcf.f a0_0 l0_1 a0_2 a1_0 l1_1 a1_2).bind fun bt781=>(if (bt781.1 == bt781.2.2.2.1)=true then ((Zt.f k bt781.2.1 bt781.2.2.2.2.1).bind fun t791=>(some (bt781.1,t791,bt781.2.2.1))) else ((Zaq.f k bt781.2.1 bt781.2.2.2.2.1).bind fun t794=>(if t794 >= 0 then ((Zaa.f k bt781.2.1 bt781.2.2.2.2.1).bind fun t795=>(some (bt781.1,t795,bt781.2.2.1))) else ((Zaa.f k bt781.2.2.2.2.1 bt781.2.1).bind fun t798=>(some (bt781.2.2.2.1,t798,bt781.2.2.1)))))))=some (r1,r2,r3):=h
 clear h
 obtain ⟨⟨t781,t782,t785,t786,t787,t790⟩,A3,H⟩:=ob H;(try dsimp only at H)
 by_cases c4:(t781 == t786)=true
 ·rw [if_pos c4] at H
  have c4b0:(t781 == t786)=true:=c4
  (try (have c4b1:decide (t781=t786)=true:=by simpa using c4))
  (try (have c4b2:(t781 == t786)=true:=by simpa using c4))
  clear c4
  obtain ⟨t791,A5,H⟩:=ob H
  simp only [Option.some.injEq,Prod.mk.injEq] at H
  obtain ⟨rfl,rfl,rfl⟩:=H
  exact Zaf.leaf
 ·rw [if_neg c4] at H
  have c4b0:(t781 == t786)=false:=by simpa using c4
  (try (have c4b1:decide (t781=t786)=false:=by simpa using c4))
  (try (have c4b2:(t781 == t786)=false:=by simpa using c4))
  (try (have c4b3:¬ (t781=t786):=by simpa using c4))
  clear c4
  obtain ⟨t794,A23,H⟩:=ob H
  by_cases c24:t794 >= 0
  ·rw [if_pos c24] at H
   have c24b0:decide (0<=t794)=true:=decide_eq_true c24
   clear c24
   obtain ⟨t795,A25,H⟩:=ob H
   simp only [Option.some.injEq,Prod.mk.injEq] at H
   obtain ⟨rfl,rfl,rfl⟩:=H
   exact Zaf.leaf
  ·rw [if_neg c24] at H
   have c24b0:decide (0<=t794)=false:=decide_eq_false c24
   clear c24
   obtain ⟨t798,A43,H⟩:=ob H
   simp only [Option.some.injEq,Prod.mk.injEq] at H
   obtain ⟨rfl,rfl,rfl⟩:=H
   exact Zaf.leaf
def Zaj.f (k:Nat) (a0_0:Bool) (l0_1:List Int) (a0_2:Int) (a1_0:Bool) (l1_1:List Int) (a1_2:Int):Option (Int):=(Zp.f k a0_0 l0_1 a0_2).bind fun bt850=>((Zp.f k a1_0 l1_1 a1_2).bind fun bt855=>((Zbk.f bt855.1 bt855.2.1 bt855.2.2).bind fun bt860=>((Zaf.f k bt850.1 bt850.2.1 bt850.2.2 bt860.1 bt860.2.1 bt860.2.2).bind fun bt865=>(if (bt865.2.1.length:Int)=0 then (some 0) else (if bt865.1=true then (some (-1)) else (some 1))))))
def Zaj.T1:Bool × List (List Nat × List Nat):=(true,[([],[]),([0],[0]),([],[]),([2,1],[2]),([3,3],[3]),([1,4,4],[1,4]),([],[]),([6,5,5,0,1,2,3,4,5,6],[5,6])])
def Zaj.B1:List Nat:=[0,1,0,7,15,31,0,127]
theorem Zaj.tab1:rtab .any (opsOf Tryz.f81 1)=Zaj.T1:=by kernel_rfl
theorem Zaj.bits1:waitsOk Zaj.T1.2 Zaj.B1=true:=by kernel_rfl
theorem Zaj.leaf {P:Prop} (h:P:=by
 go_enter Tryz.func81,Tryz.ntmps81
 try go_wp2_with (first|((with_reducible refine gd 2 ?_);refine bx 2 #[.bool a0_0,.slice A0_1 l0_1.length c0_1,.int .i64 a0_2] 24 (h:=?_);intro gb0z hg w1z hbox hb;have BK2z:=am hbox;have GW3z:=gW hg;have GE4z:=gW hg;replace HB:=bS hb;clear hb hbox hg)|((with_reducible refine gd 3 ?_);refine bx 3 #[.bool a1_0,.slice A1_1 l1_1.length c1_1,.int .i64 a1_2] 24 (h:=?_);intro gb5z hg w6z hbox hb;have BK7z:=am hbox;have GW8z:=gW hg;have GE9z:=gW hg;have NB10z:=nL hg BK2z;have NB11z:=nG hg BK2z;replace BK2z:=bb BK2z hb;replace HB:=bS hb;clear hb hbox hg))
 replace BK2z:=am (Zba BK2z.out)
 replace BK7z:=am (Zba BK7z.out)
 replace HB:=am (Zaz HB.out)
 refine start_ (n:=8) (S:=fun w'=>w'.cell? ⟨gb0z,0,none⟩=some (.bool a0_0)/\w'.cell? ⟨gb0z,1,none⟩=some (.slice A0_1 l0_1.length c0_1)/\w'.cell? ⟨gb0z,2,none⟩=some (.int .i64 a0_2)/\w'.cell? ⟨gb5z,0,none⟩=some (.bool a1_0)/\w'.cell? ⟨gb5z,1,none⟩=some (.slice A1_1 l1_1.length c1_1)/\w'.cell? ⟨gb5z,2,none⟩=some (.int .i64 a1_2)) (ds:=[]) #[false,false,false,false,false,false,false,false] (by kernel_rfl) rfl rfl ⟨k0 BK2z 0,k0 BK2z 1,k0 BK2z 2,k0 BK7z 0,k0 BK7z 1,k0 BK7z 2⟩ (fun hHeld=>?_);refine Zcn Zaj.tab1 Zaj.bits1 (fun HT_ HW_=>?_)
 generalize w6z.drew=w12z at BK2z BK7z HB hHeld ⊢
 refine take_ (i:=0) (N:=some 6) (v:=?_) (a':=?_) #[true,false,false,false,false,false,false,false] rfl rfl (Zbh HT_.out HW_.out (by kernel_rfl)) (fun _ _ _ h=>h) (Or.inl ⟨by rfl,?_⟩) hHeld ?_ ?_
 rotate_left
 ·rintro w' ⟨s13z,s14z,s15z,s16z,s17z,s18z⟩
  go_simp
  with_reducible rfl
 rotate_left
 ·exact pP
 refine take_ (i:=2) (N:=some 8) (v:=?_) (a':=?_) #[true,false,true,false,false,false,false,false] rfl rfl (Zbh HT_.out HW_.out (by kernel_rfl)) (fun _ _ _ h=>h) (Or.inl ⟨by rfl,?_⟩) hHeld ?_ ?_
 rotate_left
 ·rintro w' ⟨s13z,s14z,s15z,s16z,s17z,s18z⟩
  go_simp
  with_reducible rfl
 rotate_left
 ·exact pP
 first|(have q_:((t866.length:Int) != 0)=false:=c7b1;refine join_ (σ:=Value × Value × Value × Value × Nat) 1 #[true,true,true,true,true,true,true,false] (fun s_=>[(7,.agg #[.bool t850,s_.1,.int .i64 t854]),(9,.agg #[.bool t855,s_.2.1,.int .i64 t859]),(10,.agg #[.bool t860,s_.2.2.1,.int .i64 t864]),(11,.agg #[.bool t865,s_.2.2.2.1,.int .i64 t869]),(5,.pointer (some ⟨s_.2.2.2.2,0,none⟩))]) (fun s_ w'=>(w'.cell? ⟨gb0z,0,none⟩=some (.bool a0_0)/\w'.cell? ⟨gb0z,1,none⟩=some (.slice A0_1 l0_1.length c0_1)/\w'.cell? ⟨gb0z,2,none⟩=some (.int .i64 a0_2)/\w'.cell? ⟨gb5z,0,none⟩=some (.bool a1_0)/\w'.cell? ⟨gb5z,1,none⟩=some (.slice A1_1 l1_1.length c1_1)/\w'.cell? ⟨gb5z,2,none⟩=some (.int .i64 a1_2))/\(Kd.R (Kd.int .i64) 3 w' w.heap.size (fun k_=>some k_ ≠ (s_.2.2.1:Value).ownBlock/\some k_ ≠ (s_.2.2.2.1:Value).ownBlock) s_.1 t851)/\(Kd.R (Kd.int .i64) 3 w' w.heap.size (fun k_=>some k_ ≠ (s_.1:Value).ownBlock/\some k_ ≠ (s_.2.2.2.1:Value).ownBlock) s_.2.2.1 t861)/\(Kd.R (Kd.int .i64) 3 w' w.heap.size (fun k_=>some k_ ≠ (s_.1:Value).ownBlock/\some k_ ≠ (s_.2.2.1:Value).ownBlock) s_.2.2.2.1 t866)/\(w'.heap[gb0z]? = some (.cells #[.bool a0_0,.slice A0_1 l0_1.length c0_1,.int .i64 a0_2] 24 (0,0)))/\(w'.heap[gb5z]? = some (.cells #[.bool a1_0,.slice A1_1 l1_1.length c1_1,.int .i64 a1_2] 24 (0,0)))/\(w'.heap[s_.2.2.2.2]? = some (.cells #[.bool false,.slice none 0 0,.int .i64 0] 30 (0,0)))/\(w.heap.size<=s_.2.2.2.2)/\(w.heap.size<=s_.2.2.2.2)/\(gb0z ≠ s_.2.2.2.2)/\(s_.2.2.2.2 ≠ gb0z)/\(gb5z ≠ s_.2.2.2.2)/\(s_.2.2.2.2 ≠ gb5z)/\(Below w.heap.size w w')) ?_ ?_)|(have q_:Aside0 (_=some (true,_,_)):=A6;have q_:¬ (t866=[]):=c7b2;refine join_ (σ:=Value × Value × Value × Value × Nat) 1 #[true,true,true,true,true,true,true,false] (fun s_=>[(7,.agg #[.bool t850,s_.1,.int .i64 t854]),(9,.agg #[.bool t855,s_.2.1,.int .i64 t859]),(10,.agg #[.bool t860,s_.2.2.1,.int .i64 t864]),(11,.agg #[.bool true,s_.2.2.2.1,.int .i64 t869]),(5,.pointer (some ⟨s_.2.2.2.2,0,none⟩))]) (fun s_ w'=>(w'.cell? ⟨gb0z,0,none⟩=some (.bool a0_0)/\w'.cell? ⟨gb0z,1,none⟩=some (.slice A0_1 l0_1.length c0_1)/\w'.cell? ⟨gb0z,2,none⟩=some (.int .i64 a0_2)/\w'.cell? ⟨gb5z,0,none⟩=some (.bool a1_0)/\w'.cell? ⟨gb5z,1,none⟩=some (.slice A1_1 l1_1.length c1_1)/\w'.cell? ⟨gb5z,2,none⟩=some (.int .i64 a1_2))/\(Kd.R (Kd.int .i64) 3 w' w.heap.size (fun k_=>some k_ ≠ (s_.2.2.1:Value).ownBlock/\some k_ ≠ (s_.2.2.2.1:Value).ownBlock) s_.1 t851)/\(Kd.R (Kd.int .i64) 3 w' w.heap.size (fun k_=>some k_ ≠ (s_.1:Value).ownBlock/\some k_ ≠ (s_.2.2.2.1:Value).ownBlock) s_.2.2.1 t861)/\(Kd.R (Kd.int .i64) 3 w' w.heap.size (fun k_=>some k_ ≠ (s_.1:Value).ownBlock/\some k_ ≠ (s_.2.2.1:Value).ownBlock) s_.2.2.2.1 t866)/\(w'.heap[gb0z]? = some (.cells #[.bool a0_0,.slice A0_1 l0_1.length c0_1,.int .i64 a0_2] 24 (0,0)))/\(w'.heap[gb5z]? = some (.cells #[.bool a1_0,.slice A1_1 l1_1.length c1_1,.int .i64 a1_2] 24 (0,0)))/\(w'.heap[s_.2.2.2.2]? = some (.cells #[.bool false,.slice none 0 0,.int .i64 0] 30 (0,0)))/\(w.heap.size<=s_.2.2.2.2)/\(w.heap.size<=s_.2.2.2.2)/\(gb0z ≠ s_.2.2.2.2)/\(s_.2.2.2.2 ≠ gb0z)/\(gb5z ≠ s_.2.2.2.2)/\(s_.2.2.2.2 ≠ gb5z)/\(Below w.heap.size w w')) ?_ ?_)|(have q_:Aside0 (_=some (false,_,_)):=A6;have q_:¬ (t866=[]):=c7b2;refine join_ (σ:=Value × Value × Value × Value × Nat) 1 #[true,true,true,true,true,true,true,false] (fun s_=>[(7,.agg #[.bool t850,s_.1,.int .i64 t854]),(9,.agg #[.bool t855,s_.2.1,.int .i64 t859]),(10,.agg #[.bool t860,s_.2.2.1,.int .i64 t864]),(11,.agg #[.bool false,s_.2.2.2.1,.int .i64 t869]),(5,.pointer (some ⟨s_.2.2.2.2,0,none⟩))]) (fun s_ w'=>(w'.cell? ⟨gb0z,0,none⟩=some (.bool a0_0)/\w'.cell? ⟨gb0z,1,none⟩=some (.slice A0_1 l0_1.length c0_1)/\w'.cell? ⟨gb0z,2,none⟩=some (.int .i64 a0_2)/\w'.cell? ⟨gb5z,0,none⟩=some (.bool a1_0)/\w'.cell? ⟨gb5z,1,none⟩=some (.slice A1_1 l1_1.length c1_1)/\w'.cell? ⟨gb5z,2,none⟩=some (.int .i64 a1_2))/\(Kd.R (Kd.int .i64) 3 w' w.heap.size (fun k_=>some k_ ≠ (s_.2.2.1:Value).ownBlock/\some k_ ≠ (s_.2.2.2.1:Value).ownBlock) s_.1 t851)/\(Kd.R (Kd.int .i64) 3 w' w.heap.size (fun k_=>some k_ ≠ (s_.1:Value).ownBlock/\some k_ ≠ (s_.2.2.2.1:Value).ownBlock) s_.2.2.1 t861)/\(Kd.R (Kd.int .i64) 3 w' w.heap.size (fun k_=>some k_ ≠ (s_.1:Value).ownBlock/\some k_ ≠ (s_.2.2.1:Value).ownBlock) s_.2.2.2.1 t866)/\(w'.heap[gb0z]? = some (.cells #[.bool a0_0,.slice A0_1 l0_1.length c0_1,.int .i64 a0_2] 24 (0,0)))/\(w'.heap[gb5z]? = some (.cells #[.bool a1_0,.slice A1_1 l1_1.length c1_1,.int .i64 a1_2] 24 (0,0)))/\(w'.heap[s_.2.2.2.2]? = some (.cells #[.bool false,.slice none 0 0,.int .i64 0] 30 (0,0)))/\(w.heap.size<=s_.2.2.2.2)/\(w.heap.size<=s_.2.2.2.2)/\(gb0z ≠ s_.2.2.2.2)/\(s_.2.2.2.2 ≠ gb0z)/\(gb5z ≠ s_.2.2.2.2)/\(s_.2.2.2.2 ≠ gb5z)/\(Below w.heap.size w w')) ?_ ?_)
 rotate_left
 ·intro hJ1_3_4_5_6
  first|(have q_:((t866.length:Int) != 0)=false:=c7b1;refine join_ (σ:=Value × Value × Value × Value) 2 #[true,true,true,true,true,true,false,false] (fun s_=>[(7,.agg #[.bool t850,s_.1,.int .i64 t854]),(9,.agg #[.bool t855,s_.2.1,.int .i64 t859]),(10,.agg #[.bool t860,s_.2.2.1,.int .i64 t864]),(11,.agg #[.bool t865,s_.2.2.2,.int .i64 t869])]) (fun s_ w'=>(w'.cell? ⟨gb0z,0,none⟩=some (.bool a0_0)/\w'.cell? ⟨gb0z,1,none⟩=some (.slice A0_1 l0_1.length c0_1)/\w'.cell? ⟨gb0z,2,none⟩=some (.int .i64 a0_2)/\w'.cell? ⟨gb5z,0,none⟩=some (.bool a1_0)/\w'.cell? ⟨gb5z,1,none⟩=some (.slice A1_1 l1_1.length c1_1)/\w'.cell? ⟨gb5z,2,none⟩=some (.int .i64 a1_2))/\(Kd.R (Kd.int .i64) 3 w' w.heap.size (fun k_=>some k_ ≠ (s_.2.2.1:Value).ownBlock/\some k_ ≠ (s_.2.2.2:Value).ownBlock) s_.1 t851)/\(Kd.R (Kd.int .i64) 3 w' w.heap.size (fun k_=>some k_ ≠ (s_.1:Value).ownBlock/\some k_ ≠ (s_.2.2.2:Value).ownBlock) s_.2.2.1 t861)/\(Kd.R (Kd.int .i64) 3 w' w.heap.size (fun k_=>some k_ ≠ (s_.1:Value).ownBlock/\some k_ ≠ (s_.2.2.1:Value).ownBlock) s_.2.2.2 t866)/\(w'.heap[gb0z]? = some (.cells #[.bool a0_0,.slice A0_1 l0_1.length c0_1,.int .i64 a0_2] 24 (0,0)))/\(w'.heap[gb5z]? = some (.cells #[.bool a1_0,.slice A1_1 l1_1.length c1_1,.int .i64 a1_2] 24 (0,0)))/\(Below w.heap.size w w')) ?_ ?_)|(have q_:Aside0 (_=some (true,_,_)):=A6;have q_:¬ (t866=[]):=c7b2;refine join_ (σ:=Value × Value × Value × Value) 2 #[true,true,true,true,true,true,false,false] (fun s_=>[(7,.agg #[.bool t850,s_.1,.int .i64 t854]),(9,.agg #[.bool t855,s_.2.1,.int .i64 t859]),(10,.agg #[.bool t860,s_.2.2.1,.int .i64 t864]),(11,.agg #[.bool true,s_.2.2.2,.int .i64 t869])]) (fun s_ w'=>(w'.cell? ⟨gb0z,0,none⟩=some (.bool a0_0)/\w'.cell? ⟨gb0z,1,none⟩=some (.slice A0_1 l0_1.length c0_1)/\w'.cell? ⟨gb0z,2,none⟩=some (.int .i64 a0_2)/\w'.cell? ⟨gb5z,0,none⟩=some (.bool a1_0)/\w'.cell? ⟨gb5z,1,none⟩=some (.slice A1_1 l1_1.length c1_1)/\w'.cell? ⟨gb5z,2,none⟩=some (.int .i64 a1_2))/\(Kd.R (Kd.int .i64) 3 w' w.heap.size (fun k_=>some k_ ≠ (s_.2.2.1:Value).ownBlock/\some k_ ≠ (s_.2.2.2:Value).ownBlock) s_.1 t851)/\(Kd.R (Kd.int .i64) 3 w' w.heap.size (fun k_=>some k_ ≠ (s_.1:Value).ownBlock/\some k_ ≠ (s_.2.2.2:Value).ownBlock) s_.2.2.1 t861)/\(Kd.R (Kd.int .i64) 3 w' w.heap.size (fun k_=>some k_ ≠ (s_.1:Value).ownBlock/\some k_ ≠ (s_.2.2.1:Value).ownBlock) s_.2.2.2 t866)/\(w'.heap[gb0z]? = some (.cells #[.bool a0_0,.slice A0_1 l0_1.length c0_1,.int .i64 a0_2] 24 (0,0)))/\(w'.heap[gb5z]? = some (.cells #[.bool a1_0,.slice A1_1 l1_1.length c1_1,.int .i64 a1_2] 24 (0,0)))/\(Below w.heap.size w w')) ?_ ?_)|(have q_:Aside0 (_=some (false,_,_)):=A6;have q_:¬ (t866=[]):=c7b2;refine join_ (σ:=Value × Value × Value × Value) 2 #[true,true,true,true,true,true,false,false] (fun s_=>[(7,.agg #[.bool t850,s_.1,.int .i64 t854]),(9,.agg #[.bool t855,s_.2.1,.int .i64 t859]),(10,.agg #[.bool t860,s_.2.2.1,.int .i64 t864]),(11,.agg #[.bool false,s_.2.2.2,.int .i64 t869])]) (fun s_ w'=>(w'.cell? ⟨gb0z,0,none⟩=some (.bool a0_0)/\w'.cell? ⟨gb0z,1,none⟩=some (.slice A0_1 l0_1.length c0_1)/\w'.cell? ⟨gb0z,2,none⟩=some (.int .i64 a0_2)/\w'.cell? ⟨gb5z,0,none⟩=some (.bool a1_0)/\w'.cell? ⟨gb5z,1,none⟩=some (.slice A1_1 l1_1.length c1_1)/\w'.cell? ⟨gb5z,2,none⟩=some (.int .i64 a1_2))/\(Kd.R (Kd.int .i64) 3 w' w.heap.size (fun k_=>some k_ ≠ (s_.2.2.1:Value).ownBlock/\some k_ ≠ (s_.2.2.2:Value).ownBlock) s_.1 t851)/\(Kd.R (Kd.int .i64) 3 w' w.heap.size (fun k_=>some k_ ≠ (s_.1:Value).ownBlock/\some k_ ≠ (s_.2.2.2:Value).ownBlock) s_.2.2.1 t861)/\(Kd.R (Kd.int .i64) 3 w' w.heap.size (fun k_=>some k_ ≠ (s_.1:Value).ownBlock/\some k_ ≠ (s_.2.2.1:Value).ownBlock) s_.2.2.2 t866)/\(w'.heap[gb0z]? = some (.cells #[.bool a0_0,.slice A0_1 l0_1.length c0_1,.int .i64 a0_2] 24 (0,0)))/\(w'.heap[gb5z]? = some (.cells #[.bool a1_0,.slice A1_1 l1_1.length c1_1,.int .i64 a1_2] 24 (0,0)))/\(Below w.heap.size w w')) ?_ ?_)
  rotate_left
  ·intro hJ1_3_4_5
   refine join_ (σ:=Value × Value × Value × Nat) 2 #[true,true,true,true,true,false,true,false] (fun s_=>[(7,.agg #[.bool t850,s_.1,.int .i64 t854]),(9,.agg #[.bool t855,s_.2.1,.int .i64 t859]),(10,.agg #[.bool t860,s_.2.2.1,.int .i64 t864]),(5,.pointer (some ⟨s_.2.2.2,0,none⟩))]) (fun s_ w'=>(w'.cell? ⟨gb0z,0,none⟩=some (.bool a0_0)/\w'.cell? ⟨gb0z,1,none⟩=some (.slice A0_1 l0_1.length c0_1)/\w'.cell? ⟨gb0z,2,none⟩=some (.int .i64 a0_2)/\w'.cell? ⟨gb5z,0,none⟩=some (.bool a1_0)/\w'.cell? ⟨gb5z,1,none⟩=some (.slice A1_1 l1_1.length c1_1)/\w'.cell? ⟨gb5z,2,none⟩=some (.int .i64 a1_2))/\(Kd.R (Kd.int .i64) 3 w' w.heap.size (fun k_=>some k_ ≠ (s_.2.2.1:Value).ownBlock) s_.1 t851)/\(Kd.R (Kd.int .i64) 3 w' w.heap.size (fun k_=>some k_ ≠ (s_.1:Value).ownBlock) s_.2.2.1 t861)/\(w'.heap[gb0z]? = some (.cells #[.bool a0_0,.slice A0_1 l0_1.length c0_1,.int .i64 a0_2] 24 (0,0)))/\(w'.heap[gb5z]? = some (.cells #[.bool a1_0,.slice A1_1 l1_1.length c1_1,.int .i64 a1_2] 24 (0,0)))/\(w'.heap[s_.2.2.2]? = some (.cells #[.bool false,.slice none 0 0,.int .i64 0] 30 (0,0)))/\(w.heap.size<=s_.2.2.2)/\(w.heap.size<=s_.2.2.2)/\(gb0z ≠ s_.2.2.2)/\(s_.2.2.2 ≠ gb0z)/\(gb5z ≠ s_.2.2.2)/\(s_.2.2.2 ≠ gb5z)/\(Below w.heap.size w w')) ?_ ?_
   rotate_left
   ·intro hJ1_3_4_6
    refine join_ (σ:=Value × Value × Value) 3 #[true,true,true,true,true,false,false,false] (fun s_=>[(7,.agg #[.bool t850,s_.1,.int .i64 t854]),(9,.agg #[.bool t855,s_.2.1,.int .i64 t859]),(10,.agg #[.bool t860,s_.2.2,.int .i64 t864])]) (fun s_ w'=>(w'.cell? ⟨gb0z,0,none⟩=some (.bool a0_0)/\w'.cell? ⟨gb0z,1,none⟩=some (.slice A0_1 l0_1.length c0_1)/\w'.cell? ⟨gb0z,2,none⟩=some (.int .i64 a0_2)/\w'.cell? ⟨gb5z,0,none⟩=some (.bool a1_0)/\w'.cell? ⟨gb5z,1,none⟩=some (.slice A1_1 l1_1.length c1_1)/\w'.cell? ⟨gb5z,2,none⟩=some (.int .i64 a1_2))/\(Kd.R (Kd.int .i64) 3 w' w.heap.size (fun k_=>some k_ ≠ (s_.2.2:Value).ownBlock) s_.1 t851)/\(Kd.R (Kd.int .i64) 3 w' w.heap.size (fun k_=>some k_ ≠ (s_.1:Value).ownBlock) s_.2.2 t861)/\(w'.heap[gb0z]? = some (.cells #[.bool a0_0,.slice A0_1 l0_1.length c0_1,.int .i64 a0_2] 24 (0,0)))/\(w'.heap[gb5z]? = some (.cells #[.bool a1_0,.slice A1_1 l1_1.length c1_1,.int .i64 a1_2] 24 (0,0)))/\(Below w.heap.size w w')) ?_ ?_
    rotate_left
    ·intro hJ1_3_4
     refine join_ (σ:=Value × Value × Nat) 3 #[true,true,true,true,false,false,true,false] (fun s_=>[(7,.agg #[.bool t850,s_.1,.int .i64 t854]),(9,.agg #[.bool t855,s_.2.1,.int .i64 t859]),(5,.pointer (some ⟨s_.2.2,0,none⟩))]) (fun s_ w'=>(w'.cell? ⟨gb0z,0,none⟩=some (.bool a0_0)/\w'.cell? ⟨gb0z,1,none⟩=some (.slice A0_1 l0_1.length c0_1)/\w'.cell? ⟨gb0z,2,none⟩=some (.int .i64 a0_2)/\w'.cell? ⟨gb5z,0,none⟩=some (.bool a1_0)/\w'.cell? ⟨gb5z,1,none⟩=some (.slice A1_1 l1_1.length c1_1)/\w'.cell? ⟨gb5z,2,none⟩=some (.int .i64 a1_2))/\(Kd.R (Kd.int .i64) 3 w' w.heap.size (fun k_=>some k_ ≠ (s_.2.1:Value).ownBlock) s_.1 t851)/\(Kd.R (Kd.int .i64) 3 w' w.heap.size (fun k_=>some k_ ≠ (s_.1:Value).ownBlock) s_.2.1 t856)/\(w'.heap[gb0z]? = some (.cells #[.bool a0_0,.slice A0_1 l0_1.length c0_1,.int .i64 a0_2] 24 (0,0)))/\(w'.heap[gb5z]? = some (.cells #[.bool a1_0,.slice A1_1 l1_1.length c1_1,.int .i64 a1_2] 24 (0,0)))/\(w'.heap[s_.2.2]? = some (.cells #[.bool false,.slice none 0 0,.int .i64 0] 30 (0,0)))/\(w.heap.size<=s_.2.2)/\(w.heap.size<=s_.2.2)/\(gb0z ≠ s_.2.2)/\(s_.2.2 ≠ gb0z)/\(gb5z ≠ s_.2.2)/\(s_.2.2 ≠ gb5z)/\(Below w.heap.size w w')) ?_ ?_
     rotate_left
     ·intro hJ1_3_6
      refine join_ (σ:=Value × Value) 4 #[true,true,true,true,false,false,false,false] (fun s_=>[(7,.agg #[.bool t850,s_.1,.int .i64 t854]),(9,.agg #[.bool t855,s_.2,.int .i64 t859])]) (fun s_ w'=>(w'.cell? ⟨gb0z,0,none⟩=some (.bool a0_0)/\w'.cell? ⟨gb0z,1,none⟩=some (.slice A0_1 l0_1.length c0_1)/\w'.cell? ⟨gb0z,2,none⟩=some (.int .i64 a0_2)/\w'.cell? ⟨gb5z,0,none⟩=some (.bool a1_0)/\w'.cell? ⟨gb5z,1,none⟩=some (.slice A1_1 l1_1.length c1_1)/\w'.cell? ⟨gb5z,2,none⟩=some (.int .i64 a1_2))/\(Kd.R (Kd.int .i64) 3 w' w.heap.size (fun k_=>some k_ ≠ (s_.2:Value).ownBlock) s_.1 t851)/\(Kd.R (Kd.int .i64) 3 w' w.heap.size (fun k_=>some k_ ≠ (s_.1:Value).ownBlock) s_.2 t856)/\(w'.heap[gb0z]? = some (.cells #[.bool a0_0,.slice A0_1 l0_1.length c0_1,.int .i64 a0_2] 24 (0,0)))/\(w'.heap[gb5z]? = some (.cells #[.bool a1_0,.slice A1_1 l1_1.length c1_1,.int .i64 a1_2] 24 (0,0)))/\(Below w.heap.size w w')) ?_ ?_
      rotate_left
      ·intro hJ19z
       refine join_ (σ:=Value × Nat) 4 #[true,true,true,false,false,false,true,false] (fun s_=>[(7,.agg #[.bool t850,s_.1,.int .i64 t854]),(5,.pointer (some ⟨s_.2,0,none⟩))]) (fun s_ w'=>(w'.cell? ⟨gb0z,0,none⟩=some (.bool a0_0)/\w'.cell? ⟨gb0z,1,none⟩=some (.slice A0_1 l0_1.length c0_1)/\w'.cell? ⟨gb0z,2,none⟩=some (.int .i64 a0_2)/\w'.cell? ⟨gb5z,0,none⟩=some (.bool a1_0)/\w'.cell? ⟨gb5z,1,none⟩=some (.slice A1_1 l1_1.length c1_1)/\w'.cell? ⟨gb5z,2,none⟩=some (.int .i64 a1_2))/\(Kd.R (Kd.int .i64) 3 w' w.heap.size (fun _=>True) s_.1 t851)/\(w'.heap[gb0z]? = some (.cells #[.bool a0_0,.slice A0_1 l0_1.length c0_1,.int .i64 a0_2] 24 (0,0)))/\(w'.heap[gb5z]? = some (.cells #[.bool a1_0,.slice A1_1 l1_1.length c1_1,.int .i64 a1_2] 24 (0,0)))/\(w'.heap[s_.2]? = some (.cells #[.bool false,.slice none 0 0,.int .i64 0] 30 (0,0)))/\(w.heap.size<=s_.2)/\(w.heap.size<=s_.2)/\(gb0z ≠ s_.2)/\(s_.2 ≠ gb0z)/\(gb5z ≠ s_.2)/\(s_.2 ≠ gb5z)/\(Below w.heap.size w w')) ?_ ?_
       rotate_left
       ·intro hJ20z
        refine join_ (σ:=Value) 5 #[true,true,true,false,false,false,false,false] (fun s_=>[(7,.agg #[.bool t850,s_,.int .i64 t854])]) (fun s_ w'=>(w'.cell? ⟨gb0z,0,none⟩=some (.bool a0_0)/\w'.cell? ⟨gb0z,1,none⟩=some (.slice A0_1 l0_1.length c0_1)/\w'.cell? ⟨gb0z,2,none⟩=some (.int .i64 a0_2)/\w'.cell? ⟨gb5z,0,none⟩=some (.bool a1_0)/\w'.cell? ⟨gb5z,1,none⟩=some (.slice A1_1 l1_1.length c1_1)/\w'.cell? ⟨gb5z,2,none⟩=some (.int .i64 a1_2))/\(Kd.R (Kd.int .i64) 3 w' w.heap.size (fun _=>True) s_ t851)/\(w'.heap[gb0z]? = some (.cells #[.bool a0_0,.slice A0_1 l0_1.length c0_1,.int .i64 a0_2] 24 (0,0)))/\(w'.heap[gb5z]? = some (.cells #[.bool a1_0,.slice A1_1 l1_1.length c1_1,.int .i64 a1_2] 24 (0,0)))/\(Below w.heap.size w w')) ?_ ?_
        rotate_left
        ·intro hJ21z
         refine join_ (σ:=Nat) 5 #[true,false,true,false,false,false,true,false] (fun s_=>[(5,.pointer (some ⟨s_,0,none⟩))]) (fun s_ w'=>(w'.cell? ⟨gb0z,0,none⟩=some (.bool a0_0)/\w'.cell? ⟨gb0z,1,none⟩=some (.slice A0_1 l0_1.length c0_1)/\w'.cell? ⟨gb0z,2,none⟩=some (.int .i64 a0_2)/\w'.cell? ⟨gb5z,0,none⟩=some (.bool a1_0)/\w'.cell? ⟨gb5z,1,none⟩=some (.slice A1_1 l1_1.length c1_1)/\w'.cell? ⟨gb5z,2,none⟩=some (.int .i64 a1_2))/\(w'.heap[gb0z]? = some (.cells #[.bool a0_0,.slice A0_1 l0_1.length c0_1,.int .i64 a0_2] 24 (0,0)))/\(w'.heap[gb5z]? = some (.cells #[.bool a1_0,.slice A1_1 l1_1.length c1_1,.int .i64 a1_2] 24 (0,0)))/\(w'.heap[s_]? = some (.cells #[.bool false,.slice none 0 0,.int .i64 0] 30 (0,0)))/\(w.heap.size<=s_)/\(w.heap.size<=s_)/\(gb0z ≠ s_)/\(s_ ≠ gb0z)/\(gb5z ≠ s_)/\(s_ ≠ gb5z)/\(Below w.heap.size w w')) ?_ ?_
         rotate_left
         ·intro hJ22z
          refine two_ (i:=1) (j:=6) (Ni:=some 7) (Nj:=some 5) #[true,true,true,false,false,false,false,false] #[true,false,true,false,false,false,true,false] rfl rfl rfl rfl (Zml HT_.out (by kernel_rfl)) (by decide) (by decide) (fun K hK=>?_) (fun K hK=>?_)
          ·skip
           refine goes_ Tryz.func18 (by kernel_rfl) rfl #[.agg #[.bool a0_0,.slice A0_1 l0_1.length c0_1,.int .i64 a0_2]] (by rfl) rfl rfl pA ?_
           with_reducible refine (Zp.calls k a0_0 _ _ l0_1 a0_2 t850 t851 t854 _ ?side1 ?side2 A3.out).mono ?_
           (case side1=>refine cp ?_;exact (Kd.Zh HR0_1.out HB.out))
           (case side2=>exact HC0_1.out)
           rintro e w23z ⟨v24z,rfl,ho25z,hb⟩
           refine ⟨_,rfl,?_⟩
           have HO26z:=am (Kd.Zq ho25z (Zb pB))
           replace BK2z:=bb BK2z hb
           replace BK7z:=bb BK7z hb
           replace HB:=bS hb
           refine hK.out _ _ ⟨k0 BK2z 0,k0 BK2z 1,k0 BK2z 2,k0 BK7z 0,k0 BK7z 1,k0 BK7z 2⟩ (fun hHeld=>?_)
           clear hK K
           refine norm_ (a':=?_) ?_ ?_
           rotate_left
           ·show Act.put _ (some 7) _=_
            exact pP
           exact norm_ pT (hJ21z (v24z) _ ⟨hHeld,(Kd.Za HO26z.out pl),(Zc BK2z.out pl),(Zc BK7z.out pl),pB⟩)
          ·skip
           refine Zfi ?hg (N:=5) ?hd (cs:=#[.bool false,.slice none 0 0,.int .i64 0]) (t:=30) ?hr ?_;(case hd=>rfl);(case hg=>rfl);(case hr=>first|(go_simp;done)|(go_simp;rfl))
           intro gb27z hg w23z hbox hb
           have BK28z:=am hbox
           have GW29z:=gW hg
           have GE30z:=gW hg
           have NB31z:=nL hg BK2z
           have NB32z:=nG hg BK2z
           have NB33z:=nL hg BK7z
           have NB34z:=nG hg BK7z
           replace BK2z:=bb BK2z hb
           replace BK7z:=bb BK7z hb
           replace HB:=bS hb
           clear hb hbox hg
           refine hK.out _ _ ⟨k0 BK2z 0,k0 BK2z 1,k0 BK2z 2,k0 BK7z 0,k0 BK7z 1,k0 BK7z 2⟩ (fun hHeld=>?_)
           clear hK K
           refine norm_ (a':=?_) ?_ ?_
           rotate_left
           ·show Act.put _ (some 5) _=_
            exact pP
           exact norm_ pT (hJ22z (gb27z) _ ⟨hHeld,(Zc BK2z.out pl),(Zc BK7z.out pl),(Zc BK28z.out pl),GW29z.out,GE30z.out,NB31z.out,NB32z.out,NB33z.out,NB34z.out,pB⟩)
         ·skip
          rintro gb27z w35z ⟨hS_,h0_,h1_,h2_,h3_,h4_,h5_,h6_,h7_,h8_,h9_⟩
          have BK28z:Aside0 (w35z.heap[gb27z]? = some (.cells #[.bool false,.slice none 0 0,.int .i64 0] 30 (0,0))):=⟨h2_⟩
          have GW29z:Aside0 (w.heap.size<=gb27z):=⟨h3_⟩
          have GE30z:Aside0 (w.heap.size<=gb27z):=⟨h4_⟩
          have NB31z:Aside0 (gb0z ≠ gb27z):=⟨h5_⟩
          have NB32z:Aside0 (gb27z ≠ gb0z):=⟨h6_⟩
          have NB33z:Aside0 (gb5z ≠ gb27z):=⟨h7_⟩
          have NB34z:Aside0 (gb27z ≠ gb5z):=⟨h8_⟩
          replace BK2z:Aside0 (w35z.heap[gb0z]? = some (.cells #[.bool a0_0,.slice A0_1 l0_1.length c0_1,.int .i64 a0_2] 24 (0,0))):=⟨h0_⟩
          replace BK7z:Aside0 (w35z.heap[gb5z]? = some (.cells #[.bool a1_0,.slice A1_1 l1_1.length c1_1,.int .i64 a1_2] 24 (0,0))):=⟨h1_⟩
          replace HB:Aside0 (Below w.heap.size w w35z):=⟨h9_⟩
          clear h0_ h1_ h2_ h3_ h4_ h5_ h6_ h7_ h8_ h9_
          have hHeld:w35z.cell? ⟨gb0z,0,none⟩=some (.bool a0_0)/\w35z.cell? ⟨gb0z,1,none⟩=some (.slice A0_1 l0_1.length c0_1)/\w35z.cell? ⟨gb0z,2,none⟩=some (.int .i64 a0_2)/\w35z.cell? ⟨gb5z,0,none⟩=some (.bool a1_0)/\w35z.cell? ⟨gb5z,1,none⟩=some (.slice A1_1 l1_1.length c1_1)/\w35z.cell? ⟨gb5z,2,none⟩=some (.int .i64 a1_2):=hS_
          refine norm_ (a':=?_) ?_ ?_
          rotate_left
          ·simp only [putAll,Act.put,List.setIfInBounds_toArray,List.set_cons_zero,List.set_cons_succ]
           rfl
          refine one_ (i:=1) (N:=some 7) #[true,true,true,false,false,false,true,false] rfl rfl (Zbx HT_.out (by kernel_rfl)) (by decide) (fun K hK=>?_)
          refine goes_ Tryz.func18 (by kernel_rfl) rfl #[.agg #[.bool a0_0,.slice A0_1 l0_1.length c0_1,.int .i64 a0_2]] (by rfl) rfl rfl pA ?_
          with_reducible refine (Zp.calls k a0_0 _ _ l0_1 a0_2 t850 t851 t854 _ ?side1 ?side2 A3.out).mono ?_
          (case side1=>refine cp ?_;exact (Kd.Zh HR0_1.out HB.out))
          (case side2=>exact HC0_1.out)
          rintro e w36z ⟨v24z,rfl,ho25z,hb⟩
          refine ⟨_,rfl,?_⟩
          have HO26z:=am (Kd.Zq ho25z (Zb pB))
          replace BK2z:=bb BK2z hb
          replace BK7z:=bb BK7z hb
          replace BK28z:=bb BK28z hb
          replace HB:=bS hb
          refine hK.out _ _ ⟨k0 BK2z 0,k0 BK2z 1,k0 BK2z 2,k0 BK7z 0,k0 BK7z 1,k0 BK7z 2⟩ (fun hHeld=>?_)
          clear hK K
          refine norm_ (a':=?_) ?_ ?_
          rotate_left
          ·show Act.put _ (some 7) _=_
           exact pP
          exact norm_ pT (hJ20z (v24z,gb27z) _ ⟨hHeld,(Kd.Za HO26z.out pl),(Zc BK2z.out pl),(Zc BK7z.out pl),(Zc BK28z.out pl),GW29z.out,GE30z.out,NB31z.out,NB32z.out,NB33z.out,NB34z.out,pB⟩)
        ·skip
         rintro v24z w35z ⟨hS_,h0_,h1_,h2_,h3_⟩
         have HO26z:Aside0 (Kd.R (Kd.int .i64) 3 w35z w.heap.size (fun _=>True) v24z t851):=⟨h0_⟩
         replace BK2z:Aside0 (w35z.heap[gb0z]? = some (.cells #[.bool a0_0,.slice A0_1 l0_1.length c0_1,.int .i64 a0_2] 24 (0,0))):=⟨h1_⟩
         replace BK7z:Aside0 (w35z.heap[gb5z]? = some (.cells #[.bool a1_0,.slice A1_1 l1_1.length c1_1,.int .i64 a1_2] 24 (0,0))):=⟨h2_⟩
         replace HB:Aside0 (Below w.heap.size w w35z):=⟨h3_⟩
         clear h0_ h1_ h2_ h3_
         have hHeld:w35z.cell? ⟨gb0z,0,none⟩=some (.bool a0_0)/\w35z.cell? ⟨gb0z,1,none⟩=some (.slice A0_1 l0_1.length c0_1)/\w35z.cell? ⟨gb0z,2,none⟩=some (.int .i64 a0_2)/\w35z.cell? ⟨gb5z,0,none⟩=some (.bool a1_0)/\w35z.cell? ⟨gb5z,1,none⟩=some (.slice A1_1 l1_1.length c1_1)/\w35z.cell? ⟨gb5z,2,none⟩=some (.int .i64 a1_2):=hS_
         refine norm_ (a':=?_) ?_ ?_
         rotate_left
         ·simp only [putAll,Act.put,List.setIfInBounds_toArray,List.set_cons_zero,List.set_cons_succ]
          rfl
         refine two_ (i:=3) (j:=6) (Ni:=some 9) (Nj:=some 5) #[true,true,true,true,false,false,false,false] #[true,true,true,false,false,false,true,false] rfl rfl rfl rfl (Zml HT_.out (by kernel_rfl)) (by decide) (by decide) (fun K hK=>?_) (fun K hK=>?_)
         ·skip
          refine goes_ Tryz.func18 (by kernel_rfl) rfl #[.agg #[.bool a1_0,.slice A1_1 l1_1.length c1_1,.int .i64 a1_2]] (by rfl) rfl rfl pA ?_
          with_reducible refine (Zp.calls k a1_0 _ _ l1_1 a1_2 t855 t856 t859 _ ?side1 ?side2 A4.out).mono ?_
          (case side1=>refine cp ?_;exact (Kd.Zh HR1_1.out HB.out))
          (case side2=>exact HC1_1.out)
          rintro e w36z ⟨v37z,rfl,ho25z,hb⟩
          refine ⟨_,rfl,?_⟩
          have HO38z:=am (Kd.Zq (Kd.Zv ho25z (Kd.R_lt (Kd.Za HO26z.out pl))) (Zb pB))
          replace HO26z:=reR HO26z ho25z hb
          replace BK2z:=bb BK2z hb
          replace BK7z:=bb BK7z hb
          replace HB:=bS hb
          refine hK.out _ _ ⟨k0 BK2z 0,k0 BK2z 1,k0 BK2z 2,k0 BK7z 0,k0 BK7z 1,k0 BK7z 2⟩ (fun hHeld=>?_)
          clear hK K
          refine norm_ (a':=?_) ?_ ?_
          rotate_left
          ·show Act.put _ (some 9) _=_
           exact pP
          exact norm_ pT (hJ19z (v24z,v37z) _ ⟨hHeld,(Kd.Za (Kd.Zi HO26z.out (fun _ hk=>hk.2)) pl),(Kd.Za (Kd.Zi HO38z.out (fun _ hk=>hk.2)) pl),(Zc BK2z.out pl),(Zc BK7z.out pl),pB⟩)
         ·skip
          refine Zfi ?hg (N:=5) ?hd (cs:=#[.bool false,.slice none 0 0,.int .i64 0]) (t:=30) ?hr ?_;(case hd=>rfl);(case hg=>rfl);(case hr=>first|(go_simp;done)|(go_simp;rfl))
          intro gb27z hg w36z hbox hb
          have BK28z:=am hbox
          have GW29z:=gW hg
          have GE30z:=gW hg
          have NB31z:=nL hg BK2z
          have NB32z:=nG hg BK2z
          have NB33z:=nL hg BK7z
          have NB34z:=nG hg BK7z
          replace HO26z:=rbl HO26z hb
          replace BK2z:=bb BK2z hb
          replace BK7z:=bb BK7z hb
          replace HB:=bS hb
          clear hb hbox hg
          refine hK.out _ _ ⟨k0 BK2z 0,k0 BK2z 1,k0 BK2z 2,k0 BK7z 0,k0 BK7z 1,k0 BK7z 2⟩ (fun hHeld=>?_)
          clear hK K
          refine norm_ (a':=?_) ?_ ?_
          rotate_left
          ·show Act.put _ (some 5) _=_
           exact pP
          exact norm_ pT (hJ20z (v24z,gb27z) _ ⟨hHeld,(Kd.Za HO26z.out pl),(Zc BK2z.out pl),(Zc BK7z.out pl),(Zc BK28z.out pl),GW29z.out,GE30z.out,NB31z.out,NB32z.out,NB33z.out,NB34z.out,pB⟩)
       ·skip
        rintro ⟨v24z,gb27z⟩ w36z ⟨hS_,h0_,h1_,h2_,h3_,h4_,h5_,h6_,h7_,h8_,h9_,h10_⟩
        have HO26z:Aside0 (Kd.R (Kd.int .i64) 3 w36z w.heap.size (fun _=>True) v24z t851):=⟨h0_⟩
        have BK28z:Aside0 (w36z.heap[gb27z]? = some (.cells #[.bool false,.slice none 0 0,.int .i64 0] 30 (0,0))):=⟨h3_⟩
        have GW29z:Aside0 (w.heap.size<=gb27z):=⟨h4_⟩
        have GE30z:Aside0 (w.heap.size<=gb27z):=⟨h5_⟩
        have NB31z:Aside0 (gb0z ≠ gb27z):=⟨h6_⟩
        have NB32z:Aside0 (gb27z ≠ gb0z):=⟨h7_⟩
        have NB33z:Aside0 (gb5z ≠ gb27z):=⟨h8_⟩
        have NB34z:Aside0 (gb27z ≠ gb5z):=⟨h9_⟩
        replace BK2z:Aside0 (w36z.heap[gb0z]? = some (.cells #[.bool a0_0,.slice A0_1 l0_1.length c0_1,.int .i64 a0_2] 24 (0,0))):=⟨h1_⟩
        replace BK7z:Aside0 (w36z.heap[gb5z]? = some (.cells #[.bool a1_0,.slice A1_1 l1_1.length c1_1,.int .i64 a1_2] 24 (0,0))):=⟨h2_⟩
        replace HB:Aside0 (Below w.heap.size w w36z):=⟨h10_⟩
        clear h0_ h1_ h2_ h3_ h4_ h5_ h6_ h7_ h8_ h9_ h10_
        have hHeld:w36z.cell? ⟨gb0z,0,none⟩=some (.bool a0_0)/\w36z.cell? ⟨gb0z,1,none⟩=some (.slice A0_1 l0_1.length c0_1)/\w36z.cell? ⟨gb0z,2,none⟩=some (.int .i64 a0_2)/\w36z.cell? ⟨gb5z,0,none⟩=some (.bool a1_0)/\w36z.cell? ⟨gb5z,1,none⟩=some (.slice A1_1 l1_1.length c1_1)/\w36z.cell? ⟨gb5z,2,none⟩=some (.int .i64 a1_2):=hS_
        refine norm_ (a':=?_) ?_ ?_
        rotate_left
        ·simp only [putAll,Act.put,List.setIfInBounds_toArray,List.set_cons_zero,List.set_cons_succ]
         rfl
        refine one_ (i:=3) (N:=some 9) #[true,true,true,true,false,false,true,false] rfl rfl (Zbx HT_.out (by kernel_rfl)) (by decide) (fun K hK=>?_)
        refine goes_ Tryz.func18 (by kernel_rfl) rfl #[.agg #[.bool a1_0,.slice A1_1 l1_1.length c1_1,.int .i64 a1_2]] (by rfl) rfl rfl pA ?_
        with_reducible refine (Zp.calls k a1_0 _ _ l1_1 a1_2 t855 t856 t859 _ ?side1 ?side2 A4.out).mono ?_
        (case side1=>refine cp ?_;exact (Kd.Zh HR1_1.out HB.out))
        (case side2=>exact HC1_1.out)
        rintro e w39z ⟨v37z,rfl,ho25z,hb⟩
        refine ⟨_,rfl,?_⟩
        have HO38z:=am (Kd.Zq (Kd.Zv ho25z (Kd.R_lt (Kd.Za HO26z.out pl))) (Zb pB))
        replace HO26z:=reR HO26z ho25z hb
        replace BK2z:=bb BK2z hb
        replace BK7z:=bb BK7z hb
        replace BK28z:=bb BK28z hb
        replace HB:=bS hb
        refine hK.out _ _ ⟨k0 BK2z 0,k0 BK2z 1,k0 BK2z 2,k0 BK7z 0,k0 BK7z 1,k0 BK7z 2⟩ (fun hHeld=>?_)
        clear hK K
        refine norm_ (a':=?_) ?_ ?_
        rotate_left
        ·show Act.put _ (some 9) _=_
         exact pP
        exact norm_ pT (hJ1_3_6 (v24z,v37z,gb27z) _ ⟨hHeld,(Kd.Za (Kd.Zi HO26z.out (fun _ hk=>hk.2)) pl),(Kd.Za (Kd.Zi HO38z.out (fun _ hk=>hk.2)) pl),(Zc BK2z.out pl),(Zc BK7z.out pl),(Zc BK28z.out pl),GW29z.out,GE30z.out,NB31z.out,NB32z.out,NB33z.out,NB34z.out,pB⟩)
      ·skip
       rintro ⟨v24z,v37z⟩ w36z ⟨hS_,h0_,h1_,h2_,h3_,h4_⟩
       have HO26z:Aside0 (Kd.R (Kd.int .i64) 3 w36z w.heap.size (fun k_=>some k_ ≠ (v37z:Value).ownBlock) v24z t851):=⟨h0_⟩
       have HO38z:Aside0 (Kd.R (Kd.int .i64) 3 w36z w.heap.size (fun k_=>some k_ ≠ (v24z:Value).ownBlock) v37z t856):=⟨h1_⟩
       replace BK2z:Aside0 (w36z.heap[gb0z]? = some (.cells #[.bool a0_0,.slice A0_1 l0_1.length c0_1,.int .i64 a0_2] 24 (0,0))):=⟨h2_⟩
       replace BK7z:Aside0 (w36z.heap[gb5z]? = some (.cells #[.bool a1_0,.slice A1_1 l1_1.length c1_1,.int .i64 a1_2] 24 (0,0))):=⟨h3_⟩
       replace HB:Aside0 (Below w.heap.size w w36z):=⟨h4_⟩
       clear h0_ h1_ h2_ h3_ h4_
       have hHeld:w36z.cell? ⟨gb0z,0,none⟩=some (.bool a0_0)/\w36z.cell? ⟨gb0z,1,none⟩=some (.slice A0_1 l0_1.length c0_1)/\w36z.cell? ⟨gb0z,2,none⟩=some (.int .i64 a0_2)/\w36z.cell? ⟨gb5z,0,none⟩=some (.bool a1_0)/\w36z.cell? ⟨gb5z,1,none⟩=some (.slice A1_1 l1_1.length c1_1)/\w36z.cell? ⟨gb5z,2,none⟩=some (.int .i64 a1_2):=hS_
       obtain ⟨Ao40z,co41z,eo42z⟩:=Kd.Zm HO38z.out
       (first|subst eo42z|(injection eo42z with f1_ f2_ f3_;have f4_:=f1_.symm;have f5_:=f3_.symm;clear f1_ f2_ f3_;subst f4_;subst f5_))
       refine norm_ (a':=?_) ?_ ?_
       rotate_left
       ·simp only [putAll,Act.put,List.setIfInBounds_toArray,List.set_cons_zero,List.set_cons_succ]
        rfl
       refine two_ (i:=4) (j:=6) (Ni:=some 10) (Nj:=some 5) #[true,true,true,true,true,false,false,false] #[true,true,true,true,false,false,true,false] rfl rfl rfl rfl (Zml HT_.out (by kernel_rfl)) (by decide) (by decide) (fun K hK=>?_) (fun K hK=>?_)
       ·skip
        refine goes_ Tryz.func78 (by kernel_rfl) rfl #[.agg #[.bool t855,.slice Ao40z t856.length co41z,.int .i64 t859]] (by rfl) rfl rfl pA ?_
        with_reducible refine (Zbk.calls t855 (fun k_=>some k_=(.slice Ao40z t856.length co41z:Value).ownBlock) (.slice Ao40z t856.length co41z) t856 t859 t860 t861 t864 w _ ?side1 ?side2 A5.out).mono ?_
        (case side1=>exact pB)
        (case side2=>exact Kd.Zbr rfl HO38z.out)
        rintro e w43z ⟨v44z,rfl,ho25z,hb,hkp⟩
        refine ⟨_,rfl,?_⟩
        have HO45z:=am (Kd.Zi (ok':=fun k_=>some k_ ≠ (v24z:Value).ownBlock) ho25z (fun k_ hk_=>Or.elim hk_ (fun hs_=>fun e_=>(((HO26z.out).1 k_ e_.symm)) hs_) (fun hn_=>(Kd.fresh' (Kd.R_lt (Kd.Za HO26z.out pl)) k_ hn_))))
        replace BK2z:=am (Za2 (Zc BK2z.out pl) hkp (fun e_=>Kd.R_ne HO38z.out BK2z.out (by decide) e_))
        replace BK7z:=am (Za2 (Zc BK7z.out pl) hkp (fun e_=>Kd.R_ne HO38z.out BK7z.out (by decide) e_))
        replace HO26z:=am (Kd.Zi (ok':=fun k_=>some k_ ≠ (v44z:Value).ownBlock) (Kd.Zcl (HO26z.out) hkp (fun k_ hk_ hs_=>(hk_) hs_)) (fun k_ hk_=>fun e_=>Or.elim (ho25z.1 k_ e_.symm) (fun hs_=>hk_.2.1 hs_) (fun hn_=>Nat.not_le.2 hk_.2.2 hn_)))
        replace HB:=am hb
        clear HO38z
        refine hK.out _ _ ⟨k0 BK2z 0,k0 BK2z 1,k0 BK2z 2,k0 BK7z 0,k0 BK7z 1,k0 BK7z 2⟩ (fun hHeld=>?_)
        clear hK K
        refine norm_ (a':=?_) ?_ ?_
        rotate_left
        ·show Act.put _ (some 10) _=_
         exact pP
        exact norm_ pT (hJ1_3_4 (v24z,.slice Ao40z t856.length co41z,v44z) _ ⟨hHeld,(Kd.Za HO26z.out pl),(Kd.Za HO45z.out pl),(Zc BK2z.out pl),(Zc BK7z.out pl),pB⟩)
       ·skip
        refine Zfi ?hg (N:=5) ?hd (cs:=#[.bool false,.slice none 0 0,.int .i64 0]) (t:=30) ?hr ?_;(case hd=>rfl);(case hg=>rfl);(case hr=>first|(go_simp;done)|(go_simp;rfl))
        intro gb27z hg w39z hbox hb
        have BK28z:=am hbox
        have GW29z:=gW hg
        have GE30z:=gW hg
        have NB31z:=nL hg BK2z
        have NB32z:=nG hg BK2z
        have NB33z:=nL hg BK7z
        have NB34z:=nG hg BK7z
        replace HO26z:=rbl HO26z hb
        replace HO38z:=rbl HO38z hb
        replace BK2z:=bb BK2z hb
        replace BK7z:=bb BK7z hb
        replace HB:=bS hb
        clear hb hbox hg
        refine hK.out _ _ ⟨k0 BK2z 0,k0 BK2z 1,k0 BK2z 2,k0 BK7z 0,k0 BK7z 1,k0 BK7z 2⟩ (fun hHeld=>?_)
        clear hK K
        refine norm_ (a':=?_) ?_ ?_
        rotate_left
        ·show Act.put _ (some 5) _=_
         exact pP
        exact norm_ pT (hJ1_3_6 (v24z,(.slice Ao40z t856.length co41z:Value),gb27z) _ ⟨hHeld,(Kd.Za HO26z.out pl),(Kd.Za HO38z.out pl),(Zc BK2z.out pl),(Zc BK7z.out pl),(Zc BK28z.out pl),GW29z.out,GE30z.out,NB31z.out,NB32z.out,NB33z.out,NB34z.out,pB⟩)
     ·skip
      rintro ⟨v24z,v37z,gb27z⟩ w39z ⟨hS_,h0_,h1_,h2_,h3_,h4_,h5_,h6_,h7_,h8_,h9_,h10_,h11_⟩
      have HO26z:Aside0 (Kd.R (Kd.int .i64) 3 w39z w.heap.size (fun k_=>some k_ ≠ (v37z:Value).ownBlock) v24z t851):=⟨h0_⟩
      have HO38z:Aside0 (Kd.R (Kd.int .i64) 3 w39z w.heap.size (fun k_=>some k_ ≠ (v24z:Value).ownBlock) v37z t856):=⟨h1_⟩
      have BK28z:Aside0 (w39z.heap[gb27z]? = some (.cells #[.bool false,.slice none 0 0,.int .i64 0] 30 (0,0))):=⟨h4_⟩
      have GW29z:Aside0 (w.heap.size<=gb27z):=⟨h5_⟩
      have GE30z:Aside0 (w.heap.size<=gb27z):=⟨h6_⟩
      have NB31z:Aside0 (gb0z ≠ gb27z):=⟨h7_⟩
      have NB32z:Aside0 (gb27z ≠ gb0z):=⟨h8_⟩
      have NB33z:Aside0 (gb5z ≠ gb27z):=⟨h9_⟩
      have NB34z:Aside0 (gb27z ≠ gb5z):=⟨h10_⟩
      replace BK2z:Aside0 (w39z.heap[gb0z]? = some (.cells #[.bool a0_0,.slice A0_1 l0_1.length c0_1,.int .i64 a0_2] 24 (0,0))):=⟨h2_⟩
      replace BK7z:Aside0 (w39z.heap[gb5z]? = some (.cells #[.bool a1_0,.slice A1_1 l1_1.length c1_1,.int .i64 a1_2] 24 (0,0))):=⟨h3_⟩
      replace HB:Aside0 (Below w.heap.size w w39z):=⟨h11_⟩
      clear h0_ h1_ h2_ h3_ h4_ h5_ h6_ h7_ h8_ h9_ h10_ h11_
      have hHeld:w39z.cell? ⟨gb0z,0,none⟩=some (.bool a0_0)/\w39z.cell? ⟨gb0z,1,none⟩=some (.slice A0_1 l0_1.length c0_1)/\w39z.cell? ⟨gb0z,2,none⟩=some (.int .i64 a0_2)/\w39z.cell? ⟨gb5z,0,none⟩=some (.bool a1_0)/\w39z.cell? ⟨gb5z,1,none⟩=some (.slice A1_1 l1_1.length c1_1)/\w39z.cell? ⟨gb5z,2,none⟩=some (.int .i64 a1_2):=hS_
      obtain ⟨Ao46z,co47z,eo48z⟩:=Kd.Zm HO38z.out
      (first|subst eo48z|(injection eo48z with f1_ f2_ f3_;have f4_:=f1_.symm;have f5_:=f3_.symm;clear f1_ f2_ f3_;subst f4_;subst f5_))
      refine norm_ (a':=?_) ?_ ?_
      rotate_left
      ·simp only [putAll,Act.put,List.setIfInBounds_toArray,List.set_cons_zero,List.set_cons_succ]
       rfl
      refine one_ (i:=4) (N:=some 10) #[true,true,true,true,true,false,true,false] rfl rfl (Zbx HT_.out (by kernel_rfl)) (by decide) (fun K hK=>?_)
      refine goes_ Tryz.func78 (by kernel_rfl) rfl #[.agg #[.bool t855,.slice Ao46z t856.length co47z,.int .i64 t859]] (by rfl) rfl rfl pA ?_
      with_reducible refine (Zbk.calls t855 (fun k_=>some k_=(.slice Ao46z t856.length co47z:Value).ownBlock) (.slice Ao46z t856.length co47z) t856 t859 t860 t861 t864 w _ ?side1 ?side2 A5.out).mono ?_
      (case side1=>exact pB)
      (case side2=>exact Kd.Zbr rfl HO38z.out)
      rintro e w49z ⟨v44z,rfl,ho25z,hb,hkp⟩
      refine ⟨_,rfl,?_⟩
      have HO45z:=am (Kd.Zi (ok':=fun k_=>some k_ ≠ (v24z:Value).ownBlock) ho25z (fun k_ hk_=>Or.elim hk_ (fun hs_=>fun e_=>(((HO26z.out).1 k_ e_.symm)) hs_) (fun hn_=>(Kd.fresh' (Kd.R_lt (Kd.Za HO26z.out pl)) k_ hn_))))
      replace BK2z:=am (Za2 (Zc BK2z.out pl) hkp (fun e_=>Kd.R_ne HO38z.out BK2z.out (by decide) e_))
      replace BK7z:=am (Za2 (Zc BK7z.out pl) hkp (fun e_=>Kd.R_ne HO38z.out BK7z.out (by decide) e_))
      replace HO26z:=am (Kd.Zi (ok':=fun k_=>some k_ ≠ (v44z:Value).ownBlock) (Kd.Zcl (HO26z.out) hkp (fun k_ hk_ hs_=>(hk_) hs_)) (fun k_ hk_=>fun e_=>Or.elim (ho25z.1 k_ e_.symm) (fun hs_=>hk_.2.1 hs_) (fun hn_=>Nat.not_le.2 hk_.2.2 hn_)))
      replace BK28z:=am (Za2 (Zc BK28z.out pl) hkp (fun e_=>Kd.R_ne HO38z.out BK28z.out (by decide) e_))
      replace HB:=am hb
      clear HO38z
      refine hK.out _ _ ⟨k0 BK2z 0,k0 BK2z 1,k0 BK2z 2,k0 BK7z 0,k0 BK7z 1,k0 BK7z 2⟩ (fun hHeld=>?_)
      clear hK K
      refine norm_ (a':=?_) ?_ ?_
      rotate_left
      ·show Act.put _ (some 10) _=_
       exact pP
      exact norm_ pT (hJ1_3_4_6 (v24z,.slice Ao46z t856.length co47z,v44z,gb27z) _ ⟨hHeld,(Kd.Za HO26z.out pl),(Kd.Za HO45z.out pl),(Zc BK2z.out pl),(Zc BK7z.out pl),(Zc BK28z.out pl),GW29z.out,GE30z.out,NB31z.out,NB32z.out,NB33z.out,NB34z.out,pB⟩)
    ·skip
     rintro ⟨v24z,v37z,v44z⟩ w43z ⟨hS_,h0_,h1_,h2_,h3_,h4_⟩
     have HO26z:Aside0 (Kd.R (Kd.int .i64) 3 w43z w.heap.size (fun k_=>some k_ ≠ (v44z:Value).ownBlock) v24z t851):=⟨h0_⟩
     have HO45z:Aside0 (Kd.R (Kd.int .i64) 3 w43z w.heap.size (fun k_=>some k_ ≠ (v24z:Value).ownBlock) v44z t861):=⟨h1_⟩
     replace BK2z:Aside0 (w43z.heap[gb0z]? = some (.cells #[.bool a0_0,.slice A0_1 l0_1.length c0_1,.int .i64 a0_2] 24 (0,0))):=⟨h2_⟩
     replace BK7z:Aside0 (w43z.heap[gb5z]? = some (.cells #[.bool a1_0,.slice A1_1 l1_1.length c1_1,.int .i64 a1_2] 24 (0,0))):=⟨h3_⟩
     replace HB:Aside0 (Below w.heap.size w w43z):=⟨h4_⟩
     clear h0_ h1_ h2_ h3_ h4_
     have hHeld:w43z.cell? ⟨gb0z,0,none⟩=some (.bool a0_0)/\w43z.cell? ⟨gb0z,1,none⟩=some (.slice A0_1 l0_1.length c0_1)/\w43z.cell? ⟨gb0z,2,none⟩=some (.int .i64 a0_2)/\w43z.cell? ⟨gb5z,0,none⟩=some (.bool a1_0)/\w43z.cell? ⟨gb5z,1,none⟩=some (.slice A1_1 l1_1.length c1_1)/\w43z.cell? ⟨gb5z,2,none⟩=some (.int .i64 a1_2):=hS_
     obtain ⟨Ao50z,co51z,eo52z⟩:=Kd.Zm HO26z.out
     (first|subst eo52z|(injection eo52z with f1_ f2_ f3_;have f4_:=f1_.symm;have f5_:=f3_.symm;clear f1_ f2_ f3_;subst f4_;subst f5_))
     obtain ⟨Ao53z,co54z,eo55z⟩:=Kd.Zm HO45z.out
     (first|subst eo55z|(injection eo55z with f1_ f2_ f3_;have f4_:=f1_.symm;have f5_:=f3_.symm;clear f1_ f2_ f3_;subst f4_;subst f5_))
     refine norm_ (a':=?_) ?_ ?_
     rotate_left
     ·simp only [putAll,Act.put,List.setIfInBounds_toArray,List.set_cons_zero,List.set_cons_succ]
      rfl
     refine two_ (i:=5) (j:=6) (Ni:=some 11) (Nj:=some 5) #[true,true,true,true,true,true,false,false] #[true,true,true,true,true,false,true,false] rfl rfl rfl rfl (Zml HT_.out (by kernel_rfl)) (by decide) (by decide) (fun K hK=>?_) (fun K hK=>?_)
     ·skip
      refine goes_ Tryz.func77 (by kernel_rfl) rfl #[.agg #[.bool t850,.slice Ao50z t851.length co51z,.int .i64 t854],.agg #[.bool t860,.slice Ao53z t861.length co54z,.int .i64 t864]] (by rfl) rfl rfl pA ?_
      first|(have q_:((t866.length:Int) != 0)=false:=c7b1;with_reducible refine (Zaf.calls k t850 _ _ t851 t854 t860 _ _ t861 t864 t865 t866 t869 _ ?side1 ?side2 ?side3 ?side4 A6.out).mono ?_)|(have q_:Aside0 (_=some (true,_,_)):=A6;have q_:¬ (t866=[]):=c7b2;with_reducible refine (Zaf.calls k t850 _ _ t851 t854 t860 _ _ t861 t864 true t866 t869 _ ?side1 ?side2 ?side3 ?side4 A6.out).mono ?_)|(have q_:Aside0 (_=some (false,_,_)):=A6;have q_:¬ (t866=[]):=c7b2;with_reducible refine (Zaf.calls k t850 _ _ t851 t854 t860 _ _ t861 t864 false t866 t869 _ ?side1 ?side2 ?side3 ?side4 A6.out).mono ?_)
      (case side1=>exact Kd.Zh (Kd.Zd HO26z.out).2.2 pl)
      (case side2=>exact (Kd.Zd HO26z.out).2.1)
      (case side3=>exact Kd.Zh (Kd.Zd HO45z.out).2.2 pl)
      (case side4=>exact (Kd.Zd HO45z.out).2.1)
      rintro e w56z ⟨v57z,rfl,ho25z,hb⟩
      refine ⟨_,rfl,?_⟩
      have HO58z:=am (Kd.Zq (Kd.Zv (Kd.Zv ho25z (Kd.R_lt (Kd.Za HO26z.out pl))) (Kd.R_lt (Kd.Za HO45z.out pl))) (Zb pB))
      replace HO26z:=reR HO26z ho25z hb
      replace HO45z:=reR HO45z ho25z hb
      replace BK2z:=bb BK2z hb
      replace BK7z:=bb BK7z hb
      replace HB:=bS hb
      refine hK.out _ _ ⟨k0 BK2z 0,k0 BK2z 1,k0 BK2z 2,k0 BK7z 0,k0 BK7z 1,k0 BK7z 2⟩ (fun hHeld=>?_)
      clear hK K
      refine norm_ (a':=?_) ?_ ?_
      rotate_left
      ·show Act.put _ (some 11) _=_
       exact pP
      exact norm_ pT (hJ1_3_4_5 (.slice Ao50z t851.length co51z,v37z,.slice Ao53z t861.length co54z,v57z) _ ⟨hHeld,(Kd.Za HO26z.out pl),(Kd.Za HO45z.out pl),(Kd.Za (Kd.Zi HO58z.out (fun _ hk=>⟨hk.1.2,hk.2⟩)) pl),(Zc BK2z.out pl),(Zc BK7z.out pl),pB⟩)
     ·skip
      refine Zfi ?hg (N:=5) ?hd (cs:=#[.bool false,.slice none 0 0,.int .i64 0]) (t:=30) ?hr ?_;(case hd=>rfl);(case hg=>rfl);(case hr=>first|(go_simp;done)|(go_simp;rfl))
      intro gb27z hg w49z hbox hb
      have BK28z:=am hbox
      have GW29z:=gW hg
      have GE30z:=gW hg
      have NB31z:=nL hg BK2z
      have NB32z:=nG hg BK2z
      have NB33z:=nL hg BK7z
      have NB34z:=nG hg BK7z
      replace HO26z:=rbl HO26z hb
      replace HO45z:=rbl HO45z hb
      replace BK2z:=bb BK2z hb
      replace BK7z:=bb BK7z hb
      replace HB:=bS hb
      clear hb hbox hg
      refine hK.out _ _ ⟨k0 BK2z 0,k0 BK2z 1,k0 BK2z 2,k0 BK7z 0,k0 BK7z 1,k0 BK7z 2⟩ (fun hHeld=>?_)
      clear hK K
      refine norm_ (a':=?_) ?_ ?_
      rotate_left
      ·show Act.put _ (some 5) _=_
       exact pP
      exact norm_ pT (hJ1_3_4_6 ((.slice Ao50z t851.length co51z:Value),v37z,(.slice Ao53z t861.length co54z:Value),gb27z) _ ⟨hHeld,(Kd.Za HO26z.out pl),(Kd.Za HO45z.out pl),(Zc BK2z.out pl),(Zc BK7z.out pl),(Zc BK28z.out pl),GW29z.out,GE30z.out,NB31z.out,NB32z.out,NB33z.out,NB34z.out,pB⟩)
   ·skip
    rintro ⟨v24z,v37z,v44z,gb27z⟩ w49z ⟨hS_,h0_,h1_,h2_,h3_,h4_,h5_,h6_,h7_,h8_,h9_,h10_,h11_⟩
    have HO26z:Aside0 (Kd.R (Kd.int .i64) 3 w49z w.heap.size (fun k_=>some k_ ≠ (v44z:Value).ownBlock) v24z t851):=⟨h0_⟩
    have HO45z:Aside0 (Kd.R (Kd.int .i64) 3 w49z w.heap.size (fun k_=>some k_ ≠ (v24z:Value).ownBlock) v44z t861):=⟨h1_⟩
    have BK28z:Aside0 (w49z.heap[gb27z]? = some (.cells #[.bool false,.slice none 0 0,.int .i64 0] 30 (0,0))):=⟨h4_⟩
    have GW29z:Aside0 (w.heap.size<=gb27z):=⟨h5_⟩
    have GE30z:Aside0 (w.heap.size<=gb27z):=⟨h6_⟩
    have NB31z:Aside0 (gb0z ≠ gb27z):=⟨h7_⟩
    have NB32z:Aside0 (gb27z ≠ gb0z):=⟨h8_⟩
    have NB33z:Aside0 (gb5z ≠ gb27z):=⟨h9_⟩
    have NB34z:Aside0 (gb27z ≠ gb5z):=⟨h10_⟩
    replace BK2z:Aside0 (w49z.heap[gb0z]? = some (.cells #[.bool a0_0,.slice A0_1 l0_1.length c0_1,.int .i64 a0_2] 24 (0,0))):=⟨h2_⟩
    replace BK7z:Aside0 (w49z.heap[gb5z]? = some (.cells #[.bool a1_0,.slice A1_1 l1_1.length c1_1,.int .i64 a1_2] 24 (0,0))):=⟨h3_⟩
    replace HB:Aside0 (Below w.heap.size w w49z):=⟨h11_⟩
    clear h0_ h1_ h2_ h3_ h4_ h5_ h6_ h7_ h8_ h9_ h10_ h11_
    have hHeld:w49z.cell? ⟨gb0z,0,none⟩=some (.bool a0_0)/\w49z.cell? ⟨gb0z,1,none⟩=some (.slice A0_1 l0_1.length c0_1)/\w49z.cell? ⟨gb0z,2,none⟩=some (.int .i64 a0_2)/\w49z.cell? ⟨gb5z,0,none⟩=some (.bool a1_0)/\w49z.cell? ⟨gb5z,1,none⟩=some (.slice A1_1 l1_1.length c1_1)/\w49z.cell? ⟨gb5z,2,none⟩=some (.int .i64 a1_2):=hS_
    obtain ⟨Ao53z,co54z,eo55z⟩:=Kd.Zm HO26z.out
    (first|subst eo55z|(injection eo55z with f1_ f2_ f3_;have f4_:=f1_.symm;have f5_:=f3_.symm;clear f1_ f2_ f3_;subst f4_;subst f5_))
    obtain ⟨Ao59z,co60z,eo61z⟩:=Kd.Zm HO45z.out
    (first|subst eo61z|(injection eo61z with f1_ f2_ f3_;have f4_:=f1_.symm;have f5_:=f3_.symm;clear f1_ f2_ f3_;subst f4_;subst f5_))
    refine norm_ (a':=?_) ?_ ?_
    rotate_left
    ·simp only [putAll,Act.put,List.setIfInBounds_toArray,List.set_cons_zero,List.set_cons_succ]
     rfl
    refine one_ (i:=5) (N:=some 11) #[true,true,true,true,true,true,true,false] rfl rfl (Zbx HT_.out (by kernel_rfl)) (by decide) (fun K hK=>?_)
    refine goes_ Tryz.func77 (by kernel_rfl) rfl #[.agg #[.bool t850,.slice Ao53z t851.length co54z,.int .i64 t854],.agg #[.bool t860,.slice Ao59z t861.length co60z,.int .i64 t864]] (by rfl) rfl rfl pA ?_
    first|(have q_:((t866.length:Int) != 0)=false:=c7b1;with_reducible refine (Zaf.calls k t850 _ _ t851 t854 t860 _ _ t861 t864 t865 t866 t869 _ ?side1 ?side2 ?side3 ?side4 A6.out).mono ?_)|(have q_:Aside0 (_=some (true,_,_)):=A6;have q_:¬ (t866=[]):=c7b2;with_reducible refine (Zaf.calls k t850 _ _ t851 t854 t860 _ _ t861 t864 true t866 t869 _ ?side1 ?side2 ?side3 ?side4 A6.out).mono ?_)|(have q_:Aside0 (_=some (false,_,_)):=A6;have q_:¬ (t866=[]):=c7b2;with_reducible refine (Zaf.calls k t850 _ _ t851 t854 t860 _ _ t861 t864 false t866 t869 _ ?side1 ?side2 ?side3 ?side4 A6.out).mono ?_)
    (case side1=>exact Kd.Zh (Kd.Zd HO26z.out).2.2 pl)
    (case side2=>exact (Kd.Zd HO26z.out).2.1)
    (case side3=>exact Kd.Zh (Kd.Zd HO45z.out).2.2 pl)
    (case side4=>exact (Kd.Zd HO45z.out).2.1)
    rintro e w62z ⟨v57z,rfl,ho25z,hb⟩
    refine ⟨_,rfl,?_⟩
    have HO58z:=am (Kd.Zq (Kd.Zv (Kd.Zv ho25z (Kd.R_lt (Kd.Za HO26z.out pl))) (Kd.R_lt (Kd.Za HO45z.out pl))) (Zb pB))
    replace HO26z:=reR HO26z ho25z hb
    replace HO45z:=reR HO45z ho25z hb
    replace BK2z:=bb BK2z hb
    replace BK7z:=bb BK7z hb
    replace BK28z:=bb BK28z hb
    replace HB:=bS hb
    refine hK.out _ _ ⟨k0 BK2z 0,k0 BK2z 1,k0 BK2z 2,k0 BK7z 0,k0 BK7z 1,k0 BK7z 2⟩ (fun hHeld=>?_)
    clear hK K
    refine norm_ (a':=?_) ?_ ?_
    rotate_left
    ·show Act.put _ (some 11) _=_
     exact pP
    exact norm_ pT (hJ1_3_4_5_6 (.slice Ao53z t851.length co54z,v37z,.slice Ao59z t861.length co60z,v57z,gb27z) _ ⟨hHeld,(Kd.Za HO26z.out pl),(Kd.Za HO45z.out pl),(Kd.Za (Kd.Zi HO58z.out (fun _ hk=>⟨hk.1.2,hk.2⟩)) pl),(Zc BK2z.out pl),(Zc BK7z.out pl),(Zc BK28z.out pl),GW29z.out,GE30z.out,NB31z.out,NB32z.out,NB33z.out,NB34z.out,pB⟩)
  ·skip
   rintro ⟨v24z,v37z,v44z,v57z⟩ w56z ⟨hS_,h0_,h1_,h2_,h3_,h4_,h5_⟩
   have HO26z:Aside0 (Kd.R (Kd.int .i64) 3 w56z w.heap.size (fun k_=>some k_ ≠ (v44z:Value).ownBlock/\some k_ ≠ (v57z:Value).ownBlock) v24z t851):=⟨h0_⟩
   have HO45z:Aside0 (Kd.R (Kd.int .i64) 3 w56z w.heap.size (fun k_=>some k_ ≠ (v24z:Value).ownBlock/\some k_ ≠ (v57z:Value).ownBlock) v44z t861):=⟨h1_⟩
   have HO58z:Aside0 (Kd.R (Kd.int .i64) 3 w56z w.heap.size (fun k_=>some k_ ≠ (v24z:Value).ownBlock/\some k_ ≠ (v44z:Value).ownBlock) v57z t866):=⟨h2_⟩
   replace BK2z:Aside0 (w56z.heap[gb0z]? = some (.cells #[.bool a0_0,.slice A0_1 l0_1.length c0_1,.int .i64 a0_2] 24 (0,0))):=⟨h3_⟩
   replace BK7z:Aside0 (w56z.heap[gb5z]? = some (.cells #[.bool a1_0,.slice A1_1 l1_1.length c1_1,.int .i64 a1_2] 24 (0,0))):=⟨h4_⟩
   replace HB:Aside0 (Below w.heap.size w w56z):=⟨h5_⟩
   clear h0_ h1_ h2_ h3_ h4_ h5_
   have hHeld:w56z.cell? ⟨gb0z,0,none⟩=some (.bool a0_0)/\w56z.cell? ⟨gb0z,1,none⟩=some (.slice A0_1 l0_1.length c0_1)/\w56z.cell? ⟨gb0z,2,none⟩=some (.int .i64 a0_2)/\w56z.cell? ⟨gb5z,0,none⟩=some (.bool a1_0)/\w56z.cell? ⟨gb5z,1,none⟩=some (.slice A1_1 l1_1.length c1_1)/\w56z.cell? ⟨gb5z,2,none⟩=some (.int .i64 a1_2):=hS_
   refine norm_ (a':=?_) ?_ ?_
   rotate_left
   ·simp only [putAll,Act.put,List.setIfInBounds_toArray,List.set_cons_zero,List.set_cons_succ]
    rfl
   refine one_ (i:=6) (N:=some 5) #[true,true,true,true,true,true,true,false] rfl rfl (Zbx HT_.out (by kernel_rfl)) (by decide) (fun K hK=>?_)
   refine Zfi ?hg (N:=5) ?hd (cs:=#[.bool false,.slice none 0 0,.int .i64 0]) (t:=30) ?hr ?_;(case hd=>rfl);(case hg=>rfl);(case hr=>first|(go_simp;done)|(go_simp;rfl))
   intro gb27z hg w62z hbox hb
   have BK28z:=am hbox
   have GW29z:=gW hg
   have GE30z:=gW hg
   have NB31z:=nL hg BK2z
   have NB32z:=nG hg BK2z
   have NB33z:=nL hg BK7z
   have NB34z:=nG hg BK7z
   replace HO26z:=rbl HO26z hb
   replace HO45z:=rbl HO45z hb
   replace HO58z:=rbl HO58z hb
   replace BK2z:=bb BK2z hb
   replace BK7z:=bb BK7z hb
   replace HB:=bS hb
   clear hb hbox hg
   refine hK.out _ _ ⟨k0 BK2z 0,k0 BK2z 1,k0 BK2z 2,k0 BK7z 0,k0 BK7z 1,k0 BK7z 2⟩ (fun hHeld=>?_)
   clear hK K
   refine norm_ (a':=?_) ?_ ?_
   rotate_left
   ·show Act.put _ (some 5) _=_
    exact pP
   exact norm_ pT (hJ1_3_4_5_6 (v24z,v37z,v44z,v57z,gb27z) _ ⟨hHeld,(Kd.Za HO26z.out pl),(Kd.Za HO45z.out pl),(Kd.Za HO58z.out pl),(Zc BK2z.out pl),(Zc BK7z.out pl),(Zc BK28z.out pl),GW29z.out,GE30z.out,NB31z.out,NB32z.out,NB33z.out,NB34z.out,pB⟩)
 rintro ⟨v24z,v37z,v44z,v57z,gb27z⟩ w62z ⟨hS_,h0_,h1_,h2_,h3_,h4_,h5_,h6_,h7_,h8_,h9_,h10_,h11_,h12_⟩
 have HO26z:Aside0 (Kd.R (Kd.int .i64) 3 w62z w.heap.size (fun k_=>some k_ ≠ (v44z:Value).ownBlock/\some k_ ≠ (v57z:Value).ownBlock) v24z t851):=⟨h0_⟩
 have HO45z:Aside0 (Kd.R (Kd.int .i64) 3 w62z w.heap.size (fun k_=>some k_ ≠ (v24z:Value).ownBlock/\some k_ ≠ (v57z:Value).ownBlock) v44z t861):=⟨h1_⟩
 have HO58z:Aside0 (Kd.R (Kd.int .i64) 3 w62z w.heap.size (fun k_=>some k_ ≠ (v24z:Value).ownBlock/\some k_ ≠ (v44z:Value).ownBlock) v57z t866):=⟨h2_⟩
 have BK28z:Aside0 (w62z.heap[gb27z]? = some (.cells #[.bool false,.slice none 0 0,.int .i64 0] 30 (0,0))):=⟨h5_⟩
 have GW29z:Aside0 (w.heap.size<=gb27z):=⟨h6_⟩
 have GE30z:Aside0 (w.heap.size<=gb27z):=⟨h7_⟩
 have NB31z:Aside0 (gb0z ≠ gb27z):=⟨h8_⟩
 have NB32z:Aside0 (gb27z ≠ gb0z):=⟨h9_⟩
 have NB33z:Aside0 (gb5z ≠ gb27z):=⟨h10_⟩
 have NB34z:Aside0 (gb27z ≠ gb5z):=⟨h11_⟩
 replace BK2z:Aside0 (w62z.heap[gb0z]? = some (.cells #[.bool a0_0,.slice A0_1 l0_1.length c0_1,.int .i64 a0_2] 24 (0,0))):=⟨h3_⟩
 replace BK7z:Aside0 (w62z.heap[gb5z]? = some (.cells #[.bool a1_0,.slice A1_1 l1_1.length c1_1,.int .i64 a1_2] 24 (0,0))):=⟨h4_⟩
 replace HB:Aside0 (Below w.heap.size w w62z):=⟨h12_⟩
 clear h0_ h1_ h2_ h3_ h4_ h5_ h6_ h7_ h8_ h9_ h10_ h11_ h12_
 have hHeld:w62z.cell? ⟨gb0z,0,none⟩=some (.bool a0_0)/\w62z.cell? ⟨gb0z,1,none⟩=some (.slice A0_1 l0_1.length c0_1)/\w62z.cell? ⟨gb0z,2,none⟩=some (.int .i64 a0_2)/\w62z.cell? ⟨gb5z,0,none⟩=some (.bool a1_0)/\w62z.cell? ⟨gb5z,1,none⟩=some (.slice A1_1 l1_1.length c1_1)/\w62z.cell? ⟨gb5z,2,none⟩=some (.int .i64 a1_2):=hS_
 obtain ⟨Ao63z,co64z,eo65z⟩:=Kd.Zm HO58z.out
 (first|subst eo65z|(injection eo65z with f1_ f2_ f3_;have f4_:=f1_.symm;have f5_:=f3_.symm;clear f1_ f2_ f3_;subst f4_;subst f5_))
 refine norm_ (a':=?_) ?_ ?_
 rotate_left
 ·simp only [putAll,Act.put,List.setIfInBounds_toArray,List.set_cons_zero,List.set_cons_succ]
  rfl
 refine one_ (i:=7) (N:=none) #[true,true,true,true,true,true,true,true] rfl rfl (Zbx HT_.out (by kernel_rfl)) (by decide) (fun K hK=>?_)
 have hs66z:w62z.cell? ⟨gb27z,0,none⟩=some (.bool false):=k0 BK28z 0
 have hfs67z:=Zav BK28z.out 0
 have hns68z:=NB31z.out
 have hns69z:=NB33z.out
 have hms70z:=NB32z.out
 have hms71z:=NB34z.out
 have hs72z:w62z.cell? ⟨gb27z,1,none⟩=some (.slice none 0 0):=k0 BK28z 1
 have hfs73z:=Zav BK28z.out 1
 have hns74z:=NB31z.out
 have hns75z:=NB33z.out
 have hms76z:=NB32z.out
 have hms77z:=NB34z.out
 have hs78z:w62z.cell? ⟨gb27z,2,none⟩=some (.int .i64 0):=k0 BK28z 2
 have hfs79z:=Zav BK28z.out 2
 have hns80z:=NB31z.out
 have hns81z:=NB33z.out
 have hms82z:=NB32z.out
 have hms83z:=NB34z.out
 refine skip_ (w1:=?_) (by rfl) rfl ?_ ?_
 rotate_left
 ·go_simp
  rfl
 refine hK.out _ _ ⟨((cell_far (p:=⟨gb27z,_,none⟩) NB31z.out _).trans (((cell_far (p:=⟨gb27z,_,none⟩) NB31z.out _).trans (((cell_far (p:=⟨gb27z,_,none⟩) NB31z.out _).trans (hHeld.1)))))),((cell_far (p:=⟨gb27z,_,none⟩) NB31z.out _).trans (((cell_far (p:=⟨gb27z,_,none⟩) NB31z.out _).trans (((cell_far (p:=⟨gb27z,_,none⟩) NB31z.out _).trans (hHeld.2.1)))))),((cell_far (p:=⟨gb27z,_,none⟩) NB31z.out _).trans (((cell_far (p:=⟨gb27z,_,none⟩) NB31z.out _).trans (((cell_far (p:=⟨gb27z,_,none⟩) NB31z.out _).trans (hHeld.2.2.1)))))),((cell_far (p:=⟨gb27z,_,none⟩) NB33z.out _).trans (((cell_far (p:=⟨gb27z,_,none⟩) NB33z.out _).trans (((cell_far (p:=⟨gb27z,_,none⟩) NB33z.out _).trans (hHeld.2.2.2.1)))))),((cell_far (p:=⟨gb27z,_,none⟩) NB33z.out _).trans (((cell_far (p:=⟨gb27z,_,none⟩) NB33z.out _).trans (((cell_far (p:=⟨gb27z,_,none⟩) NB33z.out _).trans (hHeld.2.2.2.2.1)))))),((cell_far (p:=⟨gb27z,_,none⟩) NB33z.out _).trans (((cell_far (p:=⟨gb27z,_,none⟩) NB33z.out _).trans (((cell_far (p:=⟨gb27z,_,none⟩) NB33z.out _).trans (hHeld.2.2.2.2.2))))))⟩ (fun hHeld=>?_)
 clear hK K
 refine done_ (Zdl HT_.out (by kernel_rfl)) ?_
 have hnb84z:=NB32z.out
 have hnc85z:=NB31z.out
 have hnb86z:=NB34z.out
 have hnc87z:=NB33z.out
 obtain ⟨hcz88z,hcz89z,hcz90z,hfz91z,hfz92z,hfz93z⟩:=cEc BK28z.out
 try go_wp2
 go_ret
 exact ⟨pE,pB⟩):P:=h
theorem Zaj.calls (k:Nat) (a0_0:Bool) (A0_1:Option Addr) (c0_1:Nat) (l0_1:List Int) (a0_2:Int) (a1_0:Bool) (A1_1:Option Addr) (c1_1:Nat) (l1_1:List Int) (a1_2:Int) (r:Int) (w:World) (hr0_1:Kd.C (Kd.int .u32) w A0_1 l0_1.length l0_1) (hc0_1:l0_1.length<=c0_1) (hr1_1:Kd.C (Kd.int .u32) w A1_1 l1_1.length l1_1) (hc1_1:l1_1.length<=c1_1) (h:Zaj.f k a0_0 l0_1 a0_2 a1_0 l1_1 a1_2=some r) :
  Calls Tryz.prog 81 #[.agg #[.bool a0_0,.slice A0_1 l0_1.length c0_1,.int .i64 a0_2],.agg #[.bool a1_0,.slice A1_1 l1_1.length c1_1,.int .i64 a1_2]] w fun e w'=>e=.returned (.int .i64 r)/\Below w.heap.size w w':=by
 have hu24:=Tryz.underlying24
 have hu30:=Tryz.underlying30
 have HR0_1:=am hr0_1
 have HC0_1:=am hc0_1
 clear hr0_1 hc0_1
 have HR1_1:=am hr1_1
 have HC1_1:=am hc1_1
 clear hr1_1 hc1_1
 have HB:=am (Below.refl w.heap.size w)
 have H:((Zp.f k a0_0 l0_1 a0_2).bind fun bt850=>((Zp.f k a1_0 l1_1 a1_2).bind fun bt855=>((Zbk.f bt855.1 bt855.2.1 bt855.2.2).bind fun bt860=>((Zaf.f k bt850.1 bt850.2.1 bt850.2.2 bt860.1 bt860.2.1 bt860.2.2).bind fun bt865=>(if (bt865.2.1.length:Int)=0 then (some 0) else (if bt865.1=true then (some (-1)) else (some 1)))))))=some r:=h
 clear h
 obtain ⟨⟨t850,t851,t854⟩,A3,H⟩:=ob H;(try dsimp only at H)
 obtain ⟨⟨t855,t856,t859⟩,A4,H⟩:=ob H;(try dsimp only at H)
 obtain ⟨⟨t860,t861,t864⟩,A5,H⟩:=ob H;(try dsimp only at H)
 obtain ⟨⟨t865,t866,t869⟩,A6,H⟩:=ob H;(try dsimp only at H)
 by_cases c7:(t866.length:Int)=0
 ·rw [if_pos c7] at H
  have c7b0:((t866.length:Int) == 0)=true:=beq_iff_eq.mpr c7
  have c7b1:((t866.length:Int) != 0)=false:=bne_eq_false_iff_eq.mpr c7
  clear c7
  obtain rfl:=Option.some.inj H
  exact Zaj.leaf
 ·rw [if_neg c7] at H
  have c7b0:((t866.length:Int) == 0)=false:=beq_eq_false_iff_ne.mpr c7
  have c7b1:((t866.length:Int) != 0)=true:=bne_iff_ne.mpr c7
  have c7b2:¬ (t866=[]):=fun h_=>c7 (by rw [h_];rfl)
  by_cases c27:t865=true
  ·subst c27
   rw [if_pos rfl] at H
   obtain rfl:=Option.some.inj H
   exact Zaj.leaf
  ·replace c27:=Bool.eq_false_iff.mpr c27
   subst c27
   rw [if_neg (show ¬ (false=true) by decide)] at H
   obtain rfl:=Option.some.inj H
   exact Zaj.leaf
end YtjbjkmccfocikaaGreatDoor.B
end
section
namespace YtjbjkmccfocikaaGreatDoor.B
open Go.RowKit YtjbjkmccfocikaaGreatDoorW.PrintWords YtjbjkmccfocikaaGreatDoorW.PrintMore YtjbjkmccfocikaaGreatDoorW.PrintLast
section
variable {P:Program} {ops:Array Oper} {Q:Exit->Act->World->Prop} {md:Region.Mode} {S:World->Prop} {ds:List Nat}
def blkOf:Value->Option Nat
 | .pointer (some p)=>some p.block
 | .agg cs=>match cs[1]? with|some v=>v.ownBlock|none=>none
 | _=>none
structure Mk where
 i:Nat
 N:Tmp
 R:Value->World->Prop
def okM (md:Region.Mode) (ops:Array Oper) (ds is:List Nat) (lf:Array Bool):Nat->Array Bool->Bool
 | 0,l=>l == lf && is.all (fun i=>l.getD i false)
 | n + 1,l=>(Region.ready md ops l != []) && (Region.ready md ops l).all fun i=>is.contains i && (!ds.contains i && (l.getD i true == false && okM md ops ds is lf n (l.setIfInBounds i true)))
def fillF (a:Act):List Tmp->(Tmp->Value)->Act
 | [],_=>a
 | n :: ns,f=>fillF (a.put (some n) (f n)) ns f
def upd (f:Tmp->Value) (n:Tmp) (v:Value):Tmp->Value:=fun m=>if m=n then v else f m
theorem put_comm (a:Act) {n m:Tmp} (h:n ≠ m) (x y:Value):(a.put (some n) x).put (some m) y=(a.put (some m) y).put (some n) x:=by
 simp only [Act.put]
 rw [Array.setIfInBounds_comm _ _ h]
theorem Zo5 (a:Act) (n:Tmp) (x y:Value):(a.put (some n) x).put (some n) y=a.put (some n) y:=by
 simp only [Act.put,Array.setIfInBounds_setIfInBounds]
theorem Zly:∀ (ns:List Tmp) (a:Act) (f:Tmp->Value) (n:Tmp) (v:Value),n ∉ ns->(fillF a ns f).put (some n) v=fillF (a.put (some n) v) ns f
 | [],_,_,_,_,_=>rfl
 | m :: ns,a,f,n,v,h=>by
  have h1:n ≠ m:=fun e=>h (e ▸ List.mem_cons_self)
  rw [fillF,fillF,Zly ns _ f n v (fun e=>h (List.mem_cons_of_mem _ e)),put_comm a (Ne.symm h1)]
theorem Zho:∀ (ns:List Tmp) (a:Act) (f:Tmp->Value) (n:Tmp) (v:Value),n ∉ ns->fillF a ns (upd f n v)=fillF a ns f
 | [],_,_,_,_,_=>rfl
 | m :: ns,a,f,n,v,h=>by
  have h1:m ≠ n:=fun e=>h (e ▸ List.mem_cons_self)
  rw [fillF,fillF,Zho ns _ f n v (fun e=>h (List.mem_cons_of_mem _ e))]
  simp only [upd,if_neg h1]
theorem Zlz:∀ (ns:List Tmp) (a:Act) (f:Tmp->Value) (n:Tmp) (v:Value),ns.Nodup->n ∈ ns->(fillF a ns f).put (some n) v=fillF a ns (upd f n v)
 | [],_,_,_,_,_,h=>by cases h
 | m :: ns,a,f,n,v,hd,h=>by
  have hd':=List.nodup_cons.1 hd
  by_cases e:m=n
  ·subst e
   rw [fillF,fillF,Zly ns _ f m v hd'.1,Zho ns _ f m v hd'.1,Zo5]
   simp only [upd,if_true]
  ·have hn:n ∈ ns:=(List.mem_cons.1 h).resolve_left (Ne.symm e)
   rw [fillF,fillF,Zlz ns _ f n v hd'.2 hn]
   simp only [upd,if_neg e]
theorem Zo2 {r:Mk->Mk->Prop} (hs:∀ x y,r x y->r y x):∀ {l:List Mk},l.Pairwise r -> ∀ m ∈ l,∀ m' ∈ l,m=m'\/r m m'
 | [],_,m,h,_,_=>by cases h
 | x :: l,h,m,hm,m',hm'=>by
  obtain ⟨h1,h2⟩:=List.pairwise_cons.1 h
  rcases List.mem_cons.1 hm with rfl|q1 <;> rcases List.mem_cons.1 hm' with rfl|q2
  ·exact .inl rfl
  ·exact .inr (h1 _ q2)
  ·exact .inr (hs _ _ (h1 _ q1))
  ·exact Zo2 hs h2 m q1 m' q2
theorem makers (ms:List Mk) (a:Act) (J:World->Prop) (lf:Array Bool) (fuel:Nat)
  (hp:ms.Pairwise (fun m m'=>m.N ≠ m'.N/\m.i ≠ m'.i))
  (hJ:∀ w w',J w->Below w.heap.size w w'->J w') (hJS:∀ w,J w->S w)
  (hR:∀ m ∈ ms,∀ v w w',m.R v w->Below w.heap.size w w'->m.R v w')
  (hlt:∀ m ∈ ms,∀ v w,m.R v w -> ∀ g,blkOf v=some g->g < w.heap.size)
  (hstep:∀ m ∈ ms,∃ o,ops[m.i]? = some o /\ ∀ (f:Tmp->Value) w,J w -> ∀ K:Act->World->Prop,(∀ v w',m.R v w'->Below w.heap.size w w'->(∀ g,blkOf v=some g->w.heap.size<=g)->K ((fillF a (ms.map Mk.N) f).put (some m.N) v) w') ->
   if Region.wanted o (yielded ops (fillF a (ms.map Mk.N) f).tmps)=true then Oper.wp P o (fillF a (ms.map Mk.N) f) w K Q else K ((fillF a (ms.map Mk.N) f).put o.dst undef) w)
  (hcont:∀ (f:Tmp->Value) w,J w->(∀ m ∈ ms,m.R (f m.N) w)->(∀ m ∈ ms,∀ m' ∈ ms,m.N ≠ m'.N -> ∀ g,blkOf (f m.N)=some g->blkOf (f m'.N) ≠ some g)->wpAnyLast P md ops Q S ds fuel lf (fillF a (ms.map Mk.N) f) w) :
  ∀ (n:Nat) (l:Array Bool) (f:Tmp->Value) (w:World),okM md ops ds (ms.map Mk.i) lf n l=true->J w->(∀ m ∈ ms,l.getD m.i true=true->m.R (f m.N) w) ->
   (∀ m ∈ ms,∀ m' ∈ ms,m.N ≠ m'.N->l.getD m.i true=true->l.getD m'.i true=true -> ∀ g,blkOf (f m.N)=some g->blkOf (f m'.N) ≠ some g)->wpAnyLast P md ops Q S ds (fuel + n) l (fillF a (ms.map Mk.N) f) w
 | 0,l,f,w,hk,hj,hr,hx=>by
  simp only [okM,Bool.and_eq_true,beq_iff_eq,List.all_eq_true] at hk
  obtain ⟨rfl,hk⟩:=hk
  have hd:∀ m ∈ ms,l.getD m.i true=true:=fun m hm=>by
   have h1:=hk m.i (List.mem_map_of_mem hm)
   rcases Nat.lt_or_ge m.i l.size with h'|h'
   ·simp [h'] at h1 ⊢;exact h1
   ·simp [Array.getElem?_eq_none h'] at h1
  exact hcont f w hj (fun m hm=>hr m hm (hd m hm)) (fun m hm m' hm' hn=>hx m hm m' hm' hn (hd m hm) (hd m' hm'))
 | n + 1,l,f,w,hk,hj,hr,hx=>by
  simp only [okM,Bool.and_eq_true,bne_iff_ne,List.all_eq_true] at hk
  obtain ⟨hne,hk⟩:=hk
  refine Zge rfl hne (fun i hi=>?_)
  have h1:=hk i hi
  simp only [Bool.not_eq_true',List.contains_iff_mem,beq_iff_eq] at h1
  obtain ⟨h2,h3,h4,h5⟩:=h1
  obtain ⟨m,hm,rfl⟩:=List.mem_map.1 h2
  obtain ⟨o,ho,hst⟩:=hstep m hm
  have hnd:(ms.map Mk.N).Nodup:=by
   unfold List.Nodup
   rw [List.pairwise_map]
   exact hp.imp (fun h=>h.1)
  have hor:=Zo2 (fun x y h=>⟨h.1.symm,h.2.symm⟩) hp
  refine wpOp_step ho (fun K' hK=>hst f w hj K' (fun v w' hv hb hf=>hK _ w' ⟨fun _ _=>hJS w' (hJ w w' hj hb),?_⟩))
  rw [Zlz _ _ _ _ _ hnd (List.mem_map_of_mem hm)]
  have hold:∀ m' ∈ ms,m' ≠ m->upd f m.N v m'.N=f m'.N /\ ∀ b,(l.setIfInBounds m.i true).getD m'.i b=l.getD m'.i b:=fun m' hm' hne=>by
   rcases hor m' hm' m hm with e|e
   ·exact absurd e hne
   ·exact ⟨by simp only [upd,if_neg e.1],fun b=>getD_set_ne b (Ne.symm e.2)⟩
  have hnew:upd f m.N v m.N=v:=by simp only [upd,if_true]
  refine makers ms a J lf fuel hp hJ hJS hR hlt hstep hcont n _ _ w' h5 (hJ w w' hj hb) (fun m' hm' hd=>?_) (fun m1 hm1 m2 hm2 hn hd1 hd2 g hg=>?_)
  ·by_cases e:m'=m
   ·subst e;rw [hnew];exact hv
   ·obtain ⟨e1,e2⟩:=hold m' hm' e
    rw [e1];rw [e2] at hd
    exact hR m' hm' _ w w' (hr m' hm' hd) hb
  ·by_cases e1:m1=m
   ·subst e1
    have e2:m2 ≠ m1:=fun e=>hn (by rw [e])
    obtain ⟨f2,l2⟩:=hold m2 hm2 e2
    rw [hnew] at hg;rw [f2];rw [l2] at hd2
    intro hg2
    have := hlt m2 hm2 _ w (hr m2 hm2 hd2) g hg2
    have := hf g hg
    omega
   ·obtain ⟨f1,l1⟩:=hold m1 hm1 e1
    rw [f1] at hg;rw [l1] at hd1
    by_cases e2:m2=m
    ·subst e2
     rw [hnew]
     intro hg2
     have := hlt m1 hm1 _ w (hr m1 hm1 hd1) g hg
     have := hf g hg2
     omega
    ·obtain ⟨f2,l2⟩:=hold m2 hm2 e2
     rw [f2];rw [l2] at hd2
     exact hx m1 hm1 m2 hm2 hn hd1 hd2 g hg
theorem Zqi (a:Act) (n:Tmp):a.put (some n) (a.tmps.getD n undef)=a:=by
 obtain ⟨t,d⟩:=a
 simp only [Act.put]
 congr 1
 rcases Nat.lt_or_ge n t.size with h|h
 ·simp [Array.setIfInBounds,h]
 ·simp [Array.setIfInBounds,Nat.not_lt.2 h]
theorem Zju:∀ (ns:List Tmp) (a:Act),fillF a ns (fun n=>a.tmps.getD n undef)=a
 | [],_=>rfl
 | n :: ns,a=>by
  rw [fillF,Zqi]
  exact Zju ns a
theorem Zqw {ik:IntKind} {e:Nat} {w:World} {base:Nat} {ok:Nat->Prop} {v:Value} {xs:List Int} (h:Kd.R (Kd.int ik) e w base ok v xs):Kd.R (Kd.int ik) e w base (fun _=>True) v xs:=Kd.Zi h (fun _ _=>trivial)
theorem R_ok {ik:IntKind} {e:Nat} {w:World} {base:Nat} {ok ok':Nat->Prop} {v:Value} {xs:List Int} (h:Kd.R (Kd.int ik) e w base ok v xs) (ho:∀ k,v.ownBlock=some k->ok' k):Kd.R (Kd.int ik) e w base ok' v xs :=
 ⟨ho,h.2.imp_ (fun _ _ hp=>hp)⟩
theorem pair2 {a:Act} {w0:World} {lf l:Array Bool} {fuel:Nat} (i1 i3 i4 i5:Nat) (N1 N3 N4 N5:Tmp) (base:Nat) {ik1 ik3:IntKind} {e1 e3:Nat} {xs1 xs3:List Int} (b1 n1 b3 n3:Value) (Z:Array Value) (t:TypeId)
  {o1 o3 o4 o5:Oper} (hb0:base<=w0.heap.size) (hS:∀ w',Below w0.heap.size w0 w'->S w')
  (h1:∀ (f:Tmp->Value) w',Below w0.heap.size w0 w' -> ∀ K:Act->World->Prop,(∀ u w'' ok,Kd.R (Kd.int ik1) e1 w'' w'.heap.size ok u xs1->Below w'.heap.size w' w''->K ((fillF a [N1,N3,N4,N5] f).put (some N1) (.agg #[b1,u,n1])) w'') ->
   if Region.wanted o1 (yielded ops (fillF a [N1,N3,N4,N5] f).tmps)=true then Oper.wp P o1 (fillF a [N1,N3,N4,N5] f) w' K Q else K ((fillF a [N1,N3,N4,N5] f).put (some N1) undef) w')
  (h3:∀ (f:Tmp->Value) w',Below w0.heap.size w0 w' -> ∀ K:Act->World->Prop,(∀ u w'' ok,Kd.R (Kd.int ik3) e3 w'' w'.heap.size ok u xs3->Below w'.heap.size w' w''->K ((fillF a [N1,N3,N4,N5] f).put (some N3) (.agg #[b3,u,n3])) w'') ->
   if Region.wanted o3 (yielded ops (fillF a [N1,N3,N4,N5] f).tmps)=true then Oper.wp P o3 (fillF a [N1,N3,N4,N5] f) w' K Q else K ((fillF a [N1,N3,N4,N5] f).put (some N3) undef) w')
  (hcont:∀ u1 u3 g4 g5 w',Below w0.heap.size w0 w'->Kd.R (Kd.int ik1) e1 w' base (fun k=>some k ≠ u3.ownBlock) u1 xs1->Kd.R (Kd.int ik3) e3 w' base (fun k=>some k ≠ u1.ownBlock) u3 xs3 ->
   w'.heap[g4]? = some (.cells Z t (0,0))->w'.heap[g5]? = some (.cells Z t (0,0))->w0.heap.size<=g4->w0.heap.size<=g5->g4 ≠ g5 ->
   wpAnyLast P md ops Q S ds fuel lf (putAll a [(N1,.agg #[b1,u1,n1]),(N3,.agg #[b3,u3,n3]),(N4,.pointer (some ⟨g4,0,none⟩)),(N5,.pointer (some ⟨g5,0,none⟩))]) w')
  (q1:ops[i1]? = some o1:=by rfl) (q3:ops[i3]? = some o3:=by rfl) (q4:ops[i4]? = some o4:=by rfl) (q5:ops[i5]? = some o5:=by rfl)
  (d1:o1.dst=some N1:=by rfl) (d3:o3.dst=some N3:=by rfl) (d4:o4.dst=some N4:=by rfl) (d5:o5.dst=some N5:=by rfl)
  (hw4:∀ y,Region.wanted o4 y=true:=by intro y;rfl) (hw5:∀ y,Region.wanted o5 y=true:=by intro y;rfl)
  (hr4:∀ (a:Act) (w:World),(execOp a.eval o4).run P w=.ok (.value (.pointer (some ⟨w.heap.size,0,none⟩))) (w.alloc (.cells Z t (0,0))):=by intro a w;first|(go_simp;done)|(go_simp;rfl))
  (hr5:∀ (a:Act) (w:World),(execOp a.eval o5).run P w=.ok (.value (.pointer (some ⟨w.heap.size,0,none⟩))) (w.alloc (.cells Z t (0,0))):=by intro a w;first|(go_simp;done)|(go_simp;rfl))
  (hn:((N1 != N3 && N1 != N4 && N1 != N5 && N3 != N4 && N3 != N5 && N4 != N5) && (i1 != i3 && i1 != i4 && i1 != i5 && i3 != i4 && i3 != i5 && i4 != i5))=true:=by rfl)
  (hck:(okM md ops ds [i1,i3,i4,i5] lf 4 l && (l.getD i1 true == false && (l.getD i3 true == false && (l.getD i4 true == false && l.getD i5 true == false))))=true:=by kernel_rfl) :
  wpAnyLast P md ops Q S ds (fuel + 4) l a w0:=by
 simp only [Bool.and_eq_true,beq_iff_eq,bne_iff_ne,ne_eq] at hck hn
 obtain ⟨hck,c1,c3,c4,c5⟩:=hck
 obtain ⟨⟨⟨⟨⟨⟨m1,m2⟩,m3⟩,m4⟩,m5⟩,m6⟩,⟨⟨⟨⟨j1,j2⟩,j3⟩,j4⟩,j5⟩,j6⟩:=hn
 have bstep:∀ (o:Oper) (N:Tmp),o.dst=some N->(∀ y,Region.wanted o y=true)->(∀ (a:Act) (w:World),(execOp a.eval o).run P w=.ok (.value (.pointer (some ⟨w.heap.size,0,none⟩))) (w.alloc (.cells Z t (0,0)))) ->
   ∀ (a':Act) (w:World),Below w0.heap.size w0 w -> ∀ K:Act->World->Prop,(∀ v w',(∃ g,v=Value.pointer (some ⟨g,0,none⟩)/\w'.heap[g]? = some (.cells Z t (0,0))/\w0.heap.size<=g)->Below w.heap.size w w'->(∀ g,blkOf v=some g->w.heap.size<=g)->K (a'.put (some N) v) w') ->
   if Region.wanted o (yielded ops a'.tmps)=true then Oper.wp P o a' w K Q else K (a'.put o.dst undef) w:=by
  intro o N hd hw hr a' w hb K hK
  refine Zfi (hw _) hd (hr a' w) (fun g hg w1 hbox hb1=>?_)
  rw [hd]
  subst hg
  exact hK _ w1 ⟨_,rfl,hbox,(Zb hb)⟩ hb1 (fun g hg=>by simp only [blkOf,Option.some.injEq] at hg;omega)
 have key:=makers (P:=P) (ops:=ops) (Q:=Q) (md:=md) (S:=S) (ds:=ds)
  [⟨i1,N1,fun v w' => ∃ u,v=.agg #[b1,u,n1]/\Kd.R (Kd.int ik1) e1 w' base (fun _=>True) u xs1⟩,⟨i3,N3,fun v w' => ∃ u,v=.agg #[b3,u,n3]/\Kd.R (Kd.int ik3) e3 w' base (fun _=>True) u xs3⟩,
   ⟨i4,N4,fun v w' => ∃ g,v=.pointer (some ⟨g,0,none⟩)/\w'.heap[g]? = some (.cells Z t (0,0))/\w0.heap.size<=g⟩,⟨i5,N5,fun v w' => ∃ g,v=.pointer (some ⟨g,0,none⟩)/\w'.heap[g]? = some (.cells Z t (0,0))/\w0.heap.size<=g⟩]
  a (fun w'=>Below w0.heap.size w0 w') lf fuel
  (by simp [m1,m2,m3,m4,m5,m6,j1,j2,j3,j4,j5,j6])
  (fun w w' h hb=>Zid h hb) hS
  (by
   intro m hm v w w' hv hb
   simp only [List.mem_cons,List.not_mem_nil,or_false] at hm
   rcases hm with rfl|rfl|rfl|rfl
   ·obtain ⟨u,rfl,h⟩:=hv;exact ⟨u,rfl,Kd.Za h hb⟩
   ·obtain ⟨u,rfl,h⟩:=hv;exact ⟨u,rfl,Kd.Za h hb⟩
   ·obtain ⟨g,rfl,h,h2⟩:=hv;exact ⟨g,rfl,Zc h hb,h2⟩
   ·obtain ⟨g,rfl,h,h2⟩:=hv;exact ⟨g,rfl,Zc h hb,h2⟩)
  (by
   intro m hm v w hv g hg
   simp only [List.mem_cons,List.not_mem_nil,or_false] at hm
   rcases hm with rfl|rfl|rfl|rfl
   ·obtain ⟨u,rfl,h⟩:=hv;exact Kd.R_lt h g (by simpa [blkOf] using hg)
   ·obtain ⟨u,rfl,h⟩:=hv;exact Kd.R_lt h g (by simpa [blkOf] using hg)
   ·obtain ⟨g',rfl,h,h2⟩:=hv
    obtain rfl:g'=g:=by simpa [blkOf] using hg
    exact Zfr h
   ·obtain ⟨g',rfl,h,h2⟩:=hv
    obtain rfl:g'=g:=by simpa [blkOf] using hg
    exact Zfr h)
  (by
   intro m hm
   simp only [List.mem_cons,List.not_mem_nil,or_false] at hm
   rcases hm with rfl|rfl|rfl|rfl
   ·refine ⟨o1,q1,fun f w hb K hK=>?_⟩
    rw [d1]
    exact h1 f w hb K (fun u w'' ok hr hb2=>hK _ w'' ⟨u,rfl,Zqw (Kd.Zq hr (Nat.le_trans hb0 (Zb hb)))⟩ hb2 (fun g hg=>Kd.Zat hr g (by simpa [blkOf] using hg)))
   ·refine ⟨o3,q3,fun f w hb K hK=>?_⟩
    rw [d3]
    exact h3 f w hb K (fun u w'' ok hr hb2=>hK _ w'' ⟨u,rfl,Zqw (Kd.Zq hr (Nat.le_trans hb0 (Zb hb)))⟩ hb2 (fun g hg=>Kd.Zat hr g (by simpa [blkOf] using hg)))
   ·exact ⟨o4,q4,fun f w hb K hK=>bstep o4 N4 d4 hw4 hr4 _ w hb K hK⟩
   ·exact ⟨o5,q5,fun f w hb K hK=>bstep o5 N5 d5 hw5 hr5 _ w hb K hK⟩)
  (by
   intro f w hb hR hX
   obtain ⟨u1,e1',r1⟩:=hR _ List.mem_cons_self
   obtain ⟨u3,e3',r3⟩:=hR _ (List.mem_cons_of_mem _ List.mem_cons_self)
   obtain ⟨g4,e4',b4,s4⟩:=hR _ (List.mem_cons_of_mem _ (List.mem_cons_of_mem _ List.mem_cons_self))
   obtain ⟨g5,e5',b5,s5⟩:=hR _ (List.mem_cons_of_mem _ (List.mem_cons_of_mem _ (List.mem_cons_of_mem _ List.mem_cons_self)))
   have x13:=hX _ List.mem_cons_self _ (List.mem_cons_of_mem _ List.mem_cons_self) m1
   have x45:=hX _ (List.mem_cons_of_mem _ (List.mem_cons_of_mem _ List.mem_cons_self)) _ (List.mem_cons_of_mem _ (List.mem_cons_of_mem _ (List.mem_cons_of_mem _ List.mem_cons_self))) m6
   dsimp only at e1' e3' e4' e5' x13 x45
   rw [e1',e3'] at x13
   rw [e4',e5'] at x45
   have := hcont u1 u3 g4 g5 w hb (R_ok r1 (fun k hk he=>x13 k (by simpa [blkOf] using hk) (by simpa [blkOf] using he.symm))) (R_ok r3 (fun k hk he=>x13 k (by simpa [blkOf] using he.symm) (by simpa [blkOf] using hk))) b4 b5 s4 s5
    (fun he=>x45 g4 (by simp [blkOf]) (by simp [blkOf,he]))
   simp only [List.map_cons,List.map_nil,fillF,e1',e3',e4',e5']
   exact this)
  4 l (fun n=>a.tmps.getD n undef) w0 hck (Below.refl _ _)
  (by
   intro m hm hd
   simp only [List.mem_cons,List.not_mem_nil,or_false] at hm
   rcases hm with rfl|rfl|rfl|rfl
   ·rw [c1] at hd;cases hd
   ·rw [c3] at hd;cases hd
   ·rw [c4] at hd;cases hd
   ·rw [c5] at hd;cases hd)
  (by
   intro m hm m' hm' hne hd
   simp only [List.mem_cons,List.not_mem_nil,or_false] at hm
   rcases hm with rfl|rfl|rfl|rfl
   ·rw [c1] at hd;cases hd
   ·rw [c3] at hd;cases hd
   ·rw [c4] at hd;cases hd
   ·rw [c5] at hd;cases hd)
 rw [Zju] at key
 exact key
theorem nW {w0:World} {k g:Nat} {o:Obj} (h:Aside0 (w0.heap[k]? = some o)) (m:w0.heap.size<=g):k ≠ g:=Nat.ne_of_lt (Nat.lt_of_lt_of_le (Zfr h.out) m)
theorem nV {w0:World} {k g:Nat} {o:Obj} (h:Aside0 (w0.heap[k]? = some o)) (m:w0.heap.size<=g):g ≠ k:=Ne.symm (nW h m)
end
end YtjbjkmccfocikaaGreatDoor.B
end
end Go.Proofs
