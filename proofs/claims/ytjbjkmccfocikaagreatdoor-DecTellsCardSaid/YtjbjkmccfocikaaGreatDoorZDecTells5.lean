/- DecTells, part 6 of 8 of its proof (no condition); names with a low line are shortened throughout. -/
import Derived.Test.YtjbjkmccfocikaaGreatDoorZDecTells4
import Derived.KernelRfl
set_option linter.unusedVariables false
set_option linter.unusedSimpArgs false
set_option maxRecDepth 100000
set_option maxHeartbeats 8000000
namespace Go.Proofs
section
namespace YtjbjkmccfocikaaGreatDoor.B
open Go.RowKit YtjbjkmccfocikaaGreatDoorW.PrintWords YtjbjkmccfocikaaGreatDoorW.PrintLast YtjbjkmccfocikaaGreatDoorW.PrintMore
attribute [local go_sem] Zb3 Zb5 Zcp Zcq Zbs Zbt Zb4 Zb6
def Zcr.j0:Nat->ByteArray->Int->Bool->Option (ByteArray)
 | 0,_,_,_=>none
 | k+1,x0,x1,x5=>if x5=true then ((Zd2.f k x0 (wrap64 (x1 - 1))).bind fun qc=>(some qc)) else (if x1 < 1 then ((strings_Repeat.f (⟨#[48]⟩:ByteArray) (wrap64 (-x1))).bind fun qa=>(if 2+qa.size<=9223372036854775807 then (if ((⟨#[48,46]⟩:ByteArray)++qa).size+x0.size<=9223372036854775807 then (some (((⟨#[48,46]⟩:ByteArray)++qa)++x0)) else (none)) else (none))) else (if x1 < (x0.size:Int) then (if 0<=x1 then (if x1<=(x0.size:Int) then (if (x0.extract 0 (x1:Int).toNat).size+1<=9223372036854775807 then (if ((x0.extract 0 (x1:Int).toNat)++(⟨#[46]⟩:ByteArray)).size+(x0.extract (x1:Int).toNat x0.size).size<=9223372036854775807 then (some (((x0.extract 0 (x1:Int).toNat)++(⟨#[46]⟩:ByteArray))++(x0.extract (x1:Int).toNat x0.size))) else (none)) else (none)) else (none)) else (none)) else ((strings_Repeat.f (⟨#[48]⟩:ByteArray) (wrap64 (x1 - (x0.size:Int)))).bind fun qb=>(if x0.size+qb.size<=9223372036854775807 then (some (x0++qb)) else (none)))))
def Zcr.f (k:Nat) (a0:ByteArray) (a1:Int):Option (ByteArray):=if a1 < (-5) then (Zcr.j0 k a0 a1 true) else (Zcr.j0 k a0 a1 (decide (a1 > 21)))
theorem Zcr.calls (k:Nat) (a0:ByteArray) (a1:Int) (r:ByteArray) (w:World) (h:Zcr.f k a0 a1=some r) :
  Calls Tryz.prog 113 #[.string a0,.int .i64 a1] w fun e w'=>e=.returned (.string r)/\Below w.heap.size w w':=by
 have HB:=am (Below.refl w.heap.size w)
 have H:(if a1 < (-5) then (Zcr.j0 k a0 a1 true) else (Zcr.j0 k a0 a1 (decide (a1 > 21))))=some r:=h
 clear h
 have HC3:=am H
 clear H
 go_enter Tryz.func113,Tryz.ntmps113
 go_upto_region 1 with (fail)
 repeat (go_quiet (fail);go_upto_region 1 with (fail))
 go_cut [5] (fun v5 wc => ∃ (kq:Nat) (x5_2:Bool),v5=.bool x5_2/\Aside0 (Zcr.j0 kq a0 a1 x5_2=some r)/\Aside0 (kq<=k)/\Aside0 (Below w.heap.size w wc))
 case first =>
  have H:=HC3.o
  clear HC3
  replace H:=dI H
  rcases H with ⟨c4b0,H⟩|⟨c4b0,H⟩
  ·(first|rw [c4b0]|(simp only [Zc5,Zdv];rw [c4b0])|skip)
   have H':=am H
   clear H
   go_wp2
   repeat (go_quiet (fail);try go_wp2)
   go_meet
   case rel=>exact ⟨_,(true),pR,H',pJ,⟨pB⟩⟩
  ·(first|rw [c4b0]|(simp only [Zc5,Zdv];rw [c4b0])|skip)
   have H':=am H
   clear H
   go_wp2
   repeat (go_quiet (fail);try go_wp2)
   go_meet
   case rel=>exact ⟨_,(decide (a1 > 21)),pR,H',pJ,⟨pB⟩⟩
 case rest =>
  clear HC3
  obtain ⟨kq,x5_2,rfl,HA,HJ2,HB⟩:=hcut
  cases kq with
  | zero=>exact absurd HA.out (by simp [Zcr.j0])
  | succ kj2 =>
   have H:=HA.out
   clear HA
   simp only [Zcr.j0] at H
   replace H:=tI (t:=x5_2) H
   rcases H with ⟨rfl,H⟩|⟨rfl,H⟩
   ·replace H:=ob H
    obtain ⟨qc,A6,H⟩:=H
    obtain rfl:=Option.some.inj H
    go_wp2_with (first|(go_at_call 145;(with_reducible refine (Zd2.calls kj2 a0 (wrap64 (a1 - 1)) qc _ A6.o).mono ?_);rintro e w7 ⟨rfl,hb⟩;replace HB:=bS hb))
    repeat (go_quiet (first|(go_at_call 145;(with_reducible refine (Zd2.calls kj2 a0 (wrap64 (a1 - 1)) qc _ A6.o).mono ?_);rintro e w7 ⟨rfl,hb⟩;replace HB:=bS hb));try go_wp2_with (first|(go_at_call 145;(with_reducible refine (Zd2.calls kj2 a0 (wrap64 (a1 - 1)) qc _ A6.o).mono ?_);rintro e w7 ⟨rfl,hb⟩;replace HB:=bS hb)))
    go_ret
    exact ⟨pE,pB⟩
   ·replace H:=dI H
    rcases H with ⟨c8b0,H⟩|⟨c8b0,H⟩
    ·replace H:=ob H
     obtain ⟨qa,A9,H⟩:=H
     by_cases c10:2+qa.size<=9223372036854775807
     ·rw [if_pos c10] at H
      have c10b0:=eq_true c10
      have c10b1:decide (2+qa.size<=9223372036854775807)=true:=decide_eq_true c10
      try have c10b2:(9223372036854775807 < 2+qa.size)=False:=eq_false (Nat.not_lt.2 c10)
      by_cases c11:((⟨#[48,46]⟩:ByteArray)++qa).size+a0.size<=9223372036854775807
      ·rw [if_pos c11] at H
       have c11b0:=eq_true c11
       have c11b1:decide (((⟨#[48,46]⟩:ByteArray)++qa).size+a0.size<=9223372036854775807)=true:=decide_eq_true c11
       try have c11b2:(9223372036854775807 < ((⟨#[48,46]⟩:ByteArray)++qa).size+a0.size)=False:=eq_false (Nat.not_lt.2 c11)
       try have c11b3:(9223372036854775807 < 2+qa.size+a0.size)=False:=eq_false (Nat.not_lt.2 (by have q_:=c11;have l0_:(⟨#[48,46]⟩:ByteArray).size=2:=rfl;(try have h0_:=of_decide_eq_true c10b1);simp only [ByteArray.size_append,ByteArray.size_extract] at q_;omega))
       obtain rfl:=Option.some.inj H
       go_wp2_with (first|(go_at_call 146;(with_reducible refine (strings_Repeat.calls (⟨#[48]⟩:ByteArray) (wrap64 (-a1)) qa _ A9.o).mono ?_);rintro e w12 ⟨rfl,hb⟩;replace HB:=bS hb))
       repeat (go_quiet (first|(go_at_call 146;(with_reducible refine (strings_Repeat.calls (⟨#[48]⟩:ByteArray) (wrap64 (-a1)) qa _ A9.o).mono ?_);rintro e w12 ⟨rfl,hb⟩;replace HB:=bS hb));try go_wp2_with (first|(go_at_call 146;(with_reducible refine (strings_Repeat.calls (⟨#[48]⟩:ByteArray) (wrap64 (-a1)) qa _ A9.o).mono ?_);rintro e w12 ⟨rfl,hb⟩;replace HB:=bS hb)))
       go_ret
       exact ⟨pE,pB⟩
      ·rw [if_neg c11] at H
       cases H
     ·rw [if_neg c10] at H
      cases H
    ·replace H:=dI H
     rcases H with ⟨c13b0,H⟩|⟨c13b0,H⟩
     ·replace H:=iI H
      rcases H with ⟨c14b0,c14b1,H⟩|⟨_,_,H⟩
      ·replace H:=iI H
       rcases H with ⟨c15b0,c15b1,H⟩|⟨_,_,H⟩
       ·by_cases c16:(a0.extract 0 (a1:Int).toNat).size+1<=9223372036854775807
        ·rw [if_pos c16] at H
         have c16b0:=eq_true c16
         have c16b1:decide ((a0.extract 0 (a1:Int).toNat).size+1<=9223372036854775807)=true:=decide_eq_true c16
         try have c16b2:(9223372036854775807 < (a0.extract 0 (a1:Int).toNat).size+1)=False:=eq_false (Nat.not_lt.2 c16)
         try have c16b3:(9223372036854775807 < (a1:Int).toNat+1)=False:=eq_false (Nat.not_lt.2 (by have q_:=c16;(try have h0_:=of_decide_eq_true c10b1);(try have h1_:=of_decide_eq_true c11b1);(try have h2_:=of_decide_eq_true c14b1);(try have h3_:=of_decide_eq_true c15b1);simp only [ByteArray.size_append,ByteArray.size_extract] at q_;omega))
         have c17b0:=eq_true (of_decide_eq_true pQ:0<=a1)
         have c18b0:=eq_true (of_decide_eq_true pQ:a1<=(a0.size:Int))
         by_cases c19:((a0.extract 0 (a1:Int).toNat)++(⟨#[46]⟩:ByteArray)).size+(a0.extract (a1:Int).toNat a0.size).size<=9223372036854775807
         ·rw [if_pos c19] at H
          have c19b0:=eq_true c19
          have c19b1:decide (((a0.extract 0 (a1:Int).toNat)++(⟨#[46]⟩:ByteArray)).size+(a0.extract (a1:Int).toNat a0.size).size<=9223372036854775807)=true:=decide_eq_true c19
          try have c19b2:(9223372036854775807 < ((a0.extract 0 (a1:Int).toNat)++(⟨#[46]⟩:ByteArray)).size+(a0.extract (a1:Int).toNat a0.size).size)=False:=eq_false (Nat.not_lt.2 c19)
          try have c19b3:(9223372036854775807 < (a1:Int).toNat+1+(a0.size - (a1:Int).toNat))=False:=eq_false (Nat.not_lt.2 (by have q_:=c19;have l0_:(⟨#[46]⟩:ByteArray).size=1:=rfl;(try have h0_:=of_decide_eq_true c10b1);(try have h1_:=of_decide_eq_true c11b1);(try have h2_:=of_decide_eq_true c14b1);(try have h3_:=of_decide_eq_true c15b1);(try have h4_:=of_decide_eq_true c16b1);simp only [ByteArray.size_append,ByteArray.size_extract] at q_;omega))
          obtain rfl:=Option.some.inj H
          go_wp2
          repeat (go_quiet (fail);try go_wp2)
          go_ret
          exact ⟨pE,pB⟩
         ·rw [if_neg c19] at H
          cases H
        ·rw [if_neg c16] at H
         cases H
       ·cases H
      ·cases H
     ·replace H:=ob H
      obtain ⟨qb,A20,H⟩:=H
      by_cases c21:a0.size+qb.size<=9223372036854775807
      ·rw [if_pos c21] at H
       have c21b0:=eq_true c21
       have c21b1:decide (a0.size+qb.size<=9223372036854775807)=true:=decide_eq_true c21
       try have c21b2:(9223372036854775807 < a0.size+qb.size)=False:=eq_false (Nat.not_lt.2 c21)
       obtain rfl:=Option.some.inj H
       go_wp2_with (first|(go_at_call 146;(with_reducible refine (strings_Repeat.calls (⟨#[48]⟩:ByteArray) (wrap64 (a1 - (a0.size:Int))) qb _ A20.o).mono ?_);rintro e w22 ⟨rfl,hb⟩;replace HB:=bS hb))
       repeat (go_quiet (first|(go_at_call 146;(with_reducible refine (strings_Repeat.calls (⟨#[48]⟩:ByteArray) (wrap64 (a1 - (a0.size:Int))) qb _ A20.o).mono ?_);rintro e w22 ⟨rfl,hb⟩;replace HB:=bS hb));try go_wp2_with (first|(go_at_call 146;(with_reducible refine (strings_Repeat.calls (⟨#[48]⟩:ByteArray) (wrap64 (a1 - (a0.size:Int))) qb _ A20.o).mono ?_);rintro e w22 ⟨rfl,hb⟩;replace HB:=bS hb)))
       go_ret
       exact ⟨pE,pB⟩
      ·rw [if_neg c21] at H
       cases H
def Zda.f (k:Nat) (a0_0:Bool) (l0_1:List Int) (a0_2:Int):Option (ByteArray × Int):=(Zbk.f k a0_0 l0_1 a0_2).bind fun qb=>(if qb=0 then (if (l0_1.length:Int)=0 then (some ((⟨#[48]⟩:ByteArray),0)) else ((Zaz.f k l0_1).bind fun qe=>((Zdb.f qe.1 qe.2).bind fun qa=>(if a0_0=true then ((Zcr.f k qa (wrap64 ((qa.size:Int)+a0_2))).bind fun qc=>(if 1+qc.size<=9223372036854775807 then (some ((⟨#[45]⟩:ByteArray)++qc,0)) else (none))) else ((Zcr.f k qa (wrap64 ((qa.size:Int)+a0_2))).bind fun qd=>(if 0+qd.size<=9223372036854775807 then (some ((⟨#[]⟩:ByteArray)++qd,0)) else (none))))))) else (some ((⟨#[]⟩:ByteArray),qb)))
theorem Zda.leaf {P:Prop} (h:P:=by
 go_enter Tryz.func56,Tryz.ntmps56
 go_wp2_with (first|((with_reducible refine gd 1 ?_);refine bx 1 #[.bool true,.slice A0_1 l0_1.length c0_1,.int .i64 a0_2] 24 (h:=?_);intro gb0z hg w1z hbox hb;have BK2z:=am hbox;have GW3z:=gW hg;have GE4z:=gW hg;replace HB:=bS hb;clear hb hbox hg;obtain ⟨hcz5z,hcz6z,hcz7z,hfz8z,hfz9z,qi⟩:=cEc BK2z.o)|(refine gL (some 8) Tryz.func55 #[.agg #[.bool true,.slice A0_1 l0_1.length c0_1,.int .i64 a0_2]] (h:=?_);(with_reducible refine (Zbk.calls k true _ _ l0_1 a0_2 qb _ ?side1 ?side2 A2.o).mono ?_);(case side1=>exact cB HR0_1 HB);(case side2=>exact HC0_1.o);rintro e w11z ⟨rfl,hb⟩;refine ⟨_,rfl,?_⟩;replace BK2z:=bb BK2z hb;replace HB:=bS hb;obtain ⟨qf,qg,qh,qj,qk,ql⟩:=cEc BK2z.o)|(refine gL (some 18) Tryz.func112 #[.slice A0_1 l0_1.length c0_1] (h:=?_);(with_reducible refine (Zaz.calls k (fun k_=>k_ < w.heap.size) _ _ l0_1 qm qn _ ?side1 A9.o).mono ?_);(case side1=>exact Kd.V_mk HC0_1.o (Kd.Ze7 (Kd.C_F (Kd.Zfm .u32) HR0_1.o) pB));rintro e w18z ⟨rfl,hb⟩;refine ⟨_,rfl,?_⟩;replace BK2z:=bb BK2z hb;replace HB:=bS hb)|(refine gL (some 21) Tryz.func111 #[.string qm,.int .i64 qn] (h:=?_);(with_reducible refine (Zdb.calls qm qn qa _ A10.o).mono ?_);rintro e w' ⟨rfl,⟨nd,rfl⟩⟩;refine ⟨_,rfl,?_⟩;obtain ⟨_,_,_,_,_,_⟩:=cEc BK2z.o)|(refine gL (some 31) Tryz.func113 #[.string qa,.int .i64 (wrap64 ((qa.size:Int)+a0_2))] (h:=?_);(with_reducible refine (Zcr.calls k qa (wrap64 ((qa.size:Int)+a0_2)) qc _ A12.o).mono ?_);rintro e w25z ⟨rfl,hb⟩;refine ⟨_,rfl,?_⟩;replace BK2z:=bb BK2z hb;replace HB:=bS hb)|((with_reducible refine gd 1 ?_);refine bx 1 #[.bool false,.slice A0_1 l0_1.length c0_1,.int .i64 a0_2] 24 (h:=?_);intro gb0z hg w1z hbox hb;have BK2z:=am hbox;have GW3z:=gW hg;have GE4z:=gW hg;replace HB:=bS hb;clear hb hbox hg;obtain ⟨hcz5z,hcz6z,hcz7z,hfz8z,hfz9z,qi⟩:=cEc BK2z.o)|(refine gL (some 8) Tryz.func55 #[.agg #[.bool false,.slice A0_1 l0_1.length c0_1,.int .i64 a0_2]] (h:=?_);(with_reducible refine (Zbk.calls k false _ _ l0_1 a0_2 qb _ ?side1 ?side2 A2.o).mono ?_);(case side1=>exact cB HR0_1 HB);(case side2=>exact HC0_1.o);rintro e w11z ⟨rfl,hb⟩;refine ⟨_,rfl,?_⟩;replace BK2z:=bb BK2z hb;replace HB:=bS hb;obtain ⟨qf,qg,qh,qj,qk,ql⟩:=cEc BK2z.o)|(refine gL (some 31) Tryz.func113 #[.string qa,.int .i64 (wrap64 ((qa.size:Int)+a0_2))] (h:=?_);(with_reducible refine (Zcr.calls k qa (wrap64 ((qa.size:Int)+a0_2)) qd _ A21.o).mono ?_);rintro e w25z ⟨rfl,hb⟩;refine ⟨_,rfl,?_⟩;replace BK2z:=bb BK2z hb;replace HB:=bS hb)|((with_reducible refine gd 1 ?_);refine bx 1 #[.bool a0_0,.slice A0_1 l0_1.length c0_1,.int .i64 a0_2] 24 (h:=?_);intro gb0z hg w1z hbox hb;have BK2z:=am hbox;have GW3z:=gW hg;have GE4z:=gW hg;replace HB:=bS hb;clear hb hbox hg;obtain ⟨hcz5z,hcz6z,hcz7z,hfz8z,hfz9z,qi⟩:=cEc BK2z.o)|((have q_:((l0_1.length:Int) != 0)=false:=c4b1;clear q_);refine gL (some 8) Tryz.func55 #[.agg #[.bool a0_0,.slice A0_1 l0_1.length c0_1,.int .i64 a0_2]] (h:=?_);(with_reducible refine (Zbk.calls k a0_0 _ _ l0_1 a0_2 qb _ ?side1 ?side2 A2.o).mono ?_);(case side1=>exact cB HR0_1 HB);(case side2=>exact HC0_1.o);rintro e w11z ⟨rfl,hb⟩;refine ⟨_,rfl,?_⟩;replace BK2z:=bb BK2z hb;replace HB:=bS hb;obtain ⟨qf,qg,qh,qj,qk,ql⟩:=cEc BK2z.o)|((have q_:(qb != 0)=true:=c3b1;clear q_);refine gL (some 8) Tryz.func55 #[.agg #[.bool a0_0,.slice A0_1 l0_1.length c0_1,.int .i64 a0_2]] (h:=?_);(with_reducible refine (Zbk.calls k a0_0 _ _ l0_1 a0_2 qb _ ?side1 ?side2 A2.o).mono ?_);(case side1=>exact cB HR0_1 HB);(case side2=>exact HC0_1.o);rintro e w11z ⟨rfl,hb⟩;refine ⟨_,rfl,?_⟩;replace BK2z:=bb BK2z hb;replace HB:=bS hb))
 go_ret2
 exact ⟨pE,pB⟩):P:=h
theorem Zda.calls (k:Nat) (a0_0:Bool) (A0_1:Option Addr) (c0_1:Nat) (l0_1:List Int) (a0_2:Int) (r1:ByteArray) (r2:Int) (w:World) (hr0_1:Kd.C (Kd.int .u32) w A0_1 l0_1.length l0_1) (hc0_1:l0_1.length<=c0_1) (h:Zda.f k a0_0 l0_1 a0_2=some (r1,r2)) :
  Calls Tryz.prog 56 #[.agg #[.bool a0_0,.slice A0_1 l0_1.length c0_1,.int .i64 a0_2]] w fun e w'=>e=.returned (.tuple #[.string r1,.int .i64 r2])/\Below w.heap.size w w':=by
 have hu24:=Tryz.underlying24
 have HR0_1:=am hr0_1
 have HC0_1:=am hc0_1
 clear hr0_1 hc0_1
 have HB:=am (Below.refl w.heap.size w)
 have H:((Zbk.f k a0_0 l0_1 a0_2).bind fun qb=>(if qb=0 then (if (l0_1.length:Int)=0 then (some ((⟨#[48]⟩:ByteArray),0)) else ((Zaz.f k l0_1).bind fun qe=>((Zdb.f qe.1 qe.2).bind fun qa=>(if a0_0=true then ((Zcr.f k qa (wrap64 ((qa.size:Int)+a0_2))).bind fun qc=>(if 1+qc.size<=9223372036854775807 then (some ((⟨#[45]⟩:ByteArray)++qc,0)) else (none))) else ((Zcr.f k qa (wrap64 ((qa.size:Int)+a0_2))).bind fun qd=>(if 0+qd.size<=9223372036854775807 then (some ((⟨#[]⟩:ByteArray)++qd,0)) else (none))))))) else (some ((⟨#[]⟩:ByteArray),qb))))=some (r1,r2):=h
 clear h
 replace H:=ob H
 obtain ⟨qb,A2,H⟩:=H
 replace H:=eI H
 rcases H with ⟨c3b0,c3b1,H⟩|⟨c3,c3b0,c3b1,H⟩
 ·replace H:=eI H
  rcases H with ⟨c4b0,c4b1,H⟩|⟨c4,c4b0,c4b1,H⟩
  ·simp only [Option.some.injEq,Prod.mk.injEq] at H
   obtain ⟨rfl,rfl⟩:=H
   exact Zda.leaf
  ·have c4b2:¬ (l0_1=[]):=fun h_=>c4 (by rw [h_];rfl)
   replace H:=ob H
   obtain ⟨⟨qm,qn⟩,A9,H⟩:=H;(try dsimp only at H)
   replace H:=ob H
   obtain ⟨qa,A10,H⟩:=H
   replace H:=tI (t:=a0_0) H
   rcases H with ⟨rfl,H⟩|⟨rfl,H⟩
   ·replace H:=ob H
    obtain ⟨qc,A12,H⟩:=H
    by_cases c13:1+qc.size<=9223372036854775807
    ·rw [if_pos c13] at H
     have c13b0:=eq_true c13
     have c13b1:decide (1+qc.size<=9223372036854775807)=true:=decide_eq_true c13
     try have c13b2:(9223372036854775807 < 1+qc.size)=False:=eq_false (Nat.not_lt.2 c13)
     simp only [Option.some.injEq,Prod.mk.injEq] at H
     obtain ⟨rfl,rfl⟩:=H
     exact Zda.leaf
    ·rw [if_neg c13] at H
     cases H
   ·replace H:=ob H
    obtain ⟨qd,A21,H⟩:=H
    by_cases c22:0+qd.size<=9223372036854775807
    ·rw [if_pos c22] at H
     have c22b0:=eq_true c22
     have c22b1:decide (0+qd.size<=9223372036854775807)=true:=decide_eq_true c22
     try have c22b2:(9223372036854775807 < 0+qd.size)=False:=eq_false (Nat.not_lt.2 c22)
     simp only [Option.some.injEq,Prod.mk.injEq] at H
     obtain ⟨rfl,rfl⟩:=H
     exact Zda.leaf
    ·rw [if_neg c22] at H
     cases H
 ·simp only [Option.some.injEq,Prod.mk.injEq] at H
  obtain ⟨rfl,rfl⟩:=H
  exact Zda.leaf
def Zau.f (a0:ByteArray) (a1:Int):Option (Bool):=if a1 < (a0.size:Int) then (if 0<=a1 then (if (bt a0 a1) >= 48 then (some (decide ((bt a0 a1)<=57))) else (some false)) else (none)) else (some false)
theorem Zau.calls (a0:ByteArray) (a1:Int) (r:Bool) (w:World) (h:Zau.f a0 a1=some r) :
  Calls Tryz.prog 153 #[.string a0,.int .i64 a1] w fun e w'=>e=.returned (.bool r)/\Drawn0 w w':=by
 have H:(if a1 < (a0.size:Int) then (if 0<=a1 then (if (bt a0 a1) >= 48 then (some (decide ((bt a0 a1)<=57))) else (some false)) else (none)) else (some false))=some r:=h
 clear h
 replace H:=dI H
 rcases H with ⟨c3b0,H⟩|⟨c3b0,H⟩
 ·replace H:=dI H
  rcases H with ⟨c4b0,H⟩|⟨_,H⟩
  ·replace H:=hI H
   rcases H with ⟨c6b0,H⟩|⟨c6b0,H⟩
   ·obtain rfl:=Option.some.inj H
    have p5:0<=(a1:Int):=of_decide_eq_true pQ
    have q5:a1 < (a0.size:Int):=of_decide_eq_true pQ
    have hx5:=Zdp a0 a1
    replace p5:=eq_true p5
    replace q5:=eq_true q5
    have p7:0<=(a1:Int):=of_decide_eq_true pQ
    have q7:a1 < (a0.size:Int):=of_decide_eq_true pQ
    have hx7:=Zdp a0 a1
    replace p7:=eq_true p7
    replace q7:=eq_true q7
    go_enter Tryz.func153,Tryz.ntmps153
    go_wp2
    go_ret
    exact ⟨pR,pD⟩
   ·obtain rfl:=Option.some.inj H
    have p5:0<=(a1:Int):=of_decide_eq_true pQ
    have q5:a1 < (a0.size:Int):=of_decide_eq_true pQ
    have hx5:=Zdp a0 a1
    replace p5:=eq_true p5
    replace q5:=eq_true q5
    go_enter Tryz.func153,Tryz.ntmps153
    go_wp2
    go_ret
    exact ⟨pR,pD⟩
  ·cases H
 ·obtain rfl:=Option.some.inj H
  go_enter Tryz.func153,Tryz.ntmps153
  go_wp2
  go_ret
  exact ⟨pR,pD⟩
mutual
def Zd.j0:Nat->ByteArray->Int->Bool->Option (Int × Bool)
 | 0,_,_,_=>none
 | k+1,x0,x1,x15=>if x15=true then (Zd.j1 k x0 (wrap64 (x1+1))) else (Zd.j1 k x0 x1)
def Zd.j1:Nat->ByteArray->Int->Option (Int × Bool)
 | 0,_,_=>none
 | k+1,x0,x1=>(Zau.f x0 x1).bind fun qc=>(if qc=true then (if 0<=x1 then (if x1 < (x0.size:Int) then (if (bt x0 x1)=48 then (Zd.j3 k x0 (wrap64 (x1+1))) else (Zd.l0 k x0 x1)) else (none)) else (none)) else (some (x1,false)))
def Zd.j3:Nat->ByteArray->Int->Option (Int × Bool)
 | 0,_,_=>none
 | k+1,x0,x1=>if x1 < (x0.size:Int) then (if 0<=x1 then (Zd.j4 k x0 x1 ((bt x0 x1) == 46)) else (none)) else (Zd.j4 k x0 x1 false)
def Zd.j4:Nat->ByteArray->Int->Bool->Option (Int × Bool)
 | 0,_,_,_=>none
 | k+1,x0,x1,x43=>if x43=true then ((Zau.f x0 (wrap64 (x1+1))).bind fun qe=>(if qe=true then (Zd.l1 k x0 (wrap64 (x1+1))) else (some (wrap64 (x1+1),false)))) else (Zd.j6 k x0 x1)
def Zd.j6:Nat->ByteArray->Int->Option (Int × Bool)
 | 0,_,_=>none
 | k+1,x0,x1=>if x1 < (x0.size:Int) then (if 0<=x1 then (if (bt x0 x1)=101 then (Zd.j7 k x0 x1 true) else (Zd.j7 k x0 x1 ((bt x0 x1) == 69))) else (none)) else (Zd.j7 k x0 x1 false)
def Zd.j7:Nat->ByteArray->Int->Bool->Option (Int × Bool)
 | 0,_,_,_=>none
 | k+1,x0,x1,x71=>if x71=true then (if (wrap64 (x1+1)) < (x0.size:Int) then (if 0<=(wrap64 (x1+1)) then (if (bt x0 (wrap64 (x1+1)))=43 then (Zd.j8 k x0 (wrap64 (x1+1)) true) else (Zd.j8 k x0 (wrap64 (x1+1)) ((bt x0 (wrap64 (x1+1))) == 45))) else (none)) else (Zd.j8 k x0 (wrap64 (x1+1)) false)) else (some (x1,true))
def Zd.j8:Nat->ByteArray->Int->Bool->Option (Int × Bool)
 | 0,_,_,_=>none
 | k+1,x0,x1,x89=>if x89=true then (Zd.j9 k x0 (wrap64 (x1+1))) else (Zd.j9 k x0 x1)
def Zd.j9:Nat->ByteArray->Int->Option (Int × Bool)
 | 0,_,_=>none
 | k+1,x0,x1=>(Zau.f x0 x1).bind fun qg=>(if qg=true then (Zd.l2 k x0 x1) else (some (x1,false)))
def Zd.l2:Nat->ByteArray->Int->Option (Int × Bool)
 | 0,_,_=>none
 | k+1,x0,x1=>(Zau.f x0 x1).bind fun qh=>(if qh=true then (Zd.l2 k x0 (wrap64 (x1+1))) else (some (x1,true)))
def Zd.l1:Nat->ByteArray->Int->Option (Int × Bool)
 | 0,_,_=>none
 | k+1,x0,x1=>(Zau.f x0 x1).bind fun qf=>(if qf=true then (Zd.l1 k x0 (wrap64 (x1+1))) else (Zd.j6 k x0 x1))
def Zd.l0:Nat->ByteArray->Int->Option (Int × Bool)
 | 0,_,_=>none
 | k+1,x0,x1=>(Zau.f x0 x1).bind fun qd=>(if qd=true then (Zd.l0 k x0 (wrap64 (x1+1))) else (Zd.j3 k x0 x1))
end
def Zd.f (k:Nat) (a0:ByteArray) (a1:Int):Option (Int × Bool):=if a1 < (a0.size:Int) then (if 0<=a1 then (Zd.j0 k a0 a1 ((bt a0 a1) == 45)) else (none)) else (Zd.j0 k a0 a1 false)
theorem Zd.calls (k:Nat) (a0:ByteArray) (a1:Int) (r1:Int) (r2:Bool) (w:World) (h:Zd.f k a0 a1=some (r1,r2)) :
  Calls Tryz.prog 117 #[.string a0,.int .i64 a1] w fun e w'=>e=.returned (.tuple #[.int .i64 r1,.bool r2])/\Drawn0 w w':=by
 have H:(if a1 < (a0.size:Int) then (if 0<=a1 then (Zd.j0 k a0 a1 ((bt a0 a1) == 45)) else (none)) else (Zd.j0 k a0 a1 false))=some (r1,r2):=h
 clear h
 have HC3:=am H
 clear H
 go_enter Tryz.func117,Tryz.ntmps117
 go_upto_region 1 with (fail)
 go_cut [15] (fun v15 wc => ∃ (kq:Nat) (x15_2:Bool),v15=.bool x15_2/\Aside0 (Zd.j0 kq a0 a1 x15_2=some (r1,r2))/\Aside0 (kq<=k)/\Drawn0 w wc)
 case first =>
  have H:=HC3.o
  clear HC3
  replace H:=dI H
  rcases H with ⟨c4b0,H⟩|⟨c4b0,H⟩
  ·(first|rw [c4b0]|(simp only [Zc5,Zdv];rw [c4b0])|skip)
   replace H:=dI H
   rcases H with ⟨c5b0,H⟩|⟨_,H⟩
   ·have H':=am H
    clear H
    have p6:0<=(a1:Int):=of_decide_eq_true pQ
    have q6:a1 < (a0.size:Int):=of_decide_eq_true pQ
    have hx6:=Zdp a0 a1
    replace p6:=eq_true p6
    replace q6:=eq_true q6
    go_wp2
    go_meet
    case rel=>exact ⟨_,(((bt a0 a1) == 45)),pR,H',pJ,pD⟩
   ·cases H
  ·(first|rw [c4b0]|(simp only [Zc5,Zdv];rw [c4b0])|skip)
   have H':=am H
   clear H
   go_wp2
   go_meet
   case rel=>exact ⟨_,(false),pR,H',pJ,pD⟩
 case rest =>
  clear HC3
  obtain ⟨kq,x15_2,rfl,HA,HJ2,⟨mc2,rfl⟩⟩:=hcut
  cases kq with
  | zero=>exact absurd HA.out (by simp [Zd.j0])
  | succ kj2 =>
   have H:=HA.out
   clear HA
   simp only [Zd.j0] at H
   have HC7:=am H
   clear H
   go_upto_if 15 with (fail)
   go_cut [1] (fun v1 wc => ∃ (kq:Nat) (x1_6:Int),v1=.int .i64 x1_6/\Aside0 (Zd.j1 kq a0 x1_6=some (r1,r2))/\Aside0 (kq<=kj2)/\Drawn0 w wc)
   case first =>
    have H:=HC7.o
    clear HC7
    replace H:=tI (t:=x15_2) H
    rcases H with ⟨rfl,H⟩|⟨rfl,H⟩
    ·have H':=am H
     clear H
     go_wp2
     go_meet
     case rel=>exact ⟨_,(wrap64 (a1+1)),pR,H',pJ,pD⟩
    ·have H':=am H
     clear H
     go_wp2
     go_meet
     case rel=>exact ⟨_,(a1),pR,H',pJ,pD⟩
   case rest =>
    clear HC7
    obtain ⟨kq,x1_6,rfl,HA,HJ6,⟨mc6,rfl⟩⟩:=hcut
    cases kq with
    | zero=>exact absurd HA.out (by simp [Zd.j1])
    | succ kj6 =>
     have H:=HA.out
     clear HA
     simp only [Zd.j1] at H
     replace H:=ob H
     obtain ⟨qc,A9,H⟩:=H
     replace H:=tI (t:=qc) H
     rcases H with ⟨rfl,H⟩|⟨rfl,H⟩
     ·replace H:=dI H
      rcases H with ⟨c11b0,H⟩|⟨_,H⟩
      ·replace H:=dI H
       rcases H with ⟨c12b0,H⟩|⟨_,H⟩
       ·have HC14:=am H
        clear H
        go_upto_if 26 with (first|(refine gL (some 20) Tryz.func153 #[.string a0,.int .i64 x1_6] (h:=?_);(with_reducible refine (Zau.calls a0 x1_6 true _ A9.o).mono ?_);rintro e w' ⟨rfl,⟨nd,rfl⟩⟩;refine ⟨_,rfl,?_⟩;have p13:0<=(x1_6:Int):=of_decide_eq_true pQ;have q13:x1_6 < (a0.size:Int):=of_decide_eq_true pQ;have hx13:=Zdp a0 x1_6;replace p13:=eq_true p13;replace q13:=eq_true q13))
        (try simp only [Act.put,List.setIfInBounds_toArray,List.set_cons_zero,List.set_cons_succ])
        go_cut [1] (fun v1 wc => ∃ (kq:Nat) (x1_13:Int),v1=.int .i64 x1_13/\Aside0 (Zd.j3 kq a0 x1_13=some (r1,r2))/\Aside0 (kq<=kj6)/\Drawn0 w wc)
        case first =>
         have H:=HC14.o
         clear HC14
         replace H:=eI H
         rcases H with ⟨c15b0,c15b1,H⟩|⟨c15,c15b0,c15b1,H⟩
         ·(first|rw [c15b0]|(simp only [Zc5,Zdv];rw [c15b0])|skip)
          have H':=am H
          clear H
          go_wp2
          go_meet
          case rel=>exact ⟨_,(wrap64 (x1_6+1)),pR,H',pJ,pD⟩
         ·(first|rw [c15b0]|(simp only [Zc5,Zdv];rw [c15b0])|skip)
          have H':=am H
          clear H
          go_wp2
          go_loopg [1] kj6 (fun kq v1 w' => ∃ (x1_3:Int),v1=.int .i64 x1_3/\Aside0 (Zd.l0 kq a0 x1_3=some (r1,r2))/\Aside0 (kq<=kj6)/\Drawn0 w w')
          case atStart=>exact ⟨(x1_6),pR,H',⟨Nat.le_refl _⟩,pD⟩
          case round =>
           clear H'
           obtain ⟨x1_3,rfl,HA,HK3,⟨m3,rfl⟩⟩:=hrel
           cases gk with
           | zero=>exact absurd HA.out (by simp [Zd.l0])
           | succ k3 =>
            have H:=HA.out
            clear HA
            simp only [Zd.l0] at H
            replace H:=ob H
            obtain ⟨qd,A16,H⟩:=H
            replace H:=tI (t:=qd) H
            rcases H with ⟨rfl,H⟩|⟨rfl,H⟩
            ·have H':=am H
             clear H
             go_wp2_with (first|(refine gL (some 31) Tryz.func153 #[.string a0,.int .i64 x1_3] (h:=?_);(with_reducible refine (Zau.calls a0 x1_3 true _ A16.o).mono ?_);rintro e w' ⟨rfl,⟨nd,rfl⟩⟩;refine ⟨_,rfl,?_⟩))
             go_roundg k3
             case measure=>exact pM
             case rel=>exact ⟨(wrap64 (x1_3+1)),pR,H',pJ,pD⟩
            ·have H':=am H
             clear H
             go_wp2_with (first|(refine gL (some 31) Tryz.func153 #[.string a0,.int .i64 x1_3] (h:=?_);(with_reducible refine (Zau.calls a0 x1_3 false _ A16.o).mono ?_);rintro e w' ⟨rfl,⟨nd,rfl⟩⟩;refine ⟨_,rfl,?_⟩))
             go_meet
             case rel=>exact ⟨_,(x1_3),pR,H',pJ,pD⟩
        case rest =>
         clear HC14
         obtain ⟨kq,x1_13,rfl,HA,HJ13,⟨mc13,rfl⟩⟩:=hcut
         cases kq with
         | zero=>exact absurd HA.out (by simp [Zd.j3])
         | succ qj =>
          have H:=HA.out
          clear HA
          simp only [Zd.j3] at H
          have HC18:=am H
          clear H
          go_upto_region 9 with (fail)
          go_cut [43] (fun v43 wc => ∃ (kq:Nat) (x43_17:Bool),v43=.bool x43_17/\Aside0 (Zd.j4 kq a0 x1_13 x43_17=some (r1,r2))/\Aside0 (kq<=qj)/\Drawn0 w wc)
          case first =>
           have H:=HC18.o
           clear HC18
           replace H:=dI H
           rcases H with ⟨c19b0,H⟩|⟨c19b0,H⟩
           ·(first|rw [c19b0]|(simp only [Zc5,Zdv];rw [c19b0])|skip)
            replace H:=dI H
            rcases H with ⟨c20b0,H⟩|⟨_,H⟩
            ·have H':=am H
             clear H
             have p21:0<=(x1_13:Int):=of_decide_eq_true pQ
             have q21:x1_13 < (a0.size:Int):=of_decide_eq_true pQ
             have hx21:=Zdp a0 x1_13
             replace p21:=eq_true p21
             replace q21:=eq_true q21
             go_wp2
             go_meet
             case rel=>exact ⟨_,(((bt a0 x1_13) == 46)),pR,H',pJ,pD⟩
            ·cases H
           ·(first|rw [c19b0]|(simp only [Zc5,Zdv];rw [c19b0])|skip)
            have H':=am H
            clear H
            go_wp2
            go_meet
            case rel=>exact ⟨_,(false),pR,H',pJ,pD⟩
          case rest =>
           clear HC18
           obtain ⟨kq,x43_17,rfl,HA,HJ17,⟨mc17,rfl⟩⟩:=hcut
           cases kq with
           | zero=>exact absurd HA.out (by simp [Zd.j4])
           | succ qa =>
            have H:=HA.out
            clear HA
            simp only [Zd.j4] at H
            have HC22:=am H
            clear H
            go_upto_if 43 with (fail)
            go_cut [1] (fun v1 wc => ∃ (kq:Nat) (x1_21:Int),v1=.int .i64 x1_21/\Aside0 (Zd.j6 kq a0 x1_21=some (r1,r2))/\Aside0 (kq<=qa)/\Drawn0 w wc)
            case first =>
             have H:=HC22.o
             clear HC22
             replace H:=tI (t:=x43_17) H
             rcases H with ⟨rfl,H⟩|⟨rfl,H⟩
             ·replace H:=ob H
              obtain ⟨qe,A24,H⟩:=H
              replace H:=tI (t:=qe) H
              rcases H with ⟨rfl,H⟩|⟨rfl,H⟩
              ·have H':=am H
               clear H
               go_wp2_with (first|(refine gL (some 48) Tryz.func153 #[.string a0,.int .i64 (wrap64 (x1_13+1))] (h:=?_);(with_reducible refine (Zau.calls a0 (wrap64 (x1_13+1)) true _ A24.o).mono ?_);rintro e w' ⟨rfl,⟨nd,rfl⟩⟩;refine ⟨_,rfl,?_⟩))
               go_loopg [1] qa (fun kq v1 w' => ∃ (x1_5:Int),v1=.int .i64 x1_5/\Aside0 (Zd.l1 kq a0 x1_5=some (r1,r2))/\Aside0 (kq<=qa)/\Drawn0 w w')
               case atStart=>exact ⟨(wrap64 (x1_13+1)),pR,H',⟨Nat.le_refl _⟩,pD⟩
               case round =>
                clear H'
                obtain ⟨x1_5,rfl,HA,HK5,⟨m5,rfl⟩⟩:=hrel
                cases gk with
                | zero=>exact absurd HA.out (by simp [Zd.l1])
                | succ k5 =>
                 have H:=HA.out
                 clear HA
                 simp only [Zd.l1] at H
                 replace H:=ob H
                 obtain ⟨qf,A26,H⟩:=H
                 replace H:=tI (t:=qf) H
                 rcases H with ⟨rfl,H⟩|⟨rfl,H⟩
                 ·have H':=am H
                  clear H
                  go_wp2_with (first|(refine gL (some 53) Tryz.func153 #[.string a0,.int .i64 x1_5] (h:=?_);(with_reducible refine (Zau.calls a0 x1_5 true _ A26.o).mono ?_);rintro e w' ⟨rfl,⟨nd,rfl⟩⟩;refine ⟨_,rfl,?_⟩))
                  go_roundg k5
                  case measure=>exact pM
                  case rel=>exact ⟨(wrap64 (x1_5+1)),pR,H',pJ,pD⟩
                 ·have H':=am H
                  clear H
                  go_wp2_with (first|(refine gL (some 53) Tryz.func153 #[.string a0,.int .i64 x1_5] (h:=?_);(with_reducible refine (Zau.calls a0 x1_5 false _ A26.o).mono ?_);rintro e w' ⟨rfl,⟨nd,rfl⟩⟩;refine ⟨_,rfl,?_⟩))
                  go_meet
                  case rel=>exact ⟨_,(x1_5),pR,H',pJ,pD⟩
              ·simp only [Option.some.injEq,Prod.mk.injEq] at H
               obtain ⟨rfl,rfl⟩:=H
               go_wp2_with (first|(refine gL (some 48) Tryz.func153 #[.string a0,.int .i64 (wrap64 (x1_13+1))] (h:=?_);(with_reducible refine (Zau.calls a0 (wrap64 (x1_13+1)) false _ A24.o).mono ?_);rintro e w' ⟨rfl,⟨nd,rfl⟩⟩;refine ⟨_,rfl,?_⟩))
               go_ret2
               exact ⟨pR,pD⟩
             ·have H':=am H
              clear H
              go_wp2
              go_meet
              case rel=>exact ⟨_,(x1_13),pR,H',pJ,pD⟩
            case rest =>
             clear HC22
             obtain ⟨kq,x1_21,rfl,HA,HJ21,⟨mc21,rfl⟩⟩:=hcut
             cases kq with
             | zero=>exact absurd HA.out (by simp [Zd.j6])
             | succ qk =>
              have H:=HA.out
              clear HA
              simp only [Zd.j6] at H
              have HC28:=am H
              clear H
              go_upto_region 15 with (fail)
              go_cut [71] (fun v71 wc => ∃ (kq:Nat) (x71_27:Bool),v71=.bool x71_27/\Aside0 (Zd.j7 kq a0 x1_21 x71_27=some (r1,r2))/\Aside0 (kq<=qk)/\Drawn0 w wc)
              case first =>
               have H:=HC28.o
               clear HC28
               replace H:=dI H
               rcases H with ⟨c29b0,H⟩|⟨c29b0,H⟩
               ·(first|rw [c29b0]|(simp only [Zc5,Zdv];rw [c29b0])|skip)
                replace H:=dI H
                rcases H with ⟨c30b0,H⟩|⟨_,H⟩
                ·replace H:=eI H
                 rcases H with ⟨c32b0,c32b1,H⟩|⟨c32,c32b0,c32b1,H⟩
                 ·have H':=am H
                  clear H
                  have p31:0<=(x1_21:Int):=of_decide_eq_true pQ
                  have q31:x1_21 < (a0.size:Int):=of_decide_eq_true pQ
                  have hx31:=Zdp a0 x1_21
                  replace p31:=eq_true p31
                  replace q31:=eq_true q31
                  go_wp2
                  go_meet
                  case rel=>exact ⟨_,(true),pR,H',pJ,pD⟩
                 ·have H':=am H
                  clear H
                  have p31:0<=(x1_21:Int):=of_decide_eq_true pQ
                  have q31:x1_21 < (a0.size:Int):=of_decide_eq_true pQ
                  have hx31:=Zdp a0 x1_21
                  replace p31:=eq_true p31
                  replace q31:=eq_true q31
                  have p33:0<=(x1_21:Int):=of_decide_eq_true pQ
                  have q33:x1_21 < (a0.size:Int):=of_decide_eq_true pQ
                  have hx33:=Zdp a0 x1_21
                  replace p33:=eq_true p33
                  replace q33:=eq_true q33
                  go_wp2
                  go_meet
                  case rel=>exact ⟨_,(((bt a0 x1_21) == 69)),pR,H',pJ,pD⟩
                ·cases H
               ·(first|rw [c29b0]|(simp only [Zc5,Zdv];rw [c29b0])|skip)
                have H':=am H
                clear H
                go_wp2
                go_meet
                case rel=>exact ⟨_,(false),pR,H',pJ,pD⟩
              case rest =>
               clear HC28
               obtain ⟨kq,x71_27,rfl,HA,HJ27,⟨mc27,rfl⟩⟩:=hcut
               cases kq with
               | zero=>exact absurd HA.out (by simp [Zd.j7])
               | succ qb =>
                have H:=HA.out
                clear HA
                simp only [Zd.j7] at H
                replace H:=tI (t:=x71_27) H
                rcases H with ⟨rfl,H⟩|⟨rfl,H⟩
                ·have HC35:=am H
                 clear H
                 go_upto_region 17 with (fail)
                 go_cut [89] (fun v89 wc => ∃ (kq:Nat) (x89_34:Bool),v89=.bool x89_34/\Aside0 (Zd.j8 kq a0 (wrap64 (x1_21+1)) x89_34=some (r1,r2))/\Aside0 (kq<=qb)/\Drawn0 w wc)
                 case first =>
                  have H:=HC35.o
                  clear HC35
                  replace H:=dI H
                  rcases H with ⟨c36b0,H⟩|⟨c36b0,H⟩
                  ·(first|rw [c36b0]|(simp only [Zc5,Zdv];rw [c36b0])|skip)
                   obtain ⟨ji37,hji37⟩:∃ j_:Int,(wrap64 (x1_21+1))=j_:=⟨_,rfl⟩
                   replace H:(if 0<=(ji37) then (if (bt a0 (ji37))=43 then (Zd.j8 qb a0 ji37 true) else (Zd.j8 qb a0 ji37 ((bt a0 (ji37)) == 45))) else (none))=some (r1,r2):=by first|(rw [hji37] at H;exact H)|(simp only [hji37] at H ⊢;exact H)
                   (try rw [hji37] at c36b0)
                   have hji37w:(IntKind.i64.wrap (x1_21+1))=ji37:=(Zc5 _).trans hji37
                   replace H:=dI H
                   rcases H with ⟨c38b0,H⟩|⟨_,H⟩
                   ·replace H:=eI H
                    rcases H with ⟨c40b0,c40b1,H⟩|⟨c40,c40b0,c40b1,H⟩
                    ·have H':=am H
                     clear H
                     have p39:0<=((ji37):Int):=of_decide_eq_true pQ
                     have q39:(ji37) < (a0.size:Int):=of_decide_eq_true pQ
                     have hx39:=Zdp a0 (ji37)
                     replace p39:=eq_true p39
                     replace q39:=eq_true q39
                     go_wp2
                     go_meet
                     case rel=>exact ⟨_,(true),pR,(by first|exact H'|(have H_:=H'.out;simp only [<- hji37] at H_;exact ⟨H_⟩)|(refine ⟨?_⟩;have H_:=H'.out;simp only [<- hji37] at H_ ⊢;exact H_)),pJ,pD⟩
                    ·have H':=am H
                     clear H
                     have p39:0<=((ji37):Int):=of_decide_eq_true pQ
                     have q39:(ji37) < (a0.size:Int):=of_decide_eq_true pQ
                     have hx39:=Zdp a0 (ji37)
                     replace p39:=eq_true p39
                     replace q39:=eq_true q39
                     have p41:0<=((ji37):Int):=of_decide_eq_true pQ
                     have q41:(ji37) < (a0.size:Int):=of_decide_eq_true pQ
                     have hx41:=Zdp a0 (ji37)
                     replace p41:=eq_true p41
                     replace q41:=eq_true q41
                     go_wp2
                     go_meet
                     case rel=>exact ⟨_,(((bt a0 (ji37)) == 45)),(by first|rfl|(simp;done)|(simp only [<- hji37] <;> (first|rfl|simp))|(simp [*];done)),(by first|exact H'|(have H_:=H'.out;simp only [<- hji37] at H_;exact ⟨H_⟩)|(refine ⟨?_⟩;have H_:=H'.out;simp only [<- hji37] at H_ ⊢;exact H_)),pJ,pD⟩
                   ·cases H
                  ·(first|rw [c36b0]|(simp only [Zc5,Zdv];rw [c36b0])|skip)
                   have H':=am H
                   clear H
                   go_wp2
                   go_meet
                   case rel=>exact ⟨_,(false),pR,H',pJ,pD⟩
                 case rest =>
                  clear HC35
                  obtain ⟨kq,x89_34,rfl,HA,HJ34,⟨mc34,rfl⟩⟩:=hcut
                  cases kq with
                  | zero=>exact absurd HA.out (by simp [Zd.j8])
                  | succ ql =>
                   have H:=HA.out
                   clear HA
                   simp only [Zd.j8] at H
                   have HC42:=am H
                   clear H
                   go_upto_if 89 with (fail)
                   go_cut [1] (fun v1 wc => ∃ (kq:Nat) (x1_41:Int),v1=.int .i64 x1_41/\Aside0 (Zd.j9 kq a0 x1_41=some (r1,r2))/\Aside0 (kq<=ql)/\Drawn0 w wc)
                   case first =>
                    have H:=HC42.o
                    clear HC42
                    replace H:=tI (t:=x89_34) H
                    rcases H with ⟨rfl,H⟩|⟨rfl,H⟩
                    ·have H':=am H
                     clear H
                     go_wp2
                     go_meet
                     case rel=>exact ⟨_,(wrap64 ((wrap64 (x1_21+1))+1)),pR,H',pJ,pD⟩
                    ·have H':=am H
                     clear H
                     go_wp2
                     go_meet
                     case rel=>exact ⟨_,((wrap64 (x1_21+1))),pR,H',pJ,pD⟩
                   case rest =>
                    clear HC42
                    obtain ⟨kq,x1_41,rfl,HA,HJ41,⟨mc41,rfl⟩⟩:=hcut
                    cases kq with
                    | zero=>exact absurd HA.out (by simp [Zd.j9])
                    | succ qi =>
                     have H:=HA.out
                     clear HA
                     simp only [Zd.j9] at H
                     replace H:=ob H
                     obtain ⟨qg,A44,H⟩:=H
                     replace H:=tI (t:=qg) H
                     rcases H with ⟨rfl,H⟩|⟨rfl,H⟩
                     ·have H':=am H
                      clear H
                      go_wp2_with (first|(refine gL (some 94) Tryz.func153 #[.string a0,.int .i64 x1_41] (h:=?_);(with_reducible refine (Zau.calls a0 x1_41 true _ A44.o).mono ?_);rintro e w' ⟨rfl,⟨nd,rfl⟩⟩;refine ⟨_,rfl,?_⟩))
                      go_loopg [1] qi (fun kq v1 w' => ∃ (x1_9:Int),v1=.int .i64 x1_9/\Aside0 (Zd.l2 kq a0 x1_9=some (r1,r2))/\Aside0 (kq<=qi)/\Drawn0 w w')
                      case atStart=>exact ⟨(x1_41),pR,H',⟨Nat.le_refl _⟩,pD⟩
                      case round =>
                       clear H'
                       obtain ⟨x1_9,rfl,HA,HK9,⟨m9,rfl⟩⟩:=hrel
                       cases gk with
                       | zero=>exact absurd HA.out (by simp [Zd.l2])
                       | succ k9 =>
                        have H:=HA.out
                        clear HA
                        simp only [Zd.l2] at H
                        replace H:=ob H
                        obtain ⟨qh,A46,H⟩:=H
                        replace H:=tI (t:=qh) H
                        rcases H with ⟨rfl,H⟩|⟨rfl,H⟩
                        ·have H':=am H
                         clear H
                         go_wp2_with (first|(refine gL (some 99) Tryz.func153 #[.string a0,.int .i64 x1_9] (h:=?_);(with_reducible refine (Zau.calls a0 x1_9 true _ A46.o).mono ?_);rintro e w' ⟨rfl,⟨nd,rfl⟩⟩;refine ⟨_,rfl,?_⟩))
                         go_roundg k9
                         case measure=>exact pM
                         case rel=>exact ⟨(wrap64 (x1_9+1)),pR,H',pJ,pD⟩
                        ·simp only [Option.some.injEq,Prod.mk.injEq] at H
                         obtain ⟨rfl,rfl⟩:=H
                         go_wp2_with (first|(refine gL (some 99) Tryz.func153 #[.string a0,.int .i64 x1_9] (h:=?_);(with_reducible refine (Zau.calls a0 x1_9 false _ A46.o).mono ?_);rintro e w' ⟨rfl,⟨nd,rfl⟩⟩;refine ⟨_,rfl,?_⟩))
                         go_ret2
                         exact ⟨pR,pD⟩
                     ·simp only [Option.some.injEq,Prod.mk.injEq] at H
                      obtain ⟨rfl,rfl⟩:=H
                      go_wp2_with (first|(refine gL (some 94) Tryz.func153 #[.string a0,.int .i64 x1_41] (h:=?_);(with_reducible refine (Zau.calls a0 x1_41 false _ A44.o).mono ?_);rintro e w' ⟨rfl,⟨nd,rfl⟩⟩;refine ⟨_,rfl,?_⟩))
                      go_ret2
                      exact ⟨pR,pD⟩
                ·simp only [Option.some.injEq,Prod.mk.injEq] at H
                 obtain ⟨rfl,rfl⟩:=H
                 go_wp2
                 go_ret2
                 exact ⟨pR,pD⟩
       ·cases H
      ·cases H
     ·simp only [Option.some.injEq,Prod.mk.injEq] at H
      obtain ⟨rfl,rfl⟩:=H
      go_wp2_with (first|(refine gL (some 20) Tryz.func153 #[.string a0,.int .i64 x1_6] (h:=?_);(with_reducible refine (Zau.calls a0 x1_6 false _ A9.o).mono ?_);rintro e w' ⟨rfl,⟨nd,rfl⟩⟩;refine ⟨_,rfl,?_⟩))
      go_ret2
      exact ⟨pR,pD⟩
mutual
def Zh.j0:Nat->ByteArray->Bool->Option (Bool × List Int × Int × Int)
 | 0,_,_=>none
 | k+1,x0,x18=>if x18=true then (some (false,([]:List Int),0,32)) else (if (x0.size:Int) > 2000 then (some (false,([]:List Int),0,5)) else (if 0 < (x0.size:Int) then (Zh.l0 k x0 ([]:List Int) false 0 ((bt x0 0) == 45) 0) else (none)))
def Zh.l0:Nat->ByteArray->List Int->Bool->Int->Bool->Int->Option (Bool × List Int × Int × Int)
 | 0,_,_,_,_,_,_=>none
 | k+1,x0,x7,x8,x9,qe,qf=>if x9 < (x0.size:Int) then (if 0<=x9 then (if (bt x0 x9)=101 then (Zh.j2 k x0 x7 x8 x9 false qe qf) else (Zh.j2 k x0 x7 x8 x9 ((bt x0 x9) != 69) qe qf)) else (none)) else (Zh.j2 k x0 x7 x8 x9 false qe qf)
def Zh.j2:Nat->ByteArray->List Int->Bool->Int->Bool->Bool->Int->Option (Bool × List Int × Int × Int)
 | 0,_,_,_,_,_,_,_=>none
 | k+1,x0,x7,x8,x9,x52,qe,qf=>if x52=true then (if 0<=x9 then (if x9 < (x0.size:Int) then (if (bt x0 x9)=46 then (Zh.l0 k x0 x7 true (wrap64 (x9+1)) qe qf) else (if (bt x0 x9)=45 then (Zh.l0 k x0 x7 x8 (wrap64 (x9+1)) qe qf) else ((some (([((bt x0 x9) - 48) % 256]:List Int):List Int)).bind fun qp=>(if qp.length+x7.length < 17592186044416 then ((some (qp++x7:List Int)).bind fun qo=>(if x8=true then (Zh.l0 k x0 qo x8 (wrap64 (x9+1)) qe (wrap64 (qf - 1))) else (Zh.l0 k x0 qo x8 (wrap64 (x9+1)) qe qf))) else (none))))) else (none)) else (none)) else (if x9 < (x0.size:Int) then (Zh.l1 k x0 x7 (wrap64 (x9+1)) false 0 0 qe qf) else ((Zl.f k qe x7 qf).bind fun q0=>(some (q0.1,q0.2.1,q0.2.2.1,q0.2.2.2))))
def Zh.l1:Nat->ByteArray->List Int->Int->Bool->Int->Int->Bool->Int->Option (Bool × List Int × Int × Int)
 | 0,_,_,_,_,_,_,_,_=>none
 | k+1,x0,x7,x9,x10,x11,x12,qe,qf=>if x9 < (x0.size:Int) then (if 0<=x9 then (if (bt x0 x9)=45 then (Zh.l1 k x0 x7 (wrap64 (x9+1)) true x11 x12 qe qf) else (if (bt x0 x9)=43 then (Zh.l1 k x0 x7 (wrap64 (x9+1)) x10 x11 x12 qe qf) else (if x11 > 0 then (Zh.j4 k x0 x7 x9 x10 x11 x12 true qe qf) else (Zh.j4 k x0 x7 x9 x10 x11 x12 ((bt x0 x9) != 48) qe qf)))) else (none)) else (if x10=true then ((Zl.f k qe x7 (wrap64 (qf+(wrap64 (-x11))))).bind fun qy=>(some (qy.1,qy.2.1,qy.2.2.1,qy.2.2.2))) else ((Zl.f k qe x7 (wrap64 (qf+x11))).bind fun qz=>(some (qz.1,qz.2.1,qz.2.2.1,qz.2.2.2))))
def Zh.j4:Nat->ByteArray->List Int->Int->Bool->Int->Int->Bool->Bool->Int->Option (Bool × List Int × Int × Int)
 | 0,_,_,_,_,_,_,_,_,_=>none
 | k+1,x0,x7,x9,x10,x11,x12,qab,qe,qf=>if qab=true then (if (wrap64 (x12+1)) > 6 then (some (false,([]:List Int),0,52)) else (if 0<=x9 then (if x9 < (x0.size:Int) then (Zh.l1 k x0 x7 (wrap64 (x9+1)) x10 (wrap64 ((wrap64 (10*x11))+(((bt x0 x9) - 48) % 256))) (wrap64 (x12+1)) qe qf) else (none)) else (none))) else (if x12 > 6 then (some (false,([]:List Int),0,52)) else (if 0<=x9 then (if x9 < (x0.size:Int) then (Zh.l1 k x0 x7 (wrap64 (x9+1)) x10 (wrap64 ((wrap64 (10*x11))+(((bt x0 x9) - 48) % 256))) x12 qe qf) else (none)) else (none)))
end
def Zh.f (k:Nat) (a0:ByteArray):Option (Bool × List Int × Int × Int):=(Zd.f k a0 0).bind fun qq=>(if qq.2=true then (Zh.j0 k a0 (qq.1 != (a0.size:Int))) else (Zh.j0 k a0 true))
theorem Zh.calls (k:Nat) (a0:ByteArray) (r1:Bool) (r2:List Int) (r3:Int) (r4:Int) (w:World) (h:Zh.f k a0=some (r1,r2,r3,r4)) :
  Calls Tryz.prog 58 #[.string a0] w fun e w' => ∃ v1_:Value,e=.returned (.tuple #[.agg #[.bool r1,v1_,.int .i64 r3],.int .i64 r4])/\Kd.R (Kd.int .u32) 85 w' w.heap.size (fun _=>True) v1_ r2/\Below w.heap.size w w':=by
 have hu24:=Tryz.underlying24
 have hu30:=Tryz.underlying30
 have HB:=am (Below.refl w.heap.size w)
 have H:((Zd.f k a0 0).bind fun qq=>(if qq.2=true then (Zh.j0 k a0 (qq.1 != (a0.size:Int))) else (Zh.j0 k a0 true)))=some (r1,r2,r3,r4):=h
 clear h
 replace H:=ob H
 obtain ⟨⟨jp,jq⟩,A2,H⟩:=H;(try dsimp only at H)
 have HC3:=am H
 clear H
 go_enter Tryz.func58,Tryz.ntmps58
 go_upto_region 2 with (first|((with_reducible refine gd 2 ?_);(try (refine Za5 (by rfl) ?_;dsimp only));refine bx 2 #[.bool false,.slice none 0 0,.int .i64 0] 24 (h:=?_);intro qg hg w4 hbox hb;have qb:=am hbox;have qac:=gW hg;replace HB:=bS hb;clear hb hbox hg)|(refine gL (some 15) Tryz.func117 #[.string a0,.int .i64 0] (h:=?_);(with_reducible refine (Zd.calls k a0 0 jp jq _ A2.o).mono ?_);rintro e w' ⟨rfl,⟨nd,rfl⟩⟩;refine ⟨_,rfl,?_⟩))
 (try simp only [Act.put,List.setIfInBounds_toArray,List.set_cons_zero,List.set_cons_succ])
 go_cut [18] (fun v18 wc => ∃ (kq:Nat) (x18_2:Bool),v18=.bool x18_2/\Aside0 (Zh.j0 kq a0 x18_2=some (r1,r2,r3,r4))/\Aside0 (kq<=k)/\Aside0 (wc.heap[qg]? = some (.cells #[.bool false,(.slice none 0 0),.int .i64 0] 24 (0,0)))/\Aside0 (Below w.heap.size w wc))
 case first =>
  have H:=HC3.o
  clear HC3
  replace H:=tI (t:=jq) H
  rcases H with ⟨rfl,H⟩|⟨rfl,H⟩
  ·have H':=am H
   clear H
   go_wp2
   go_meet
   case rel=>exact ⟨_,((jp != (a0.size:Int))),pR,H',pJ,⟨Za qb.o pl⟩,⟨pB⟩⟩
  ·have H':=am H
   clear H
   go_wp2
   go_meet
   case rel=>exact ⟨_,(true),pR,H',pJ,⟨Za qb.o pl⟩,⟨pB⟩⟩
 case rest =>
  clear HC3
  obtain ⟨kq,x18_2,rfl,HA,HJ2,qb,HB⟩:=hcut
  cases kq with
  | zero=>exact absurd HA.out (by simp [Zh.j0])
  | succ kj2 =>
   have H:=HA.out
   clear HA
   simp only [Zh.j0] at H
   replace H:=tI (t:=x18_2) H
   rcases H with ⟨rfl,H⟩|⟨rfl,H⟩
   ·simp only [Option.some.injEq,Prod.mk.injEq] at H
    obtain ⟨rfl,rfl,rfl,rfl⟩:=H
    obtain ⟨_,_,_,_,_,_⟩:=cEc qb.o
    go_wp2
    refine bodyPost_ret (Zbd rfl _ _ qg 24 #[.bool false,.slice none 0 0,.int .i64 0] (0,0) _ rfl (by exact p3 qb) Tryz.underlying24 rfl (by kernel_rfl)) rfl ?_
    exact ⟨_,pE,pN,pB⟩
   ·by_cases c8:(a0.size:Int) > 2000
    ·rw [if_pos c8] at H
     have c8b0:decide (2000 < (a0.size:Int))=true:=decide_eq_true c8
     have c8b1:decide (2000 < a0.size)=true:=decide_eq_true (by omega)
     clear c8
     simp only [Option.some.injEq,Prod.mk.injEq] at H
     obtain ⟨rfl,rfl,rfl,rfl⟩:=H
     obtain ⟨_,_,_,_,_,_⟩:=cEc qb.o
     go_wp2
     refine bodyPost_ret (Zbd rfl _ _ qg 24 #[.bool false,.slice none 0 0,.int .i64 0] (0,0) _ rfl (by exact p3 qb) Tryz.underlying24 rfl (by kernel_rfl)) rfl ?_
     exact ⟨_,pE,pN,pB⟩
    ·rw [if_neg c8] at H
     have c8b0:decide (2000 < (a0.size:Int))=false:=decide_eq_false c8
     have c8b1:decide (2000 < a0.size)=false:=decide_eq_false (by omega)
     clear c8
     by_cases c10:0 < (a0.size:Int)
     ·rw [if_pos c10] at H
      have c10b0:decide (0 < (a0.size:Int))=true:=decide_eq_true c10
      have c10b1:decide (0 < a0.size)=true:=decide_eq_true (by omega)
      clear c10
      have H':=am H
      clear H
      have p11:0<=(0:Int):=(by omega)
      have q11:0 < a0.size:=(by have:(0:Int) < (a0.size:Int):=of_decide_eq_true pQ;omega)
      have hx11:∀ h:0 < a0.size,((a0[0]'h).toNat:Int)=bt a0 0:=Zdp a0 0
      clear p11
      have qi11:(0 < (a0.size:Int))=True:=eq_true (of_decide_eq_true pQ)
      replace q11:=eq_true q11
      go_wp2_with (first|((with_reducible refine gd 6 ?_);(try (refine Za5 (by rfl) ?_;dsimp only));refine bx 6 #[.bool false,.slice none 0 0,.int .i64 0] 30 (h:=?_);intro qj hg w12 hbox hb;have qc:=am hbox;have qad:=gW hg;have qd:=nL hg qb;have qk:=nG hg qb;replace qb:=bb qb hb;replace HB:=bS hb;clear hb hbox hg;have qae:=qk.o;have qal:=qd.o;obtain ⟨_,_,_,_,_,_⟩:=cEc qc.o))
      go_loopg [7,8,9] kj2 (fun kq v7 v8 v9 w' => ∃ (x7_2:List Int) (x8_2:Bool) (x9_2:Int) (qa:Int),v8=.bool x8_2/\v9=.int .i64 x9_2/\Aside0 (Zh.l0 kq a0 x7_2 x8_2 x9_2 ((bt a0 0) == 45) qa=some (r1,r2,r3,r4))/\Aside0 (kq<=kj2)/\Aside0 (Kd.R (Kd.int .i64) 3 w' w.heap.size (fun _=>True) v7 x7_2)/\Aside0 (w'.heap[qg]? = some (.cells #[.bool false,(.slice none 0 0),.int .i64 0] 24 (0,0)))/\Aside0 (w'.heap[qj]? = some (.cells #[.bool ((bt a0 0) == 45),(.slice none 0 0),.int .i64 qa] 30 (0,0)))/\Aside0 (Below w.heap.size w w'))
      case atStart=>exact ⟨(([]:List Int)),(false),(0),(0),pR,pR,H',⟨Nat.le_refl _⟩,⟨pN⟩,⟨bf qd.o qb.o⟩,⟨by exact p3 qc⟩,⟨pB⟩⟩
      case round =>
       clear H'
       obtain ⟨x7_2,x8_2,x9_2,qa,rfl,rfl,HA,HK2,HO_7,qb,qc,HB⟩:=hrel
       cases gk with
       | zero=>exact absurd HA.out (by simp [Zh.l0])
       | succ k2 =>
        have H:=HA.out
        clear HA
        simp only [Zh.l0] at H
        have HC15:=am H
        clear H
        go_upto_region 10 with (fail)
        go_cut [52] (fun v52 wc => ∃ (kq:Nat) (x52_14:Bool),v52=.bool x52_14/\Aside0 (Zh.j2 kq a0 x7_2 x8_2 x9_2 x52_14 ((bt a0 0) == 45) qa=some (r1,r2,r3,r4))/\Aside0 (kq<=k2)/\Aside0 (Kd.R (Kd.int .i64) 3 wc w.heap.size (fun _=>True) u7 x7_2)/\Aside0 (wc.heap[qg]? = some (.cells #[.bool false,(.slice none 0 0),.int .i64 0] 24 (0,0)))/\Aside0 (wc.heap[qj]? = some (.cells #[.bool ((bt a0 0) == 45),(.slice none 0 0),.int .i64 qa] 30 (0,0)))/\Aside0 (Below w.heap.size w wc))
        case first =>
         have H:=HC15.o
         clear HC15
         replace H:=dI H
         rcases H with ⟨c16b0,H⟩|⟨c16b0,H⟩
         ·(first|rw [c16b0]|(simp only [Zc5,Zdv];rw [c16b0])|skip)
          replace H:=dI H
          rcases H with ⟨c17b0,H⟩|⟨_,H⟩
          ·replace H:=eI H
           rcases H with ⟨c19b0,c19b1,H⟩|⟨c19,c19b0,c19b1,H⟩
           ·have H':=am H
            clear H
            have p18:0<=(x9_2:Int):=of_decide_eq_true pQ
            have q18:x9_2 < (a0.size:Int):=of_decide_eq_true pQ
            have hx18:=Zdp a0 x9_2
            replace p18:=eq_true p18
            replace q18:=eq_true q18
            go_wp2
            go_meet
            case rel=>exact ⟨_,(false),pR,H',pJ,⟨by refine rp ?_;exact HO_7.o⟩,⟨Za qb.o pl⟩,⟨Za qc.o pl⟩,⟨pB⟩⟩
           ·have H':=am H
            clear H
            have p18:0<=(x9_2:Int):=of_decide_eq_true pQ
            have q18:x9_2 < (a0.size:Int):=of_decide_eq_true pQ
            have hx18:=Zdp a0 x9_2
            replace p18:=eq_true p18
            replace q18:=eq_true q18
            have p20:0<=(x9_2:Int):=of_decide_eq_true pQ
            have q20:x9_2 < (a0.size:Int):=of_decide_eq_true pQ
            have hx20:=Zdp a0 x9_2
            replace p20:=eq_true p20
            replace q20:=eq_true q20
            go_wp2
            go_meet
            case rel=>exact ⟨_,(((bt a0 x9_2) != 69)),pR,H',pJ,⟨by refine rp ?_;exact HO_7.o⟩,⟨Za qb.o pl⟩,⟨Za qc.o pl⟩,⟨pB⟩⟩
          ·cases H
         ·(first|rw [c16b0]|(simp only [Zc5,Zdv];rw [c16b0])|skip)
          have H':=am H
          clear H
          go_wp2
          go_meet
          case rel=>exact ⟨_,(false),pR,H',pJ,⟨by refine rp ?_;exact HO_7.o⟩,⟨Za qb.o pl⟩,⟨Za qc.o pl⟩,⟨pB⟩⟩
        case rest =>
         clear HC15
         obtain ⟨kq,x52_14,rfl,HA,HJ14,HO_7,qb,qc,HB⟩:=hcut
         cases kq with
         | zero=>exact absurd HA.out (by simp [Zh.j2])
         | succ qn =>
          have H:=HA.out
          clear HA
          simp only [Zh.j2] at H
          replace H:=tI (t:=x52_14) H
          rcases H with ⟨rfl,H⟩|⟨rfl,H⟩
          ·replace H:=dI H
           rcases H with ⟨c22b0,H⟩|⟨_,H⟩
           ·replace H:=dI H
            rcases H with ⟨c23b0,H⟩|⟨_,H⟩
            ·replace H:=eI H
             rcases H with ⟨c25b0,c25b1,H⟩|⟨c25,c25b0,c25b1,H⟩
             ·have H':=am H
              clear H
              have p24:0<=(x9_2:Int):=of_decide_eq_true pQ
              have q24:x9_2 < (a0.size:Int):=of_decide_eq_true pQ
              have hx24:=Zdp a0 x9_2
              replace p24:=eq_true p24
              replace q24:=eq_true q24
              go_wp2
              go_roundg qn
              case measure=>exact pM
              case rel=>exact ⟨(x7_2),(true),(wrap64 (x9_2+1)),(qa),pR,pR,H',pJ,⟨by refine rp ?_;exact HO_7.o⟩,⟨Za qb.o pl⟩,⟨Za qc.o pl⟩,⟨pB⟩⟩
             ·replace H:=eI H
              rcases H with ⟨c27b0,c27b1,H⟩|⟨c27,c27b0,c27b1,H⟩
              ·have H':=am H
               clear H
               have p24:0<=(x9_2:Int):=of_decide_eq_true pQ
               have q24:x9_2 < (a0.size:Int):=of_decide_eq_true pQ
               have hx24:=Zdp a0 x9_2
               replace p24:=eq_true p24
               replace q24:=eq_true q24
               have p26:0<=(x9_2:Int):=of_decide_eq_true pQ
               have q26:x9_2 < (a0.size:Int):=of_decide_eq_true pQ
               have hx26:=Zdp a0 x9_2
               replace p26:=eq_true p26
               replace q26:=eq_true q26
               go_wp2
               go_roundg qn
               case measure=>exact pM
               case rel=>exact ⟨(x7_2),(x8_2),(wrap64 (x9_2+1)),(qa),pR,pR,H',pJ,⟨by refine rp ?_;exact HO_7.o⟩,⟨Za qb.o pl⟩,⟨Za qc.o pl⟩,⟨pB⟩⟩
              ·obtain ⟨qp,q2⟩:∃ y_:List Int,y_=(([((bt a0 x9_2) - 48) % 256]:List Int)):=⟨_,rfl⟩
               replace H:(if qp.length+x7_2.length < 17592186044416 then ((some (qp++x7_2:List Int)).bind fun qo=>(if x8_2=true then (Zh.l0 qn a0 qo x8_2 (wrap64 (x9_2+1)) ((bt a0 0) == 45) (wrap64 (qa - 1))) else (Zh.l0 qn a0 qo x8_2 (wrap64 (x9_2+1)) ((bt a0 0) == 45) qa))) else (none))=some (r1,r2,r3,r4):=by have hy_:=q2;exact pH
               have qx:=am q2
               clear q2
               by_cases c29:qp.length+x7_2.length < 17592186044416
               ·rw [if_pos c29] at H
                have LMc29:=am c29
                clear c29
                obtain ⟨qo,q3⟩:∃ y_:List Int,y_=(qp++x7_2):=⟨_,rfl⟩
                replace H:(if x8_2=true then (Zh.l0 qn a0 qo x8_2 (wrap64 (x9_2+1)) ((bt a0 0) == 45) (wrap64 (qa - 1))) else (Zh.l0 qn a0 qo x8_2 (wrap64 (x9_2+1)) ((bt a0 0) == 45) qa))=some (r1,r2,r3,r4):=by have hy_:=q3;exact pH
                have q7:=am q3
                clear q3
                replace H:=tI (t:=x8_2) H
                rcases H with ⟨rfl,H⟩|⟨rfl,H⟩
                ·have H':=am H
                 clear H
                 have p24:0<=(x9_2:Int):=of_decide_eq_true pQ
                 have q24:x9_2 < (a0.size:Int):=of_decide_eq_true pQ
                 have hx24:=Zdp a0 x9_2
                 replace p24:=eq_true p24
                 replace q24:=eq_true q24
                 have p26:0<=(x9_2:Int):=of_decide_eq_true pQ
                 have q26:x9_2 < (a0.size:Int):=of_decide_eq_true pQ
                 have hx26:=Zdp a0 x9_2
                 replace p26:=eq_true p26
                 replace q26:=eq_true q26
                 have p28:0<=(x9_2:Int):=of_decide_eq_true pQ
                 have q28:x9_2 < (a0.size:Int):=of_decide_eq_true pQ
                 have hx28:=Zdp a0 x9_2
                 replace p28:=eq_true p28
                 replace q28:=eq_true q28
                 go_wp2_with (first|((with_reducible refine gd 70 ?_);(try (refine Za5 (by rfl) ?_;dsimp only));refine Kd.Zgi (Kd.int .i64) _ 3 ?hg (N:=70) ?hd (xs:=([((bt a0 x9_2) - 48) % 256]:List Int)) (inner:=[.int .i64 (((bt a0 x9_2) - 48) % 256)]) (ok:=fun _=>True) (okp:=fun _=>True) ?hr ?hp (fun _ hk=>hk) trivial (Below.refl _ _) (Nat.le_refl _) (by simp) ?_;(case hd=>rfl);(case hg=>rfl);(case hr=>first|(go_simp;done)|(go_simp;rfl));(case hp=>exact (Reps.one (show Kd.M (Kd.int .i64) _ _ _ (((bt a0 x9_2) - 48) % 256) [.int .i64 (((bt a0 x9_2) - 48) % 256)] from rfl) (Reps.none _ _)));intro jh w31 ho32 hb hg_ hnew_;clear hg_ hnew_;(first|rw [<- qx.out] at ho32|(simp only [Int.reduceToNat] at ho32;rw [<- qx.out] at ho32));have ql:=am (Kd.Zt (Kd.Zaj ho32 (Kd.R_lt (Kd.Zc HO_7.o pl))) (Zb pB));replace HO_7:=reR HO_7 ho32 hb;replace qb:=bb qb hb;replace qc:=bb qc hb;replace HB:=bS hb;clear hb ho32;obtain ⟨jr,jt,jv⟩:=Kd.Zm HO_7.o;subst jv)|((with_reducible refine Za1 (b:=.append) (xs:=#[.tmp 70,.tmp 71]) rfl ?_);(try (refine Za5 (by rfl) ?_;dsimp only));at_builtin;refine Kd.Zdy (Kd.int .i64) (w0:=w) w.heap.size rfl (.tmp 70) (.tmp 71) 28 3 (.int .i64 0) 8 rfl Tryz.underlying28 info3 rfl (by decide) (by omega) jh qp x7_2 _ _ _ (fun k_=>some k_ ≠ (.slice jr x7_2.length jt:Value).ownBlock) (fun _=>False) rfl rfl ?aO ?aR (fun _ _ h=>h) (fun _ h=>h.elim) ?aF ?aB ?aS ?aL ?_;(case aR=>exact Kd.Zv (Kd.Zf HO_7.o).2.2 pl);(case aB=>exact pB);(case aF=>exact (fun k_ hk=>Kd.fresh' (Kd.R_lt (Kd.Zc HO_7.o pl)) k_ hk));(case aO=>exact (Kd.Zc (Kd.Zi ql.o (fun _ hk=>hk.2)) pl));(case aS=>exact (Zb pB));(case aL=>have := LMc29.o;omega);intro qaa w33 ho hb hg hat;rw [<- q7.out] at ho;have q1:=am ho;replace HO_7:=am (Kd.Znb (ok:=(fun _=>True)) (Kd.Zc HO_7.o pl) hg hat);replace qb:=am (Zfy (g:=qg) (o:=.cells #[.bool false,.slice none 0 0,.int .i64 0] 24 (0,0)) (Za qb.o pl) hg (Kd.R_ne ql.o qb.o (by decide)));replace qc:=am (Zfy (g:=qj) (o:=.cells #[.bool ((bt a0 0) == 45),.slice none 0 0,.int .i64 qa] 30 (0,0)) (Za qc.o pl) hg (Kd.R_ne ql.o qc.o (by decide)));replace HB:=am hb;clear ql ho hb hg hat;have qaf:=qk.o;have qam:=qd.o;obtain ⟨_,_,_,_,_,_⟩:=cEc qc.o))
                 go_roundg qn
                 case measure=>exact pM
                 case rel=>exact ⟨(qo),(true),(wrap64 (x9_2+1)),(wrap64 (qa - 1)),pR,pR,H',pJ,⟨by refine rp ?_;exact Kd.Zi (Kd.Zj (p:=⟨qj,2,none⟩) (Kd.Zg q1.o qc.o (by decide)) (fun _ hk=>hk.2) (.int .i64 (wrap64 (qa - 1)))) (fun _ hk=>trivial)⟩,⟨bf qd.o qb.o⟩,⟨by refine bp ?_;refine Zab (cs:=#[.bool ((bt a0 0) == 45),.slice none 0 0,.int .i64 qa]) ?_ 2 _ rfl;exact bp qc.o⟩,⟨pB⟩⟩
                ·have H':=am H
                 clear H
                 have p24:0<=(x9_2:Int):=of_decide_eq_true pQ
                 have q24:x9_2 < (a0.size:Int):=of_decide_eq_true pQ
                 have hx24:=Zdp a0 x9_2
                 replace p24:=eq_true p24
                 replace q24:=eq_true q24
                 have p26:0<=(x9_2:Int):=of_decide_eq_true pQ
                 have q26:x9_2 < (a0.size:Int):=of_decide_eq_true pQ
                 have hx26:=Zdp a0 x9_2
                 replace p26:=eq_true p26
                 replace q26:=eq_true q26
                 have p28:0<=(x9_2:Int):=of_decide_eq_true pQ
                 have q28:x9_2 < (a0.size:Int):=of_decide_eq_true pQ
                 have hx28:=Zdp a0 x9_2
                 replace p28:=eq_true p28
                 replace q28:=eq_true q28
                 go_wp2_with (first|((with_reducible refine gd 70 ?_);(try (refine Za5 (by rfl) ?_;dsimp only));refine Kd.Zgi (Kd.int .i64) _ 3 ?hg (N:=70) ?hd (xs:=([((bt a0 x9_2) - 48) % 256]:List Int)) (inner:=[.int .i64 (((bt a0 x9_2) - 48) % 256)]) (ok:=fun _=>True) (okp:=fun _=>True) ?hr ?hp (fun _ hk=>hk) trivial (Below.refl _ _) (Nat.le_refl _) (by simp) ?_;(case hd=>rfl);(case hg=>rfl);(case hr=>first|(go_simp;done)|(go_simp;rfl));(case hp=>exact (Reps.one (show Kd.M (Kd.int .i64) _ _ _ (((bt a0 x9_2) - 48) % 256) [.int .i64 (((bt a0 x9_2) - 48) % 256)] from rfl) (Reps.none _ _)));intro jh w37 ho38 hb hg_ hnew_;clear hg_ hnew_;(first|rw [<- qx.out] at ho38|(simp only [Int.reduceToNat] at ho38;rw [<- qx.out] at ho38));have ql:=am (Kd.Zt (Kd.Zaj ho38 (Kd.R_lt (Kd.Zc HO_7.o pl))) (Zb pB));replace HO_7:=reR HO_7 ho38 hb;replace qb:=bb qb hb;replace qc:=bb qc hb;replace HB:=bS hb;clear hb ho38;obtain ⟨js,ju,jw⟩:=Kd.Zm HO_7.o;subst jw)|((with_reducible refine Za1 (b:=.append) (xs:=#[.tmp 70,.tmp 71]) rfl ?_);(try (refine Za5 (by rfl) ?_;dsimp only));at_builtin;refine Kd.Zdy (Kd.int .i64) (w0:=w) w.heap.size rfl (.tmp 70) (.tmp 71) 28 3 (.int .i64 0) 8 rfl Tryz.underlying28 info3 rfl (by decide) (by omega) jh qp x7_2 _ _ _ (fun k_=>some k_ ≠ (.slice js x7_2.length ju:Value).ownBlock) (fun _=>False) rfl rfl ?aO ?aR (fun _ _ h=>h) (fun _ h=>h.elim) ?aF ?aB ?aS ?aL ?_;(case aR=>exact Kd.Zv (Kd.Zf HO_7.o).2.2 pl);(case aB=>exact pB);(case aF=>exact (fun k_ hk=>Kd.fresh' (Kd.R_lt (Kd.Zc HO_7.o pl)) k_ hk));(case aO=>exact (Kd.Zc (Kd.Zi ql.o (fun _ hk=>hk.2)) pl));(case aS=>exact (Zb pB));(case aL=>have := LMc29.o;omega);intro qaa w39 ho hb hg hat;rw [<- q7.out] at ho;have q1:=am ho;replace HO_7:=am (Kd.Znb (ok:=(fun _=>True)) (Kd.Zc HO_7.o pl) hg hat);replace qb:=am (Zfy (g:=qg) (o:=.cells #[.bool false,.slice none 0 0,.int .i64 0] 24 (0,0)) (Za qb.o pl) hg (Kd.R_ne ql.o qb.o (by decide)));replace qc:=am (Zfy (g:=qj) (o:=.cells #[.bool ((bt a0 0) == 45),.slice none 0 0,.int .i64 qa] 30 (0,0)) (Za qc.o pl) hg (Kd.R_ne ql.o qc.o (by decide)));replace HB:=am hb;clear ql ho hb hg hat))
                 go_roundg qn
                 case measure=>exact pM
                 case rel=>exact ⟨(qo),(false),(wrap64 (x9_2+1)),(qa),pR,pR,H',pJ,⟨by refine rp ?_;exact Kd.Zi q1.o (fun _ hk=>trivial)⟩,⟨Za qb.o pl⟩,⟨Za qc.o pl⟩,⟨pB⟩⟩
               ·rw [if_neg c29] at H
                cases H
            ·cases H
           ·cases H
          ·replace H:=dI H
           rcases H with ⟨c41b0,H⟩|⟨c41b0,H⟩
           ·have H':=am H
            clear H
            go_wp2
            go_loopg [9,10,11,12] qn (fun kq v9 v10 v11 v12 w' => ∃ (x9_4:Int) (x10_4:Bool) (x11_4:Int) (x12_4:Int) (qh:Bool) (qi:Int),v9=.int .i64 x9_4/\v10=.bool x10_4/\v11=.int .i64 x11_4/\v12=.int .i64 x12_4/\Aside0 (Zh.l1 kq a0 x7_2 x9_4 x10_4 x11_4 x12_4 ((bt a0 0) == 45) qa=some (r1,r2,r3,r4))/\Aside0 (kq<=qn)/\Aside0 (Kd.R (Kd.int .i64) 3 w' w.heap.size (fun _=>True) u7 x7_2)/\Aside0 (w'.heap[qg]? = some (.cells #[.bool qh,(.slice none 0 0),.int .i64 qi] 24 (0,0)))/\Aside0 (w'.heap[qj]? = some (.cells #[.bool ((bt a0 0) == 45),(.slice none 0 0),.int .i64 qa] 30 (0,0)))/\Aside0 (Below w.heap.size w w'))
            case atStart=>exact ⟨(wrap64 (x9_2+1)),(false),(0),(0),(false),(0),pR,pR,pR,pR,H',⟨Nat.le_refl _⟩,⟨by refine rp ?_;exact HO_7.o⟩,⟨Za qb.o pl⟩,⟨Za qc.o pl⟩,⟨pB⟩⟩
            case round =>
             clear H'
             obtain ⟨x9_4,x10_4,x11_4,x12_4,qh,qi,rfl,rfl,rfl,rfl,HA,HK4,HO_7,qb,qc,HB⟩:=hrel
             cases gk with
             | zero=>exact absurd HA.out (by simp [Zh.l1])
             | succ k4 =>
              have H:=HA.out
              clear HA
              simp only [Zh.l1] at H
              replace H:=dI H
              rcases H with ⟨c42b0,H⟩|⟨c42b0,H⟩
              ·replace H:=dI H
               rcases H with ⟨c43b0,H⟩|⟨_,H⟩
               ·replace H:=eI H
                rcases H with ⟨c45b0,c45b1,H⟩|⟨c45,c45b0,c45b1,H⟩
                ·have H':=am H
                 clear H
                 have p44:0<=(x9_4:Int):=of_decide_eq_true pQ
                 have q44:x9_4 < (a0.size:Int):=of_decide_eq_true pQ
                 have hx44:=Zdp a0 x9_4
                 replace p44:=eq_true p44
                 replace q44:=eq_true q44
                 go_wp2
                 go_roundg k4
                 case measure=>exact pM
                 case rel=>exact ⟨(wrap64 (x9_4+1)),(true),(x11_4),(x12_4),(qh),(qi),pR,pR,pR,pR,H',pJ,⟨by refine rp ?_;exact HO_7.o⟩,⟨Za qb.o pl⟩,⟨Za qc.o pl⟩,⟨pB⟩⟩
                ·replace H:=eI H
                 rcases H with ⟨c47b0,c47b1,H⟩|⟨c47,c47b0,c47b1,H⟩
                 ·have H':=am H
                  clear H
                  have p44:0<=(x9_4:Int):=of_decide_eq_true pQ
                  have q44:x9_4 < (a0.size:Int):=of_decide_eq_true pQ
                  have hx44:=Zdp a0 x9_4
                  replace p44:=eq_true p44
                  replace q44:=eq_true q44
                  have p46:0<=(x9_4:Int):=of_decide_eq_true pQ
                  have q46:x9_4 < (a0.size:Int):=of_decide_eq_true pQ
                  have hx46:=Zdp a0 x9_4
                  replace p46:=eq_true p46
                  replace q46:=eq_true q46
                  go_wp2
                  go_roundg k4
                  case measure=>exact pM
                  case rel=>exact ⟨(wrap64 (x9_4+1)),(x10_4),(x11_4),(x12_4),(qh),(qi),pR,pR,pR,pR,H',pJ,⟨by refine rp ?_;exact HO_7.o⟩,⟨Za qb.o pl⟩,⟨Za qc.o pl⟩,⟨pB⟩⟩
                 ·have HC48:=am H
                  clear H
                  have p44:0<=(x9_4:Int):=of_decide_eq_true pQ
                  have q44:x9_4 < (a0.size:Int):=of_decide_eq_true pQ
                  have hx44:=Zdp a0 x9_4
                  replace p44:=eq_true p44
                  replace q44:=eq_true q44
                  have p46:0<=(x9_4:Int):=of_decide_eq_true pQ
                  have q46:x9_4 < (a0.size:Int):=of_decide_eq_true pQ
                  have hx46:=Zdp a0 x9_4
                  replace p46:=eq_true p46
                  replace q46:=eq_true q46
                  go_upto_region 26 with (fail)
                  go_cut [107] (fun j9 wc => ∃ (kq:Nat) (qm:Bool),j9=.bool qm/\Aside0 (Zh.j4 kq a0 x7_2 x9_4 x10_4 x11_4 x12_4 qm ((bt a0 0) == 45) qa=some (r1,r2,r3,r4))/\Aside0 (kq<=k4)/\Aside0 (Kd.R (Kd.int .i64) 3 wc w.heap.size (fun _=>True) u7 x7_2)/\Aside0 (wc.heap[qg]? = some (.cells #[.bool qh,(.slice none 0 0),.int .i64 qi] 24 (0,0)))/\Aside0 (wc.heap[qj]? = some (.cells #[.bool ((bt a0 0) == 45),(.slice none 0 0),.int .i64 qa] 30 (0,0)))/\Aside0 (Below w.heap.size w wc))
                  case first =>
                   have H:=HC48.o
                   clear HC48
                   replace H:=gI H
                   rcases H with ⟨c49b0,H⟩|⟨c49b0,H⟩
                   ·(first|rw [c49b0]|(simp only [Zc5,Zdv];rw [c49b0])|skip)
                    have H':=am H
                    clear H
                    go_wp2
                    go_meet
                    case rel=>exact ⟨_,(true),pR,H',pJ,⟨by refine rp ?_;exact HO_7.o⟩,⟨Za qb.o pl⟩,⟨Za qc.o pl⟩,⟨pB⟩⟩
                   ·(first|rw [c49b0]|(simp only [Zc5,Zdv];rw [c49b0])|skip)
                    have H':=am H
                    clear H
                    have p50:0<=(x9_4:Int):=of_decide_eq_true pQ
                    have q50:x9_4 < (a0.size:Int):=of_decide_eq_true pQ
                    have hx50:=Zdp a0 x9_4
                    replace p50:=eq_true p50
                    replace q50:=eq_true q50
                    go_wp2
                    go_meet
                    case rel=>exact ⟨_,(((bt a0 x9_4) != 48)),pR,H',pJ,⟨by refine rp ?_;exact HO_7.o⟩,⟨Za qb.o pl⟩,⟨Za qc.o pl⟩,⟨pB⟩⟩
                  case rest =>
                   clear HC48
                   obtain ⟨kq,qm,rfl,HA,HJ47,HO_7,qb,qc,HB⟩:=hcut
                   cases kq with
                   | zero=>exact absurd HA.out (by simp [Zh.j4])
                   | succ jo =>
                    have H:=HA.out
                    clear HA
                    simp only [Zh.j4] at H
                    replace H:=tI (t:=qm) H
                    rcases H with ⟨rfl,H⟩|⟨rfl,H⟩
                    ·replace H:=gI H
                     rcases H with ⟨c52b0,H⟩|⟨c52b0,H⟩
                     ·simp only [Option.some.injEq,Prod.mk.injEq] at H
                      obtain ⟨rfl,rfl,rfl,rfl⟩:=H
                      have qag:=qd.o
                      have qan:=qk.o
                      obtain ⟨_,_,_,_,_,_⟩:=cEc qb.o
                      go_wp2
                      refine bodyPost_ret (Zbd rfl _ _ qg 24 #[.bool false,.slice none 0 0,.int .i64 0] (0,0) _ rfl (by exact p3 qb) Tryz.underlying24 rfl (by kernel_rfl)) rfl ?_
                      exact ⟨_,pE,pN,pB⟩
                     ·replace H:=dI H
                      rcases H with ⟨c55b0,H⟩|⟨_,H⟩
                      ·replace H:=dI H
                       rcases H with ⟨c56b0,H⟩|⟨_,H⟩
                       ·have H':=am H
                        clear H
                        have p57:0<=(x9_4:Int):=of_decide_eq_true pQ
                        have q57:x9_4 < (a0.size:Int):=of_decide_eq_true pQ
                        have hx57:=Zdp a0 x9_4
                        replace p57:=eq_true p57
                        replace q57:=eq_true q57
                        go_wp2
                        go_roundg jo
                        case measure=>exact pM
                        case rel=>exact ⟨(wrap64 (x9_4+1)),(x10_4),(wrap64 ((wrap64 (10*x11_4))+(((bt a0 x9_4) - 48) % 256))),(wrap64 (x12_4+1)),(qh),(qi),pR,pR,pR,pR,H',pJ,⟨by refine rp ?_;exact HO_7.o⟩,⟨Za qb.o pl⟩,⟨Za qc.o pl⟩,⟨pB⟩⟩
                       ·cases H
                      ·cases H
                    ·replace H:=gI H
                     rcases H with ⟨c58b0,H⟩|⟨c58b0,H⟩
                     ·simp only [Option.some.injEq,Prod.mk.injEq] at H
                      obtain ⟨rfl,rfl,rfl,rfl⟩:=H
                      have qah:=qd.o
                      have qao:=qk.o
                      obtain ⟨_,_,_,_,_,_⟩:=cEc qb.o
                      go_wp2
                      refine bodyPost_ret (Zbd rfl _ _ qg 24 #[.bool false,.slice none 0 0,.int .i64 0] (0,0) _ rfl (by exact p3 qb) Tryz.underlying24 rfl (by kernel_rfl)) rfl ?_
                      exact ⟨_,pE,pN,pB⟩
                     ·replace H:=dI H
                      rcases H with ⟨c61b0,H⟩|⟨_,H⟩
                      ·replace H:=dI H
                       rcases H with ⟨c62b0,H⟩|⟨_,H⟩
                       ·have H':=am H
                        clear H
                        have p63:0<=(x9_4:Int):=of_decide_eq_true pQ
                        have q63:x9_4 < (a0.size:Int):=of_decide_eq_true pQ
                        have hx63:=Zdp a0 x9_4
                        replace p63:=eq_true p63
                        replace q63:=eq_true q63
                        go_wp2
                        go_roundg jo
                        case measure=>exact pM
                        case rel=>exact ⟨(wrap64 (x9_4+1)),(x10_4),(wrap64 ((wrap64 (10*x11_4))+(((bt a0 x9_4) - 48) % 256))),(x12_4),(qh),(qi),pR,pR,pR,pR,H',pJ,⟨by refine rp ?_;exact HO_7.o⟩,⟨Za qb.o pl⟩,⟨Za qc.o pl⟩,⟨pB⟩⟩
                       ·cases H
                      ·cases H
               ·cases H
              ·replace H:=tI (t:=x10_4) H
               rcases H with ⟨rfl,H⟩|⟨rfl,H⟩
               ·replace H:=ob H
                obtain ⟨⟨q8,q9,ja,j6⟩,A65,H⟩:=H;(try dsimp only at H)
                simp only [Option.some.injEq,Prod.mk.injEq] at H
                obtain ⟨rfl,rfl,rfl,rfl⟩:=H
                have qai:=qk.o
                have qap:=qd.o
                obtain ⟨_,_,_,_,_,_⟩:=cEc qc.o
                go_wp2_with (first|((with_reducible refine Zcv (t:=3) (p:=128) rfl ?_);refine Zcj (t:=3) (p:=128) (v:=?vo_w68) (w1:=(wr.setCell ⟨qj,2,none⟩ (.int .i64 (wrap64 (qa+(wrap64 (-x11_4))))))) ?hg ?ho ?hn ?hr ?_;(case ho=>rfl);(case hg=>rfl);(case hn=>rfl);(case hr=>first|(go_simp;done)|(go_simp;rfl));intro w68 hw;replace HO_7:Aside0 (Kd.R (Kd.int .i64) 3 w68 w.heap.size (fun _=>True) u7 x7_2):=⟨(by rw [hw];exact (Kd.Zc (Kd.Zi (Kd.Zj (p:=⟨qj,2,none⟩) (Kd.Zg HO_7.o qc.o (by decide)) (fun _ hk=>hk.2) (.int .i64 (wrap64 (qa+(wrap64 (-x11_4)))))) (fun _ hk=>trivial)) pl))⟩;replace qb:Aside0 (w68.heap[qg]? = some (.cells #[.bool qh,.slice none 0 0,.int .i64 qi] 24 (0,0))):=⟨(by rw [hw];exact (bf qd.o qb.o))⟩;replace qc:Aside0 (w68.heap[qj]? = some (.cells #[.bool ((bt a0 0) == 45),.slice none 0 0,.int .i64 (wrap64 (qa+(wrap64 (-x11_4))))] 30 (0,0))):=⟨(by rw [hw];exact (by refine bp ?_;refine Zab (cs:=#[.bool ((bt a0 0) == 45),.slice none 0 0,.int .i64 qa]) ?_ 2 _ rfl;exact bp qc.o))⟩;replace HB:Aside0 (Below w.heap.size w w68):=⟨(by rw [hw];exact pB)⟩;clear hw;obtain ⟨qr,qu,jx⟩:=Kd.Zm HO_7.o;subst jx;obtain ⟨_,_,_,_,_,_⟩:=cEc qc.o)|((with_reducible refine Zcv (t:=28) (p:=130) rfl ?_);refine Zcj (t:=28) (p:=130) (v:=?vo_w71) (w1:=(w68.setCell ⟨qj,1,none⟩ (.slice qr x7_2.length qu))) ?hg ?ho ?hn ?hr ?_;(case ho=>rfl);(case hg=>rfl);(case hn=>rfl);(case hr=>first|(go_simp;done)|(go_simp;rfl));intro w71 hw;replace HO_7:Aside0 (Kd.R (Kd.int .i64) 3 w71 w.heap.size (fun _=>True) (.slice qr x7_2.length qu) x7_2):=⟨(by rw [hw];exact (Kd.Zc (Kd.Zi (Kd.Zj (p:=⟨qj,1,none⟩) (Kd.Zg HO_7.o qc.o (by decide)) (fun _ hk=>hk.2) (.slice qr x7_2.length qu)) (fun _ hk=>trivial)) pl))⟩;replace qb:Aside0 (w71.heap[qg]? = some (.cells #[.bool qh,.slice none 0 0,.int .i64 qi] 24 (0,0))):=⟨(by rw [hw];exact (bf qd.o qb.o))⟩;replace qc:Aside0 (w71.heap[qj]? = some (.cells #[.bool ((bt a0 0) == 45),.slice qr x7_2.length qu,.int .i64 (wrap64 (qa+(wrap64 (-x11_4))))] 30 (0,0))):=⟨(by rw [hw];exact (by refine bp ?_;refine Zab (cs:=#[.bool ((bt a0 0) == 45),.slice none 0 0,.int .i64 (wrap64 (qa+(wrap64 (-x11_4))))]) ?_ 1 _ rfl;exact bp qc.o))⟩;replace HB:Aside0 (Below w.heap.size w w71):=⟨(by rw [hw];exact pB)⟩;clear hw;obtain ⟨_,_,_,_,_,_⟩:=cEc qc.o)|(refine gL (some 132) Tryz.func23 #[.agg #[.bool ((bt a0 0) == 45),.slice qr x7_2.length qu,.int .i64 (wrap64 (qa+(wrap64 (-x11_4))))]] (h:=?_);(with_reducible refine (Zl.calls k4 ((bt a0 0) == 45) (fun k_=>some k_=(.slice qr x7_2.length qu:Value).ownBlock) (.slice qr x7_2.length qu) x7_2 (wrap64 (qa+(wrap64 (-x11_4)))) q8 q9 ja j6 w _ ?side1 ?side2 A65.o).mono ?_);(case side1=>exact pB);(case side2=>exact Kd.Zbc rfl HO_7.o);rintro e w73 ⟨qas,rfl,ho0,hb,hkp⟩;refine ⟨_,rfl,?_⟩;have q4:=am (Kd.Zi (ok':=fun k_=>True) ho0 (fun k_ hk_=>trivial));replace qb:=am (Zan (Za qb.o pl) hkp (fun e_=>Kd.R_ne HO_7.o qb.o (by decide) e_));replace qc:=am (Zan (Za qc.o pl) hkp (fun e_=>Kd.R_ne HO_7.o qc.o (by decide) e_));replace HB:=am hb;clear HO_7;obtain ⟨_,_,_,_,_,_⟩:=cEc qb.o;obtain ⟨ji,jl,jy⟩:=Kd.Zm q4.o;subst jy))
                refine bodyPost_ret (Zbd rfl _ _ qg 24 #[.bool q8,.slice ji q9.length jl,.int .i64 ja] (0,0) _ rfl (by exact p3 qb) Tryz.underlying24 rfl (by kernel_rfl)) rfl ?_
                exact ⟨_,pE,by refine rp ?_;exact Kd.Zi (Kd.Zj (p:=⟨qg,2,none⟩) (Kd.Zj (p:=⟨qg,1,none⟩) (Kd.Zj (p:=⟨qg,0,none⟩) (Kd.Zg q4.o qb.o (by decide)) (fun _ hk=>hk.2) (.bool q8)) (fun _ hk=>hk.2) (.slice ji q9.length jl)) (fun _ hk=>hk.2) (.int .i64 ja)) (fun _ hk=>trivial),pB⟩
               ·replace H:=ob H
                obtain ⟨⟨jb,jc,jd,j7⟩,A76,H⟩:=H;(try dsimp only at H)
                simp only [Option.some.injEq,Prod.mk.injEq] at H
                obtain ⟨rfl,rfl,rfl,rfl⟩:=H
                have qaj:=qk.o
                have qaq:=qd.o
                obtain ⟨_,_,_,_,_,_⟩:=cEc qc.o
                go_wp2_with (first|((with_reducible refine Zcv (t:=3) (p:=128) rfl ?_);refine Zcj (t:=3) (p:=128) (v:=?vo_w79) (w1:=(wr.setCell ⟨qj,2,none⟩ (.int .i64 (wrap64 (qa+x11_4))))) ?hg ?ho ?hn ?hr ?_;(case ho=>rfl);(case hg=>rfl);(case hn=>rfl);(case hr=>first|(go_simp;done)|(go_simp;rfl));intro w79 hw;replace HO_7:Aside0 (Kd.R (Kd.int .i64) 3 w79 w.heap.size (fun _=>True) u7 x7_2):=⟨(by rw [hw];exact (Kd.Zc (Kd.Zi (Kd.Zj (p:=⟨qj,2,none⟩) (Kd.Zg HO_7.o qc.o (by decide)) (fun _ hk=>hk.2) (.int .i64 (wrap64 (qa+x11_4)))) (fun _ hk=>trivial)) pl))⟩;replace qb:Aside0 (w79.heap[qg]? = some (.cells #[.bool qh,.slice none 0 0,.int .i64 qi] 24 (0,0))):=⟨(by rw [hw];exact (bf qd.o qb.o))⟩;replace qc:Aside0 (w79.heap[qj]? = some (.cells #[.bool ((bt a0 0) == 45),.slice none 0 0,.int .i64 (wrap64 (qa+x11_4))] 30 (0,0))):=⟨(by rw [hw];exact (by refine bp ?_;refine Zab (cs:=#[.bool ((bt a0 0) == 45),.slice none 0 0,.int .i64 qa]) ?_ 2 _ rfl;exact bp qc.o))⟩;replace HB:Aside0 (Below w.heap.size w w79):=⟨(by rw [hw];exact pB)⟩;clear hw;obtain ⟨qs,qv,jz⟩:=Kd.Zm HO_7.o;subst jz;obtain ⟨_,_,_,_,_,_⟩:=cEc qc.o)|((with_reducible refine Zcv (t:=28) (p:=130) rfl ?_);refine Zcj (t:=28) (p:=130) (v:=?vo_w82) (w1:=(w79.setCell ⟨qj,1,none⟩ (.slice qs x7_2.length qv))) ?hg ?ho ?hn ?hr ?_;(case ho=>rfl);(case hg=>rfl);(case hn=>rfl);(case hr=>first|(go_simp;done)|(go_simp;rfl));intro w82 hw;replace HO_7:Aside0 (Kd.R (Kd.int .i64) 3 w82 w.heap.size (fun _=>True) (.slice qs x7_2.length qv) x7_2):=⟨(by rw [hw];exact (Kd.Zc (Kd.Zi (Kd.Zj (p:=⟨qj,1,none⟩) (Kd.Zg HO_7.o qc.o (by decide)) (fun _ hk=>hk.2) (.slice qs x7_2.length qv)) (fun _ hk=>trivial)) pl))⟩;replace qb:Aside0 (w82.heap[qg]? = some (.cells #[.bool qh,.slice none 0 0,.int .i64 qi] 24 (0,0))):=⟨(by rw [hw];exact (bf qd.o qb.o))⟩;replace qc:Aside0 (w82.heap[qj]? = some (.cells #[.bool ((bt a0 0) == 45),.slice qs x7_2.length qv,.int .i64 (wrap64 (qa+x11_4))] 30 (0,0))):=⟨(by rw [hw];exact (by refine bp ?_;refine Zab (cs:=#[.bool ((bt a0 0) == 45),.slice none 0 0,.int .i64 (wrap64 (qa+x11_4))]) ?_ 1 _ rfl;exact bp qc.o))⟩;replace HB:Aside0 (Below w.heap.size w w82):=⟨(by rw [hw];exact pB)⟩;clear hw;obtain ⟨_,_,_,_,_,_⟩:=cEc qc.o)|(refine gL (some 132) Tryz.func23 #[.agg #[.bool ((bt a0 0) == 45),.slice qs x7_2.length qv,.int .i64 (wrap64 (qa+x11_4))]] (h:=?_);(with_reducible refine (Zl.calls k4 ((bt a0 0) == 45) (fun k_=>some k_=(.slice qs x7_2.length qv:Value).ownBlock) (.slice qs x7_2.length qv) x7_2 (wrap64 (qa+x11_4)) jb jc jd j7 w _ ?side1 ?side2 A76.o).mono ?_);(case side1=>exact pB);(case side2=>exact Kd.Zbc rfl HO_7.o);rintro e w84 ⟨qat,rfl,ho0,hb,hkp⟩;refine ⟨_,rfl,?_⟩;have q5:=am (Kd.Zi (ok':=fun k_=>True) ho0 (fun k_ hk_=>trivial));replace qb:=am (Zan (Za qb.o pl) hkp (fun e_=>Kd.R_ne HO_7.o qb.o (by decide) e_));replace qc:=am (Zan (Za qc.o pl) hkp (fun e_=>Kd.R_ne HO_7.o qc.o (by decide) e_));replace HB:=am hb;clear HO_7;obtain ⟨_,_,_,_,_,_⟩:=cEc qb.o;obtain ⟨jj,jm,j1⟩:=Kd.Zm q5.o;subst j1))
                refine bodyPost_ret (Zbd rfl _ _ qg 24 #[.bool jb,.slice jj jc.length jm,.int .i64 jd] (0,0) _ rfl (by exact p3 qb) Tryz.underlying24 rfl (by kernel_rfl)) rfl ?_
                exact ⟨_,pE,by refine rp ?_;exact Kd.Zi (Kd.Zj (p:=⟨qg,2,none⟩) (Kd.Zj (p:=⟨qg,1,none⟩) (Kd.Zj (p:=⟨qg,0,none⟩) (Kd.Zg q5.o qb.o (by decide)) (fun _ hk=>hk.2) (.bool jb)) (fun _ hk=>hk.2) (.slice jj jc.length jm)) (fun _ hk=>hk.2) (.int .i64 jd)) (fun _ hk=>trivial),pB⟩
           ·replace H:=ob H
            obtain ⟨⟨je,jf,jg,j8⟩,A87,H⟩:=H;(try dsimp only at H)
            simp only [Option.some.injEq,Prod.mk.injEq] at H
            obtain ⟨rfl,rfl,rfl,rfl⟩:=H
            obtain ⟨qt,qw,j3⟩:=Kd.Zm HO_7.o
            subst j3
            have qak:=qk.o
            have qar:=qd.o
            obtain ⟨_,_,_,_,_,_⟩:=cEc qc.o
            go_wp2_with (first|((with_reducible refine Zcv (t:=28) (p:=130) rfl ?_);refine Zcj (t:=28) (p:=130) (v:=?vo_w91) (w1:=(wc.setCell ⟨qj,1,none⟩ (.slice qt x7_2.length qw))) ?hg ?ho ?hn ?hr ?_;(case ho=>rfl);(case hg=>rfl);(case hn=>rfl);(case hr=>first|(go_simp;done)|(go_simp;rfl));intro w91 hw;replace HO_7:Aside0 (Kd.R (Kd.int .i64) 3 w91 w.heap.size (fun _=>True) (.slice qt x7_2.length qw) x7_2):=⟨(by rw [hw];exact (Kd.Zc (Kd.Zi (Kd.Zj (p:=⟨qj,1,none⟩) (Kd.Zg HO_7.o qc.o (by decide)) (fun _ hk=>hk.2) (.slice qt x7_2.length qw)) (fun _ hk=>trivial)) pl))⟩;replace qb:Aside0 (w91.heap[qg]? = some (.cells #[.bool false,.slice none 0 0,.int .i64 0] 24 (0,0))):=⟨(by rw [hw];exact (bf qd.o qb.o))⟩;replace qc:Aside0 (w91.heap[qj]? = some (.cells #[.bool ((bt a0 0) == 45),.slice qt x7_2.length qw,.int .i64 qa] 30 (0,0))):=⟨(by rw [hw];exact (by refine bp ?_;refine Zab (cs:=#[.bool ((bt a0 0) == 45),.slice none 0 0,.int .i64 qa]) ?_ 1 _ rfl;exact bp qc.o))⟩;replace HB:Aside0 (Below w.heap.size w w91):=⟨(by rw [hw];exact pB)⟩;clear hw;obtain ⟨_,_,_,_,_,_⟩:=cEc qc.o)|(refine gL (some 132) Tryz.func23 #[.agg #[.bool ((bt a0 0) == 45),.slice qt x7_2.length qw,.int .i64 qa]] (h:=?_);(with_reducible refine (Zl.calls qn ((bt a0 0) == 45) (fun k_=>some k_=(.slice qt x7_2.length qw:Value).ownBlock) (.slice qt x7_2.length qw) x7_2 qa je jf jg j8 w _ ?side1 ?side2 A87.o).mono ?_);(case side1=>exact pB);(case side2=>exact Kd.Zbc rfl HO_7.o);rintro e w93 ⟨qau,rfl,ho0,hb,hkp⟩;refine ⟨_,rfl,?_⟩;have q6:=am (Kd.Zi (ok':=fun k_=>True) ho0 (fun k_ hk_=>trivial));replace qb:=am (Zan (Za qb.o pl) hkp (fun e_=>Kd.R_ne HO_7.o qb.o (by decide) e_));replace qc:=am (Zan (Za qc.o pl) hkp (fun e_=>Kd.R_ne HO_7.o qc.o (by decide) e_));replace HB:=am hb;clear HO_7;obtain ⟨_,_,_,_,_,_⟩:=cEc qb.o;obtain ⟨jk,jn,j5⟩:=Kd.Zm q6.o;subst j5))
            refine bodyPost_ret (Zbd rfl _ _ qg 24 #[.bool je,.slice jk jf.length jn,.int .i64 jg] (0,0) _ rfl (by exact p3 qb) Tryz.underlying24 rfl (by kernel_rfl)) rfl ?_
            exact ⟨_,pE,by refine rp ?_;exact Kd.Zi (Kd.Zj (p:=⟨qg,2,none⟩) (Kd.Zj (p:=⟨qg,1,none⟩) (Kd.Zj (p:=⟨qg,0,none⟩) (Kd.Zg q6.o qb.o (by decide)) (fun _ hk=>hk.2) (.bool je)) (fun _ hk=>hk.2) (.slice jk jf.length jn)) (fun _ hk=>hk.2) (.int .i64 jg)) (fun _ hk=>trivial),pB⟩
     ·rw [if_neg c10] at H
      cases H
def Zb2.f (k:Nat) (a0:ByteArray):Option (Bool × List Int × Int):=(Zh.f k a0).bind fun qc=>(some (qc.1,qc.2.1,qc.2.2.1))
theorem Zb2.calls (k:Nat) (a0:ByteArray) (r1:Bool) (r2:List Int) (r3:Int) (w:World) (h:Zb2.f k a0=some (r1,r2,r3)) :
  Calls Tryz.prog 62 #[.string a0] w fun e w' => ∃ v1_:Value,e=.returned (.agg #[.bool r1,v1_,.int .i64 r3])/\Kd.R (Kd.int .u32) 85 w' w.heap.size (fun _=>True) v1_ r2/\Below w.heap.size w w':=by
 have hu24:=Tryz.underlying24
 have HB:=am (Below.refl w.heap.size w)
 have H:((Zh.f k a0).bind fun qc=>(some (qc.1,qc.2.1,qc.2.2.1)))=some (r1,r2,r3):=h
 clear h
 obtain ⟨⟨qg,qi,qj,ql⟩,A2,H⟩:=ob H;(try dsimp only at H)
 simp only [Option.some.injEq,Prod.mk.injEq] at H
 obtain ⟨rfl,rfl,rfl⟩:=H
 go_enter Tryz.func62,Tryz.ntmps62
 go_wp2_with (first|((with_reducible refine gd 2 ?_);refine bx 2 #[.bool false,.slice none 0 0,.int .i64 0] 24 (h:=?_);intro qe hg w3 hbox hb;have qb:=am hbox;have qm:=gW hg;replace HB:=bS hb;clear hb hbox hg)|(refine gL (some 7) Tryz.func58 #[.string a0] (h:=?_);(with_reducible refine (Zh.calls k a0 qg qi qj ql _ A2.o).mono ?_);rintro e w4 ⟨qo,rfl,ho0,hb⟩;refine ⟨_,rfl,?_⟩;have qd:=am (Kd.Zt ho0 (Zb pB));replace qb:=bb qb hb;replace HB:=bS hb)|((with_reducible refine gd 3 ?_);refine bx 3 #[.bool false,.slice none 0 0,.int .i64 0] 24 (h:=?_);intro qh hg w5 hbox hb;have qk:=am hbox;have qn:=gW hg;have qa:=nL hg qb;have qf:=nG hg qb;replace qd:=rbl qd hb;replace qb:=bb qb hb;replace HB:=bS hb;clear hb hbox hg;have hnb6:=qf.o;have hnc6:=qa.o;obtain ⟨_,_,_,_,_,_⟩:=cEc qk.o;obtain ⟨Ao8,co8,eo8⟩:=Kd.Zm qd.o;subst eo8;obtain ⟨_,_,_,_,_,_⟩:=cEc qb.o))
 refine bodyPost_ret (results_cell_row rfl _ _ qe 24 #[.bool qg,.slice Ao8 qi.length co8,.int .i64 qj] (0,0) _ rfl (by refine bp ?_;refine Zab (cs:=#[.bool qg,.slice Ao8 qi.length co8,.int .i64 0]) ?_ 2 _ rfl;refine bp ?_;refine Zab (cs:=#[.bool qg,.slice none 0 0,.int .i64 0]) ?_ 1 _ rfl;refine bp ?_;refine Zab (cs:=#[.bool false,.slice none 0 0,.int .i64 0]) ?_ 0 _ rfl;refine bq ?_ qa;refine bq ?_ qa;refine bq ?_ qa;exact bp qb.o) Tryz.underlying24 rfl (by kernel_rfl)) rfl ?_
 exact ⟨_,pE,by refine rp ?_;exact Kd.Zi (Kd.Zj (p:=⟨qe,2,none⟩) (Kd.Zj (p:=⟨qe,1,none⟩) (Kd.Zj (p:=⟨qe,0,none⟩) (Kd.Zj (p:=⟨qh,2,none⟩) (Kd.Zj (p:=⟨qh,1,none⟩) (Kd.Zj (p:=⟨qh,0,none⟩) (Kd.Zg (Kd.Zg qd.o qk.o (by decide)) qb.o (by decide)) (fun _ hk=>hk.1.2) (.bool qg)) (fun _ hk=>hk.1.2) (.slice Ao8 qi.length co8)) (fun _ hk=>hk.1.2) (.int .i64 qj)) (fun _ hk=>hk.2) (.bool qg)) (fun _ hk=>hk.2) (.slice Ao8 qi.length co8)) (fun _ hk=>hk.2) (.int .i64 qj)) (fun _ hk=>trivial),pB⟩
def Zb1.f (k:Nat)  : Option (Bool):=(Zb2.f k (⟨#[49,46,53,48]⟩:ByteArray)).bind fun qd=>((Zb2.f k (⟨#[48,46,53]⟩:ByteArray)).bind fun qe=>((Zdq.f k qd.1 qd.2.1 qd.2.2 qe.1 qe.2.1 qe.2.2).bind fun qa=>((Zda.f k qa.1 qa.2.1 qa.2.2.1).bind fun qj=>((Zb2.f k (⟨#[49,101,51,48]⟩:ByteArray)).bind fun qf=>((Zda.f k qf.1 qf.2.1 qf.2.2).bind fun qk=>((Zae.f qa.2.2.2).bind fun qq=>((Zae.f qj.2).bind fun qr=>((Zae.f qk.2).bind fun qs=>(if (wrap64 ((wrap64 (qq+qr))+qs))=0 then (if qj.1.toList=([50]:List UInt8) then (some (qk.1.toList == ([49,101,43,51,48]:List UInt8))) else (some false)) else (some false))))))))))
theorem Zb1.leaf {P:Prop} (h:P:=by
 go_enter Tryz.func41,Tryz.ntmps41
 go_wp2_with (first|(refine gL (some 8) Tryz.func62 #[.string (⟨#[49,46,53,48]⟩:ByteArray)] (h:=?_);(with_reducible refine (Zb2.calls k (⟨#[49,46,53,48]⟩:ByteArray) qv qo qw _ A1.o).mono ?_);rintro e w0z ⟨v1z,rfl,ho2z,hb⟩;refine ⟨_,rfl,?_⟩;have HO3z:=am (Kd.Zt ho2z (Zb pB));replace HB:=bS hb)|(refine gL (some 9) Tryz.func62 #[.string (⟨#[48,46,53]⟩:ByteArray)] (h:=?_);(with_reducible refine (Zb2.calls k (⟨#[48,46,53]⟩:ByteArray) qx qp qy _ A2.o).mono ?_);rintro e w4z ⟨v5z,rfl,ho2z,hb⟩;refine ⟨_,rfl,?_⟩;have HO6z:=am (Kd.Zt (Kd.Zaj ho2z (Kd.R_lt (Kd.Zc HO3z.o pl))) (Zb pB));replace HO3z:=reR HO3z ho2z hb;replace HB:=bS hb;obtain ⟨Ao7z,co8z,eo9z⟩:=Kd.Zm HO3z.o;subst eo9z;obtain ⟨qt,qu,q7⟩:=Kd.Zm HO6z.o;subst q7)|(refine gL (some 10) Tryz.func43 #[.agg #[.bool qv,.slice Ao7z qo.length co8z,.int .i64 qw],.agg #[.bool qx,.slice qt qp.length qu,.int .i64 qy]] (h:=?_);(with_reducible refine (Zdq.calls k qv (fun k_=>some k_=(.slice Ao7z qo.length co8z:Value).ownBlock) _ _ qo qw qx (fun k_=>some k_=(.slice qt qp.length qu:Value).ownBlock) _ _ qp qy qh qg qi qz _ ?side1 ?side2 A3.o).mono ?_);(case side1=>exact Kd.R_V (Kd.Zbc rfl (HO3z.o)));(case side2=>exact Kd.R_V (Kd.Zbc rfl (HO6z.o)));rintro e w13z ⟨v14z,rfl,ho2z,hb⟩;refine ⟨_,rfl,?_⟩;have qb:=am (Kd.Zt (Kd.Zaj (Kd.Zaj (Kd.Zi (ok':=fun k_=>True) ho2z (fun _ hk_=>trivial)) (Kd.R_lt (Kd.Zc HO3z.o pl))) (Kd.R_lt (Kd.Zc HO6z.o pl))) (Zb pB));replace HO3z:=reR HO3z ho2z hb;replace HO6z:=reR HO6z ho2z hb;replace HB:=bS hb)|((with_reducible refine gd 1 ?_);refine bx 1 #[.bool false,.slice none 0 0,.int .i64 0] 24 (h:=?_);intro ja hg w17z hbox hb;have qc:=am hbox;have jd:=gW hg;replace HO3z:=rbl HO3z hb;replace HO6z:=rbl HO6z hb;replace qb:=rbl qb hb;replace HB:=bS hb;clear hb hbox hg;obtain ⟨_,_,_,_,_,_⟩:=cEc qc.o;obtain ⟨qm,ql,q8⟩:=Kd.Zm qb.o;subst q8)|(refine gL (some 15) Tryz.func56 #[.agg #[.bool qh,.slice qm qg.length ql,.int .i64 qi]] (h:=?_);(with_reducible refine (Zda.calls k qh _ _ qg qi jb q0 _ ?side1 ?side2 A4.o).mono ?_);(case side1=>refine (Kd.Zf (e:=85) (base:=w.heap.size) (ok:=fun k_=>((True/\some k_ ≠ (.slice Ao7z qo.length co8z:Value).ownBlock)/\some k_ ≠ (.slice qt qp.length qu:Value).ownBlock)) (n:=qg.length) (c:=ql) ?_).2.2;exact (Kd.Zc (z3 qb.o qc.o (by decide) (.bool qh) (.slice qm qg.length ql) (.int .i64 qi)) pl));(case side2=>exact (Kd.Zf qb.o).2.1);rintro e w30z ⟨rfl,hb⟩;refine ⟨_,rfl,?_⟩;replace HO3z:=am (Kd.Zc (Kd.Zc (z3 HO3z.o qc.o (by decide) (.bool qh) (.slice qm qg.length ql) (.int .i64 qi)) pl) hb);replace HO6z:=am (Kd.Zc (Kd.Zc (z3 HO6z.o qc.o (by decide) (.bool qh) (.slice qm qg.length ql) (.int .i64 qi)) pl) hb);replace qb:=am (Kd.Zc (Kd.Zc (z3 qb.o qc.o (by decide) (.bool qh) (.slice qm qg.length ql) (.int .i64 qi)) pl) hb);replace qc:=am (Za (g:=ja) (o:=.cells #[.bool qh,.slice qm qg.length ql,.int .i64 qi] 24 (0,0)) (by exact p3 qc) hb);replace HB:=bS hb)|(refine gL (some 19) Tryz.func62 #[.string (⟨#[49,101,51,48]⟩:ByteArray)] (h:=?_);(with_reducible refine (Zb2.calls k (⟨#[49,101,51,48]⟩:ByteArray) q1 q2 q3 _ A5.o).mono ?_);rintro e w31z ⟨v32z,rfl,ho2z,hb⟩;refine ⟨_,rfl,?_⟩;have qn:=am (Kd.Zt (Kd.Zaj (Kd.Zaj (Kd.Zaj ho2z (Kd.R_lt (Kd.Zc HO3z.o pl))) (Kd.R_lt (Kd.Zc HO6z.o pl))) (Kd.R_lt (Kd.Zc qb.o pl))) (Zb pB));replace HO3z:=reR HO3z ho2z hb;replace HO6z:=reR HO6z ho2z hb;replace qb:=reR qb ho2z hb;replace qc:=bb qc hb;replace HB:=bS hb;obtain ⟨q5,q6,q9⟩:=Kd.Zm qn.o;subst q9)|(refine gL (some 20) Tryz.func56 #[.agg #[.bool q1,.slice q5 q2.length q6,.int .i64 q3]] (h:=?_);(with_reducible refine (Zda.calls k q1 _ _ q2 q3 jc q4 _ ?side1 ?side2 A6.o).mono ?_);(case side1=>exact Kd.Zv (Kd.Zf qn.o).2.2 pl);(case side2=>exact (Kd.Zf qn.o).2.1);rintro e w37z ⟨rfl,hb⟩;refine ⟨_,rfl,?_⟩;replace HO3z:=rbl HO3z hb;replace HO6z:=rbl HO6z hb;replace qb:=rbl qb hb;replace qn:=rbl qn hb;replace qc:=bb qc hb;replace HB:=bS hb)|(refine gL (some 24) Tryz.func47 #[.int .i64 qz] (h:=?_);(with_reducible refine (Zae.calls qz qq _ A7.o).mono ?_);rintro e w' ⟨rfl,⟨nd,rfl⟩⟩;refine ⟨_,rfl,?_⟩)|(refine gL (some 26) Tryz.func47 #[.int .i64 q0] (h:=?_);(with_reducible refine (Zae.calls q0 qr _ A8.o).mono ?_);rintro e w' ⟨rfl,⟨nd,rfl⟩⟩;refine ⟨_,rfl,?_⟩)|(refine gL (some 29) Tryz.func47 #[.int .i64 q4] (h:=?_);(with_reducible refine (Zae.calls q4 qs _ A9.o).mono ?_);rintro e w' ⟨rfl,⟨nd,rfl⟩⟩;refine ⟨_,rfl,?_⟩))
 go_ret
 exact ⟨pE,pB⟩):P:=h
theorem Zb1.calls (k:Nat)  (r:Bool) (w:World) (h:Zb1.f k  = some r) :
  Calls Tryz.prog 41 #[] w fun e w'=>e=.returned (.bool r)/\Below w.heap.size w w':=by
 have hu24:=Tryz.underlying24
 have HB:=am (Below.refl w.heap.size w)
 have H:((Zb2.f k (⟨#[49,46,53,48]⟩:ByteArray)).bind fun qd=>((Zb2.f k (⟨#[48,46,53]⟩:ByteArray)).bind fun qe=>((Zdq.f k qd.1 qd.2.1 qd.2.2 qe.1 qe.2.1 qe.2.2).bind fun qa=>((Zda.f k qa.1 qa.2.1 qa.2.2.1).bind fun qj=>((Zb2.f k (⟨#[49,101,51,48]⟩:ByteArray)).bind fun qf=>((Zda.f k qf.1 qf.2.1 qf.2.2).bind fun qk=>((Zae.f qa.2.2.2).bind fun qq=>((Zae.f qj.2).bind fun qr=>((Zae.f qk.2).bind fun qs=>(if (wrap64 ((wrap64 (qq+qr))+qs))=0 then (if qj.1.toList=([50]:List UInt8) then (some (qk.1.toList == ([49,101,43,51,48]:List UInt8))) else (some false)) else (some false)))))))))))=some r:=h
 clear h
 replace H:=ob H
 obtain ⟨⟨qv,qo,qw⟩,A1,H⟩:=H;(try dsimp only at H)
 replace H:=ob H
 obtain ⟨⟨qx,qp,qy⟩,A2,H⟩:=H;(try dsimp only at H)
 replace H:=ob H
 obtain ⟨⟨qh,qg,qi,qz⟩,A3,H⟩:=H;(try dsimp only at H)
 replace H:=ob H
 obtain ⟨⟨jb,q0⟩,A4,H⟩:=H;(try dsimp only at H)
 replace H:=ob H
 obtain ⟨⟨q1,q2,q3⟩,A5,H⟩:=H;(try dsimp only at H)
 replace H:=ob H
 obtain ⟨⟨jc,q4⟩,A6,H⟩:=H;(try dsimp only at H)
 replace H:=ob H
 obtain ⟨qq,A7,H⟩:=H
 replace H:=ob H
 obtain ⟨qr,A8,H⟩:=H
 replace H:=ob H
 obtain ⟨qs,A9,H⟩:=H
 replace H:=eI H
 rcases H with ⟨c10b0,c10b1,H⟩|⟨c10,c10b0,c10b1,H⟩
 ·replace H:=eI H
  rcases H with ⟨c11b0,c11b1,H⟩|⟨c11,c11b0,c11b1,H⟩
  ·obtain rfl:=Option.some.inj H
   exact Zb1.leaf
  ·obtain rfl:=Option.some.inj H
   exact Zb1.leaf
 ·obtain rfl:=Option.some.inj H
  exact Zb1.leaf
end YtjbjkmccfocikaaGreatDoor.B
end
section
namespace YtjbjkmccfocikaaGreatDoor.P.Nm
open Go.RowKit YtjbjkmccfocikaaGreatDoorW.PrintWords YtjbjkmccfocikaaGreatDoor.B YtjbjkmccfocikaaGreatDoor.P
structure RawD (l:List Int):Prop where
 dg:Dg 4294967296 l
 len:l.length<=9223372036854775807
theorem Zjd {a b:Bool} {l m:List Int} {e g:Int} (hl:RawD l) (hm:RawD m) (h:¬ (chk a l e=0/\chk b m g=0)):Tells (fun k=>Zbl.f k a l e b m g) (0,9):=by
 unfold Zbl.f
 have := Ze9 a l e b m g hl.dg hl.len hm.dg hm.len
 rw [if_neg h] at this
 exact this.bind (Tells.ifn (by decide +kernel) (Tells.pure _))
theorem Zql {a b:Bool} {l m:List Int} {e g:Int} (hl:RawD l) (hm:RawD m) (h:¬ (chk a l e=0/\chk b m g=0)):Tells (fun k=>Zdq.f k a l e b m g) (false,[],0,9):=by
 unfold Zdq.f
 have := Ze9 a l e b m g hl.dg hl.len hm.dg hm.len
 rw [if_neg h] at this
 exact this.bind (Tells.ifn (by decide) (Tells.pure _))
theorem Zqt {a b:Bool} {l m:List Int} {e g:Int} (hl:RawD l) (hm:RawD m) (h:¬ (chk a l e=0/\chk b m g=0)):Tells (fun k=>Zcz.f k a l e b m g) (false,[],0,9):=by
 unfold Zcz.f
 have := Ze9 a l e b m g hl.dg hl.len hm.dg hm.len
 rw [if_neg h] at this
 exact this.bind (Tells.ifn (by decide) (Tells.pure _))
theorem Zqp {a b:Bool} {l m:List Int} {e g:Int} (hl:RawD l) (hm:RawD m) (h:¬ (chk a l e=0/\chk b m g=0)):Tells (fun k=>Zcy.f k a l e b m g) (false,[],0,9):=by
 unfold Zcy.f
 have := Ze9 a l e b m g hl.dg hl.len hm.dg hm.len
 rw [if_neg h] at this
 exact this.bind (Tells.ifn (by decide) (Tells.pure _))
theorem RawD.nil:RawD []:=⟨(fun x h=>absurd h (by simp)),(by simp)⟩
theorem Ze8 (D:Dm) (h:nd D.n<=1000000):Tells (fun k=>Zo.f k D.neg (limbs D.n) D.e D.neg (limbs D.n) D.e) true:=(Zrw D D h).val (decide_eq_true rfl)
theorem Tells.at {α:Type} {f:Nat->Option α} {v:α} (n:Nat) (h:∀ k,f (k+n)=some v):Tells f v:=⟨n,fun k hk=>by
 obtain ⟨j,rfl⟩:∃ j,k=j+n:=⟨k - n,by omega⟩
 exact h j⟩
theorem alive02:Tells (fun k=>Zb1.f k) true:=Tells.at 40 fun k=>by kernel_rfl
end YtjbjkmccfocikaaGreatDoor.P.Nm
end
section
namespace YtjbjkmccfocikaaGreatDoor.B
open Go.RowKit YtjbjkmccfocikaaGreatDoorW.PrintWords YtjbjkmccfocikaaGreatDoorW.PrintLast YtjbjkmccfocikaaGreatDoorW.PrintMore
attribute [local go_sem] Zb3 Zb5 Zcp Zcq Zbs Zbt Zb4 Zb6
def Zby.f (l0:List Int):Option (List Int):=if ([]:List Int).length+l0.length < 35184372088832 then (some (([]:List Int)++l0)) else (none)
theorem Zby.calls (A0:Option Addr) (c0:Nat) (l0:List Int) (r:List Int) (w:World) (hr0:Kd.C (Kd.int .u32) w A0 l0.length l0) (hc0:l0.length<=c0) (h:Zby.f l0=some r) :
  Calls Tryz.prog 98 #[.slice A0 l0.length c0] w fun e w' => ∃ v0_:Value,e=.returned (v0_)/\Kd.R (Kd.int .u32) 85 w' w.heap.size (fun _=>True) v0_ r/\Below w.heap.size w w':=by
 have HR0:=am hr0
 have HC0:=am hc0
 clear hr0 hc0
 have HB:=am (Below.refl w.heap.size w)
 have H:(if ([]:List Int).length+l0.length < 35184372088832 then (some (([]:List Int)++l0)) else (none))=some r:=h
 clear h
 by_cases c2:([]:List Int).length+l0.length < 35184372088832
 ·rw [if_pos c2] at H
  have LMc2:=am c2
  clear c2
  obtain ⟨qd,qa⟩:∃ y_:List Int,y_=(([]:List Int)++l0):=⟨_,rfl⟩
  replace H:(some qd)=some r:=by have hy_:=qa;exact pH
  have qc:=am qa
  clear qa
  obtain rfl:=Option.some.inj H
  go_enter Tryz.func98,Tryz.ntmps98
  go_wp2_with (first|((with_reducible refine Za1 (b:=.append) (xs:=#[.tmp 4,.tmp 5]) rfl ?_);at_builtin;refine Kd.Zdy (Kd.int .u32) (w0:=w) w.heap.size rfl (.tmp 4) (.tmp 5) 22 85 (.int .u32 0) 4 rfl Tryz.underlying22 info85 rfl (by decide) (by omega) (.slice none 0 0) ([]:List Int) l0 _ _ _ (fun _=>True) (fun _=>False) rfl rfl ?aO ?aR (fun _ _ h=>h) (fun _ h=>h.elim) ?aF ?aB ?aS ?aL ?_;(case aR=>refine cp ?_;exact HR0.o);(case aB=>exact pB);(case aF=>exact (fun _ _=>trivial));(case aO=>exact ((Kd.Zh1 _ _ _ _ (fun _=>True))));(case aS=>exact (Zb pB));(case aL=>have := LMc2.o;omega);intro qe w3 ho hb hg hat;rw [<- qc.out] at ho;replace HB:=am hb;have qb:=am ho;clear ho hb hg hat))
  go_ret
  exact ⟨_,pE,by refine rp ?_;exact qb.o,pB⟩
 ·rw [if_neg c2] at H
  cases H
def Zcc.f (a0_0:Bool) (l0_1:List Int) (a0_2:Int):Option (Bool × List Int × Int):=(Zby.f l0_1).bind fun qb=>(some (a0_0,qb,a0_2))
theorem Zcc.calls (a0_0:Bool) (A0_1:Option Addr) (c0_1:Nat) (l0_1:List Int) (a0_2:Int) (r1:Bool) (r2:List Int) (r3:Int) (w:World) (hr0_1:Kd.C (Kd.int .u32) w A0_1 l0_1.length l0_1) (hc0_1:l0_1.length<=c0_1) (h:Zcc.f a0_0 l0_1 a0_2=some (r1,r2,r3)) :
  Calls Tryz.prog 42 #[.agg #[.bool a0_0,.slice A0_1 l0_1.length c0_1,.int .i64 a0_2]] w fun e w' => ∃ v1_:Value,e=.returned (.agg #[.bool r1,v1_,.int .i64 r3])/\Kd.R (Kd.int .u32) 85 w' w.heap.size (fun _=>True) v1_ r2/\Below w.heap.size w w':=by
 have hu24:=Tryz.underlying24
 have HR0_1:=am hr0_1
 have HC0_1:=am hc0_1
 clear hr0_1 hc0_1
 have HB:=am (Below.refl w.heap.size w)
 have H:((Zby.f l0_1).bind fun qb=>(some (a0_0,qb,a0_2)))=some (r1,r2,r3):=h
 clear h
 obtain ⟨qb,A2,H⟩:=ob H
 simp only [Option.some.injEq,Prod.mk.injEq] at H
 obtain ⟨rfl,rfl,rfl⟩:=H
 go_enter Tryz.func42,Tryz.ntmps42
 go_wp2_with (first|((with_reducible refine gd 1 ?_);refine bx 1 #[.bool a0_0,.slice A0_1 l0_1.length c0_1,.int .i64 a0_2] 24 (h:=?_);intro qh hg w3 hbox hb;have qa:=am hbox;have qi:=gW hg;replace HB:=bS hb;clear hb hbox hg)|((with_reducible refine gd 2 ?_);refine bx 2 #[.bool false,.slice none 0 0,.int .i64 0] 24 (h:=?_);intro qe hg w4 hbox hb;have qd:=am hbox;have qj:=gW hg;have qf:=nL hg qa;have qc:=nG hg qa;replace qa:=bb qa hb;replace HB:=bS hb;clear hb hbox hg;have hnb5:=qf.o;have hnc5:=qc.o;obtain ⟨_,_,_,_,_,_⟩:=cEc qa.o)|(refine gL (some 5) Tryz.func98 #[.slice A0_1 l0_1.length c0_1] (h:=?_);(with_reducible refine (Zby.calls _ _ l0_1 qb _ ?side1 ?side2 A2.o).mono ?_);(case side1=>exact cB HR0_1 HB);(case side2=>exact HC0_1.o);rintro e w7 ⟨qk,rfl,ho0,hb⟩;refine ⟨_,rfl,?_⟩;have qg:=am (Kd.Zt ho0 (Zb pB));replace qa:=bb qa hb;replace qd:=bb qd hb;replace HB:=bS hb;obtain ⟨Ao8,co8,eo8⟩:=Kd.Zm qg.o;subst eo8;obtain ⟨_,_,_,_,_,_⟩:=cEc qa.o;obtain ⟨_,_,_,_,_,_⟩:=cEc qd.o))
 refine bodyPost_ret (results_cell_row rfl _ _ qe 24 #[.bool a0_0,.slice Ao8 qb.length co8,.int .i64 a0_2] (0,0) _ rfl (by refine bp ?_;refine Zab (cs:=#[.bool a0_0,.slice Ao8 qb.length co8,.int .i64 0]) ?_ 2 _ rfl;refine bp ?_;refine Zab (cs:=#[.bool a0_0,.slice none 0 0,.int .i64 0]) ?_ 1 _ rfl;refine bp ?_;refine Zab (cs:=#[.bool false,.slice none 0 0,.int .i64 0]) ?_ 0 _ rfl;refine bq ?_ qc;exact bp qd.o) Tryz.underlying24 rfl (by kernel_rfl)) rfl ?_
 exact ⟨_,pE,by refine rp ?_;exact Kd.Zi (Kd.Zj (p:=⟨qe,2,none⟩) (Kd.Zj (p:=⟨qe,1,none⟩) (Kd.Zj (p:=⟨qe,0,none⟩) (Kd.Zj (p:=⟨qh,1,none⟩) (Kd.Zg (Kd.Zg qg.o qa.o (by decide)) qd.o (by decide)) (fun _ hk=>hk.1.2) (.slice Ao8 qb.length co8)) (fun _ hk=>hk.2) (.bool a0_0)) (fun _ hk=>hk.2) (.slice Ao8 qb.length co8)) (fun _ hk=>hk.2) (.int .i64 a0_2)) (fun _ hk=>trivial),pB⟩
end YtjbjkmccfocikaaGreatDoor.B
end
section
namespace YtjbjkmccfocikaaGreatDoor.B
open Go.RowKit Go.Shelf YtjbjkmccfocikaaGreatDoorW.PrintWords
attribute [local go_sem] Oper.semAt_some
theorem Zpc (w:World) (A:Option Addr) (m c:Nat) (n:Nat) :
  CallsIn Fence.wide n Tryz.prog 107 #[.slice A m c] w fun e w'=>e=.returned (.func (.func 142) #[] #[.pointer (some ⟨w.heap.size,0,none⟩)])/\w'=w.alloc (.cells #[.slice A m c] 22):=by
 refine callsIn_of_wp Tryz.func107 rfl trivial ?_ rfl
 simp only [Tryz.ntmps107,List.size_toArray,List.length_cons,List.length_nil,Nat.reduceAdd,Nat.reduceSub,Array.replicate_succ,Array.replicate_zero,List.push_toArray,List.append_toArray,List.nil_append,List.cons_append]
 gi_wp2
 go_ret
 exact ⟨rfl,rfl⟩
theorem Znl (n:Nat) (hn:1<=n) (l Bs:Nat) (A:Option Addr) (m c:Nat) (Rd:Nat->Int->Prop) (hm:m<=9223372036854775807) (J Jx:List (Nat × Int)->World->Prop)
  (W:World) (hJ:AbidesFrom W.heap.size J)
  (hY:∀ pre x W1,J pre W1->pre.length < m->BkP Rd m (pre ++ [x])->YieldAt Fence.wide (n - 1) Tryz.prog l (bkEnc x) W1 fun e W' =>
   (e=.returned (.bool true)/\J (pre ++ [x]) W'/\KpB Bs A m Rd W1 W')\/(e=.returned (.bool false)/\Jx (pre ++ [x]) W'))
  (hBs:Boxed W Bs 22 (.slice A m c)) (hR:RdW A m Rd W) (h0:J [] W) :
  CallsIn Fence.wide n Tryz.prog 142 #[.func (.yield l) #[] #[],.pointer (some ⟨Bs,0,none⟩)] W fun e W'=>(∃ v,e=.returned v) /\
   ((∃ ys,(BkP Rd m ys/\ys.length=m)/\J ys W')\/(∃ pre,BkP Rd m pre/\Jx pre W')):=by
 have hc0:=hBs.cell
 have HBs:=Lib.hid hBs
 have HJ:=Lib.hid hJ
 have HY:=Lib.hid hY
 clear hBs hJ hY
 refine callsIn_of_wp Tryz.func142 rfl trivial ?_ rfl
 simp only [Tryz.ntmps142,List.size_toArray,List.length_cons,List.length_nil,Nat.reduceAdd,Nat.reduceSub,Array.replicate_succ,Array.replicate_zero,List.push_toArray,List.append_toArray,List.nil_append,List.cons_append]
 gi_wp2
 gi_loopw [3] (fun i wr => ∃ pre:List (Nat × Int),i=.int .i64 ((m:Int) - 1 - (pre.length:Int))/\BkP Rd m pre/\Boxed wr Bs 22 (.slice A m c)/\RdW A m Rd wr/\J pre wr)
  (fun i _=>(intOf i+1).toNat)
 case atStart=>exact ⟨[],by simp,⟨Nat.zero_le _,fun k x h=>by simp at h⟩,HBs.out,hR,h0⟩
 case round =>
  obtain ⟨pre,rfl,hp,hb,hr,hj⟩:=hrel
  have hle:=hp.1
  have hc1:=hb.cell
  have HP:=Lib.hid hp
  have HB:=Lib.hid hb
  clear hp hb hc0 hR
  obtain ⟨k,hk⟩:∃ k,pre.length=k:=⟨_,rfl⟩
  rw [hk] at hle ⊢
  by_cases hlt:k < m
  ·have hlt':(0:Int)<=(m:Int) - 1 - (k:Int):=by omega
   obtain ⟨b,o,rfl,hcs⟩:∃ b o,A=some ⟨b,o,none⟩ /\ ∀ j,j < m -> ∃ x,wr.cell? ⟨b,o+j,none⟩=some (.int .u32 x)/\Rd j x:=hr.resolve_left (by omega)
   obtain ⟨x,hx,hrd⟩:=hcs (m - 1 - k) (by omega)
   have hsn:=HP.out.snoc (by omega) (by rw [hk];exact hrd)
   rw [hk] at hsn
   obtain ⟨fn,tmps,assign,body,hy,hRr⟩:=HY.out pre (m - 1 - k,x) wr hj (by omega) hsn
   obtain ⟨i,hi⟩:∃ i:Nat,m - 1 - k=i:=⟨_,rfl⟩
   have hi':(m:Int) - 1 - (k:Int)=(i:Int):=by omega
   rw [hi] at hx hy hsn hRr
   rw [hi']
   have hx0:(0:Int)<=(i:Int):=by omega
   have hx1:(i:Int) < (m:Int):=by omega
   have HI:=Lib.hid hi'
   have HK:=Lib.hid hk
   have HSn:=Lib.hid hsn
   have HRr:=Lib.hid hr
   clear hi' hi hk hlt' hsn hr hcs hrd
   dsimp only [bkEnc] at hy
   gi_wp2
   refine hRr.mono ?_
   rintro e W3 (⟨rfl,hJ3,hk1,hk2⟩|⟨rfl,hJx3⟩)
   ·have hb3:Boxed W3 Bs 22 (.slice (some ⟨b,o,none⟩) m c):=hk1.trans HB.out
    have hr3:=hk2 HRr.out
    gi_wp2
    go_roundw
    case rel=>exact ⟨pre ++ [(i,x)],by have := HI.out;have := HK.out;rw [List.length_append];simp only [List.length_cons,List.length_nil];exact congrArg (Value.int .i64) (by omega),HSn.out,hb3,hr3,hJ3⟩
    case measure=>simp [intOf]
   ·gi_wp2
    refine bodyPost_ret (results_none rfl _ _ _) rfl ?_
    exact ⟨⟨_,rfl⟩,.inr ⟨_,HSn.out,hJx3⟩⟩
  ·have hge:¬ (0:Int)<=(m:Int) - 1 - (k:Int):=by omega
   have HK:=Lib.hid hk
   clear hk
   gi_wp2
   go_end0
   exact ⟨⟨_,rfl⟩,.inl ⟨pre,⟨HP.out,by have := HK.out;omega⟩,hj⟩⟩
theorem Zki (n:Nat) (hn:1<=n) (Bs:Nat) (A:Option Addr) (m c:Nat) (Rd:Nat->Int->Prop) (hm:m<=9223372036854775807) (w:World)
  (hBs:Boxed w Bs 22 (.slice A m c)) (hR:RdW A m Rd w) :
  SeqCell Fence.wide n Tryz.prog 142 #[.pointer (some ⟨Bs,0,none⟩)] bkEnc (KpB Bs A m Rd) (fun ys=>BkP Rd m ys/\ys.length=m) (BkP Rd m) m Bs w :=
 fun l J Jx W hW hJ _ _ hY h0=>Znl n hn l Bs A m c Rd hm J Jx W hJ hY ((hW.block Bs hBs.lt).trans hBs) (hR.below hW) h0
end YtjbjkmccfocikaaGreatDoor.B
end
section
namespace YtjbjkmccfocikaaGreatDoor.B
open Go.RowKit YtjbjkmccfocikaaGreatDoorW.PrintWords YtjbjkmccfocikaaGreatDoor.P.Nm
attribute [local go_sem] Oper.semAt_some Instr.field asAgg
def Zds.f (k:Nat) (a:Bool) (l:List Int) (e:Int):Option (Int × Bool × Int):=(Zbk.f k a l e).bind fun t=>if t=0 then (if e < 0 then some (0,false,0) else if 21 < e then some (0,false,0) else (Zz.f k a l e 0).bind fun d=>if 2 < d.2.1.length then some (0,false,0) else if okW d.2.1=true then (if 9007199254740992 < num d.2.1 then some (0,false,0) else some (if a then -(num d.2.1:Int) else num d.2.1,true,0)) else none) else some (0,false,t)
structure WhI (w2:World) (L:List Int) (pre:List (Nat × Int)) (W:World):Prop where
 n:Boxed W w2.heap.size 3 (.int .i64 (wrap64 (val 4294967296 (L.drop (L.length - pre.length)))))
 s:∃ u,Boxed W (w2.heap.size+1) 22 u
 low:Below w2.heap.size w2 W
theorem WhI.own {w2:World} {L:List Int} {n:Nat} (hn:w2.heap.size<=n):OwnFrom n (WhI w2 L):=by
 rintro pre A W row ⟨a,⟨u,s⟩,hb⟩ hg hr
 exact ⟨a.kept hg (not_row hr a),⟨u,s.kept hg (not_row hr s)⟩,(ownFrom_below (Nat.le_refl _) hn:OwnFrom _ (fun _:List (Nat × Int)=>Below w2.heap.size w2)) pre A W row hb hg hr⟩
theorem WhI.minds {w2:World} {L:List Int}:Minds (w2.heap.size+1) (WhI w2 L):=by
 rintro pre W u ⟨a,⟨v,s⟩,hb⟩
 exact ⟨(Zck W _ u _ (by omega)).trans a,⟨u,s.set u⟩,hb.setCell (p:=⟨w2.heap.size+1,0,none⟩) (by simp) u⟩
theorem Zsa {v y:Int} (h0:0<=v) (h1:v < 4294967296) (h2:0<=y) (h3:y < 4294967296):Go.bits .or .i64 (wrap64 (v*4294967296)) y=wrap64 (v*4294967296+y):=by
 obtain ⟨a,rfl⟩:=Int.eq_ofNat_of_zero_le h0
 obtain ⟨b,rfl⟩:=Int.eq_ofNat_of_zero_le h2
 show IntKind.i64.wrap ((BitVec.ofInt 64 (wrap64 ((a:Int)*4294967296)) ||| BitVec.ofInt 64 (b:Int)).toNat:Int)=_
 have e2:((2 ^ 64:Nat):Int)=18446744073709551616:=by decide
 have e1:(BitVec.ofInt 64 (wrap64 ((a:Int)*4294967296))).toNat=2 ^ 32*a:=by
  rw [BitVec.toNat_ofInt,e2];unfold wrap64;omega
 have e3:(BitVec.ofInt 64 (b:Int)).toNat=b:=by rw [BitVec.toNat_ofInt,e2];omega
 rw [BitVec.toNat_or,e1,e3,<- Nat.two_pow_add_eq_or_of_lt (show b < 2 ^ 32 by omega)]
 have e4:((2 ^ 32*a+b:Nat):Int)=(a:Int)*4294967296+b:=by omega
 rw [e4]
 simp [IntKind.wrap,IntKind.bits,IntKind.signed,wrap64]
 split <;> omega
theorem Zds.calls (k:Nat) (a0_0:Bool) (A0_1:Option Addr) (c0_1:Nat) (l0_1:List Int) (a0_2:Int) (r1:Int) (r2:Bool) (r3:Int) (w:World) (hr0_1:Kd.C (Kd.int .u32) w A0_1 l0_1.length l0_1) (hc0_1:l0_1.length<=c0_1) (h:Zds.f k a0_0 l0_1 a0_2=some (r1,r2,r3)) :
  Calls Tryz.prog 52 #[.agg #[.bool a0_0,.slice A0_1 l0_1.length c0_1,.int .i64 a0_2]] w fun e w'=>e=.returned (.tuple #[.int .i64 r1,.bool r2,.int .i64 r3])/\Below w.heap.size w w':=by
 have hu24:=Tryz.underlying24
 have hu106:=Tryz.underlying106
 unfold Zds.f at h
 obtain ⟨t,ht,h⟩:=Option.bind_eq_some_iff.mp h
 refine (callsIn_wide (n:=4)).1 ?_
 refine callsIn_of_wp_marks Tryz.func52 rfl trivial ?_ rfl
 simp only [Tryz.ntmps52,List.size_toArray,List.length_cons,List.length_nil,Nat.reduceAdd,Nat.reduceSub,Array.replicate_succ,Array.replicate_zero,List.push_toArray,List.append_toArray,List.nil_append,List.cons_append]
 have CK:=Aside0.mk (Zbk.calls k a0_0 A0_1 c0_1 l0_1 a0_2 t (w.alloc (.cells #[.bool a0_0,.slice A0_1 l0_1.length c0_1,.int .i64 a0_2] 24)) (Kd.Zqn hr0_1 _) hc0_1 ht)
 have HR:=Aside0.mk hr0_1
 have hB0:Below w.heap.size w (w.alloc (.cells #[.bool a0_0,.slice A0_1 l0_1.length c0_1,.int .i64 a0_2] 24)):=(Below.refl _ w).alloc (Nat.le_refl _) _
 have HB0:=Aside0.mk hB0
 have HQ:=Aside0.mk (Zkj w (.cells #[.bool a0_0,.slice A0_1 l0_1.length c0_1,.int .i64 a0_2] 24))
 clear hr0_1 ht hB0
 by_cases ht:t=0
 ·subst ht
  rw [if_pos rfl] at h
  by_cases he:a0_2 < 0
  ·rw [if_pos he] at h
   obtain ⟨rfl,rfl,rfl⟩:0=r1/\false=r2/\0=r3:=by simpa using h
   have he1:decide (a0_2 < 0)=true:=decide_eq_true he
   clear h he
   gi_wp2_with (refine ⟨trivial,?_⟩;gi_at_call 55;refine (callsIn_wide.2 CK.out).mono ?_;rintro e w1 ⟨rfl,hb1⟩;have q0:=(Zc2 (Za HQ.out hb1) 0).trans rfl;have q1:=(Zc2 (Za HQ.out hb1) 1).trans rfl;have q2:=(Zc2 (Za HQ.out hb1) 2).trans rfl)
   exact ⟨_,by simp [results,Tryz.f52,go_sem],rfl,Zde HB0.out hb1⟩
  ·rw [if_neg he] at h
   have he1:decide (a0_2 < 0)=false:=decide_eq_false he
   by_cases he2:21 < a0_2
   ·rw [if_pos he2] at h
    obtain ⟨rfl,rfl,rfl⟩:0=r1/\false=r2/\0=r3:=by simpa using h
    have he3:decide (21 < a0_2)=true:=decide_eq_true he2
    clear h he he2
    gi_wp2_with (refine ⟨trivial,?_⟩;gi_at_call 55;refine (callsIn_wide.2 CK.out).mono ?_;rintro e w1 ⟨rfl,hb1⟩;have q0:=(Zc2 (Za HQ.out hb1) 0).trans rfl;have q1:=(Zc2 (Za HQ.out hb1) 1).trans rfl;have q2:=(Zc2 (Za HQ.out hb1) 2).trans rfl)
    exact ⟨_,by simp [results,Tryz.f52,go_sem],rfl,Zde HB0.out hb1⟩
   ·rw [if_neg he2] at h
    have he3:decide (21 < a0_2)=false:=decide_eq_false he2
    obtain ⟨⟨d1,L,d3⟩,hd,h⟩:=Option.bind_eq_some_iff.mp h
    simp only at h
    have CD:=fun W (hW:Below w.heap.size w W)=>Aside0.mk (Zz.calls k a0_0 (fun k_=>k_ < w.heap.size) A0_1 c0_1 l0_1 a0_2 0 d1 L d3 W (Kd.V_mk hc0_1 (Kd.Ze7 (Kd.C_F (Kd.Zfm .u32) HR.out) hW)) hd)
    have CDA:=Aside0.mk CD
    clear CD hd he he2
    by_cases hl:2 < L.length
    ·rw [if_pos hl] at h
     obtain ⟨rfl,rfl,rfl⟩:0=r1/\false=r2/\0=r3:=by simpa using h
     have hl':(2:Int) < (L.length:Int):=by omega
     clear h
     gi_wp2_with (first|(refine ⟨trivial,?_⟩;gi_at_call 55;refine (callsIn_wide.2 CK.out).mono ?_;rintro e w1 ⟨rfl,hb1⟩;have q0:=(Zc2 (Za HQ.out hb1) 0).trans rfl;have q1:=(Zc2 (Za HQ.out hb1) 1).trans rfl;have q2:=(Zc2 (Za HQ.out hb1) 2).trans rfl;have hb0:=Zde HB0.out hb1)|(refine ⟨trivial,?_⟩;gi_at_call 106;refine (callsIn_wide.2 ((CDA.out _ hb0).out)).mono ?_;rintro e w2 ⟨v1,rfl,hV,hb2⟩;obtain ⟨A1,c1,rfl⟩:=Kd.Zdu hV))
     exact ⟨_,by simp [results,Tryz.f52,go_sem],rfl,Zde hb0 hb2⟩
    ·rw [if_neg hl] at h
     split at h
     case isFalse=>cases h
     case isTrue hok =>
     have okL:=Zek.1 hok
     obtain ⟨N,hN⟩:∃ N,num L=N:=⟨_,rfl⟩
     rw [hN] at h
     have hNv:=Zdh okL.dg
     rw [hN] at hNv
     have hN64:N < 18446744073709551616:=by
      have := Zqe okL.dg
      rw [hN] at this
      exact Nat.lt_of_lt_of_le this (Nat.le_trans (Nat.pow_le_pow_right (by omega) (show L.length<=2 by omega)) (by decide))
     have HL:=Aside0.mk (show L.length<=2 by omega)
     have HNv:=Aside0.mk hNv
     have OKL:=Aside0.mk okL
     have HH:=Aside0.mk h
     have hl':¬ ((2:Int) < (L.length:Int)):=by omega
     clear h hok hN hl hNv okL
     gi_wp2_with (first|(refine ⟨trivial,?_⟩;gi_at_call 55;refine (callsIn_wide.2 CK.out).mono ?_;rintro e w1 ⟨rfl,hb1⟩;have q0:=(Zc2 (Za HQ.out hb1) 0).trans rfl;have q1:=(Zc2 (Za HQ.out hb1) 1).trans rfl;have q2:=(Zc2 (Za HQ.out hb1) 2).trans rfl;have hb0:=Zde HB0.out hb1)|(refine ⟨trivial,?_⟩;gi_at_call 106;refine (callsIn_wide.2 ((CDA.out _ hb0).out)).mono ?_;rintro e w2 ⟨v1,rfl,hV,hb2⟩;obtain ⟨A1,c1,rfl⟩:=Kd.Zdu hV)|(refine ⟨trivial,?_⟩;gi_at_call 107;refine (Zpc _ _ _ _ _).mono ?_;rintro e w' ⟨rfl,rfl⟩))
     have bN:=(Boxed.new w2 3 (.int .i64 0)).alloc (.cells #[.slice A1 L.length c1] 22)
     have bS:=Boxed.new (w2.alloc (.cells #[.int .i64 0] 3)) 22 (.slice A1 L.length c1)
     have hBw:Below w2.heap.size w2 ((w2.alloc (.cells #[.int .i64 0] 3)).alloc (.cells #[.slice A1 L.length c1] 22)):=((Below.refl _ w2).alloc (Nat.le_refl _) _).alloc (by simp) _
     simp only [World.size_alloc] at bN bS
     have hE:=Zg7 (Kd.Zai hV).2.2
     have hQ2:=Aside0.mk (Za (Za HQ.out hb1) hb2)
     have hLow:=Aside0.mk (Zde hb0 hb2)
     have hA0:L.length=0 \/ ∃ b o,A1=some ⟨b,o,none⟩/\b < w2.heap.size:=by
      rcases Nat.eq_zero_or_pos L.length with h|h
      ·exact .inl h
      ·obtain ⟨b,o,x,hA,hc,_⟩:=hE.at h
       exact .inr ⟨b,o,hA,by have := World.block_lt_of_cell? w2 _ hc;simp at this;omega⟩
     have hA:=Lib.hid hA0
     clear hA0
     have hz:wrap64 (val 4294967296 (L.drop (L.length - ([]:List (Nat × Int)).length)))=0:=by simp [val,wrap64]
     clear hV hb0 hb1 hb2 q0 q1 q2
     refine Zdw (b:=w2.heap.size+1) rfl (by decide) (gf:=142) (lb:=#[.pointer (some ⟨w2.heap.size+1,0,none⟩)]) rfl trivial (enters_of Tryz.func142 (by kernel_rfl) rfl)
      (Zki 3 (by omega) (w2.heap.size+1) A1 L.length c1 (fun j x=>x=L.getD j 0) (by have := HL.out;omega) _ bS (hE.below hBw)) (by simp) (fun h k=>h.trans k)
      (fun W l o o' hl ho hc hw=>KpB.put (by simp at hl;omega) ho hc) (Below.refl _ _) (fun _=>rfl)
      (WhI w2 L) (fun _ _ _=>False) (WhI.own (by simp;omega)) (fun _=>by rintro pre A W row h;exact h.elim) WhI.minds ?start
      (fun x=>{ tmps:=#[.agg #[.bool a0_0,.slice A0_1 l0_1.length c0_1,.int .i64 a0_2],.pointer (some ⟨w.heap.size,0,none⟩),.int .i64 0,.bool false,.int .i64 0,.int .i64 0,.slice A1 L.length c1,.pointer (some ⟨w2.heap.size,0,none⟩),undef,.int .u32 x.2,
       .agg #[.bool a0_0,.slice A0_1 l0_1.length c0_1,.int .i64 a0_2],.int .i64 0,.int .i64 0,.bool false,undef,.pointer (some ⟨w.heap.size,2,none⟩),.int .i64 a0_2,.bool false,.bool false,.pointer (some ⟨w.heap.size,2,none⟩),.int .i64 a0_2,.bool false,.bool false,
       .agg #[.bool a0_0,.slice A0_1 l0_1.length c0_1,.int .i64 a0_2],.agg #[.bool a0_0,.slice A0_1 l0_1.length c0_1,.int .i64 a0_2],.agg #[.bool d1,.slice A1 L.length c1,.int .i64 d3],.agg #[.bool d1,.slice A1 L.length c1,.int .i64 d3],.slice A1 L.length c1,.slice A1 L.length c1,.int .i64 L.length,.bool (decide ((2:Int) < (L.length:Int))),.slice A1 L.length c1,
       .func (.func 142) #[] #[.pointer (some ⟨w2.heap.size+1,0,none⟩)],.int .i64 x.1,.int .u32 x.2,undef,undef,undef,undef,undef,undef,undef,undef,undef,undef,undef,undef,undef,undef,undef,undef,undef,undef],defers:=[] }) ?assign ?body ?done ?stop
     case start=>exact ⟨by rw [hz];exact bN,⟨_,bS⟩,hBw⟩
     case assign =>
      intro l x W K hK
      gi_wp2
      exact hK
     case body =>
      rintro l pre x W ⟨n,⟨u,s⟩,hb⟩ hlen hsp
      obtain ⟨hx1,hx2⟩:=hsp.2 pre.length x (by simp)
      obtain ⟨i,y⟩:=x
      simp only at hx1 hx2
      have hi':i < L.length:=by omega
      have hyr:0<=y/\y < 4294967296:=by
       rw [hx2,List.getD,List.getElem?_eq_getElem hi']
       exact OKL.out.dg _ (List.getElem_mem hi')
      obtain ⟨v,hv,hv0⟩:∃ v:Int,wrap64 (val 4294967296 (L.drop (L.length - pre.length)))=v/\0<=v/\v < 4294967296/\wrap64 (val 4294967296 (L.drop (L.length - (pre ++ [(i,y)]).length)))=wrap64 (v*4294967296+y):=by
       have e1:L.length - pre.length=i+1:=by omega
       have e2:L.length - (pre ++ [(i,y)]).length=i:=by simp;omega
       have hd:=OKL.out.dg
       have hv1:=Zfs (b:=4294967296) (by omega) (hd.drop (i+1))
       have hv0:=Zcw (b:=4294967296) (by omega) (hd.drop (i+1))
       have hle:pw 4294967296 (L.drop (i+1)).length<=pw 4294967296 1:=Zrf (by omega) (by rw [List.length_drop];have := HL.out;omega)
       have hp1:pw 4294967296 1=4294967296:=by decide
       have hdr:L.drop i=y :: L.drop (i+1):=by
        rw [List.drop_eq_getElem_cons hi',hx2,List.getD,List.getElem?_eq_getElem hi'];rfl
       rw [e1,e2,hdr,Zc8]
       obtain ⟨V,hVe⟩:∃ V,val 4294967296 (L.drop (i+1))=V:=⟨_,rfl⟩
       rw [hVe] at hv1 hv0 ⊢
       have hw:wrap64 V=V:=by unfold wrap64;omega
       exact ⟨V,hw,hv0,by omega,by rw [Int.add_comm y,Int.mul_comm]⟩
      rw [hv] at n
      have hnc:=n.cell
      have hnf:=n.frozen
      have hH:=Lib.hid hb
      have HS:=Lib.hid s
      have HN:=Lib.hid n
      clear hv hx1 hx2 hsp hb s n
      have hor:=Zsa hv0.1 hv0.2.1 hyr.1 hyr.2
      have HV:=Lib.hid hv0.2.2
      have HOr:=Lib.hid hor
      clear hor hv0
      gi_wp2
      refine ⟨(KeepsOthers.setCell W ⟨w2.heap.size,0,none⟩ _).from _,KpB.set (p:=⟨w2.heap.size,0,none⟩) _ (by show w2.heap.size+1 ≠ w2.heap.size;omega) (hA.out.imp id fun ⟨b,o,h1,h2⟩=>⟨b,o,h1,by show b ≠ w2.heap.size;omega⟩),?_,⟨u,?_⟩,?_⟩
      ·rw [HV.out,HOr.out];exact Boxed.set _ HN.out
      ·exact (Zck W _ _ _ (by omega)).trans HS.out
      ·exact hH.out.setCell (p:=⟨w2.heap.size,0,none⟩) (by simp) _
     case done =>
      rintro D ys W hD ⟨hp,hpl⟩ ⟨n,_,hb⟩ hK
      have hc3:=Zc2 (Za hQ2.out hb) 0
      have hall:wrap64 (val 4294967296 (L.drop (L.length - ys.length)))=wrap64 (N:Int):=by rw [hpl,Nat.sub_self,List.drop_zero,HNv.out]
      rw [hall] at n
      have hnc:=n.cell
      have HLow:=Aside0.mk (Zde hLow.out hb)
      have hD':w.heap.size<=D:=by have h1:=(Zb hLow.out);simp at hD;omega
      have HK:=Aside0.mk hK
      have hh:=HH.out
      have fin:∀ (x:Int) (b:Bool),Below w.heap.size w (W.putObj D (.deferred none)):=fun _ _=>HLow.out.trans (belowK_b (w:=w) (Nat.le_refl _) W D _ _ hD' HK.out rfl rfl)
      have Fin:=Aside0.mk fin
      clear hp hpl n hb hK hall fin HH
      by_cases hbig:9007199254740992 < N
      ·rw [if_pos hbig] at hh
       obtain ⟨rfl,rfl,rfl⟩:0=r1/\false=r2/\0=r3:=by simpa using hh
       clear hh
       by_cases hs:N < 9223372036854775808
       ·have hw:wrap64 (N:Int)=(N:Int):=by unfold wrap64;omega
        rw [hw] at hnc
        have f1:decide ((N:Int) < 0)=false:=decide_eq_false (by omega)
        have f2:decide (9007199254740992 < (N:Int))=true:=decide_eq_true (by omega)
        have f3:¬ ((N:Int) < 0):=by omega
        have f4:(9007199254740992:Int) < (N:Int):=by omega
        gi_wp2
        refine ⟨by simp,.inl ⟨_,_,rfl,run_takeDeferred HK.out,?_⟩⟩
        exact ⟨_,by simp [results,Tryz.f52,go_sem],rfl,Fin.out 0 true⟩
       ·have hw:∃ z:Int,wrap64 (N:Int)=z/\z < 0:=⟨(N:Int) - 18446744073709551616,by unfold wrap64;omega,by omega⟩
        obtain ⟨z,hw,hz0⟩:=hw
        rw [hw] at hnc
        have f1:decide (z < 0)=true:=decide_eq_true hz0
        gi_wp2
        refine ⟨by simp,.inl ⟨_,_,rfl,run_takeDeferred HK.out,?_⟩⟩
        exact ⟨_,by simp [results,Tryz.f52,go_sem],rfl,Fin.out 0 true⟩
      ·rw [if_neg hbig] at hh
       obtain ⟨rfl,rfl,rfl⟩:(if a0_0=true then -(N:Int) else (N:Int))=r1/\true=r2/\0=r3:=by simpa using hh
       clear hh
       have hw:wrap64 (N:Int)=(N:Int):=by unfold wrap64;omega
       rw [hw] at hnc
       have f1:decide ((N:Int) < 0)=false:=decide_eq_false (by omega)
       have f2:decide (9007199254740992 < (N:Int))=false:=decide_eq_false (by omega)
       have f3:¬ ((N:Int) < 0):=by omega
       have f4:¬ ((9007199254740992:Int) < (N:Int)):=by omega
       have f5:wrap64 (-(N:Int)) = -(N:Int):=by unfold wrap64;omega
       have F5:=Aside0.mk f5
       clear f5 hbig
       cases a0_0
       ·gi_wp2
        refine ⟨by simp,.inl ⟨_,_,rfl,run_takeDeferred HK.out,?_⟩⟩
        exact ⟨_,by simp [results,Tryz.f52,go_sem],rfl,Fin.out 0 true⟩
       ·gi_wp2
        refine ⟨by simp,.inl ⟨_,_,rfl,run_takeDeferred HK.out,?_⟩⟩
        exact ⟨_,by simp [results,Tryz.f52,go_sem,F5.out],rfl,Fin.out 0 true⟩
     case stop =>
      rintro D c pre W hD hpre h hK
      exact h.elim
 ·rw [if_neg ht] at h
  obtain ⟨rfl,rfl,rfl⟩:0=r1/\false=r2/\t=r3:=by simpa using h
  have ht':(t != 0)=true:=bne_iff_ne.2 ht
  clear ht h
  gi_wp2_with (refine ⟨trivial,?_⟩;gi_at_call 55;refine (callsIn_wide.2 CK.out).mono ?_;rintro e w1 ⟨rfl,hb1⟩)
  exact ⟨_,by simp [results,Tryz.f52,go_sem],rfl,Zde HB0.out hb1⟩
end YtjbjkmccfocikaaGreatDoor.B
end
section
namespace YtjbjkmccfocikaaGreatDoor.P.Nm
open Go.RowKit YtjbjkmccfocikaaGreatDoorW.PrintWords YtjbjkmccfocikaaGreatDoor.B YtjbjkmccfocikaaGreatDoor.P
theorem Zh6 {l:List Int} (h:l.length<=35184372087808):Zby.f l=some l:=by
 unfold Zby.f
 rw [if_pos (by simp;omega),List.nil_append]
theorem Zqq {a:Bool} {l:List Int} {e:Int} (hl:RawD l) (h:¬ chk a l e=0):Tells (fun k=>Zea.f k a l e) (false,[],0,9):=by
 unfold Zea.f
 refine (Zd7 a l e hl.dg hl.len).bind (Tells.ifn h ((Tells.pure _).val ?_))
 rcases Zp8 a l e with h1|h1
 ·exact absurd h1 h
 ·rw [h1]
theorem Zo5 {a:Bool} {l:List Int} {e:Int} (hl:RawD l) (h:¬ chk a l e=0):Tells (fun k=>Zbr.f k a l e) (false,[],0,9):=by
 unfold Zbr.f
 exact (Zdx a l e hl.dg hl.len).bind (Tells.ifn h (Tells.pure _))
theorem Zo3 {a b:Bool} {l m:List Int} {e g:Int} (hl:RawD l) (hm:RawD m) (h:¬ (chk a l e=0/\chk b m g=0)):Tells (fun k=>Zaw.f k a l e b m g) (false,[],0,9):=by
 unfold Zaw.f
 have := Zd0 a l e b m g hl.dg hl.len hm.dg hm.len
 rw [if_neg h] at this
 exact this.bind (Tells.ifn (by decide) (Tells.pure _))
theorem AddX {a b:Bool} {l m:List Int} {e g:Int} (hl:RawD l) (hm:RawD m):∃ D:Dm × Int,nd D.1.n<=1000/\Tells (fun k=>Zdq.f k a l e b m g) (outD D)/\Tells (fun k=>Zaw.f k a l e b m g) (outD D):=by
 by_cases h:chk a l e=0/\chk b m g=0
 ·obtain ⟨D,hD,rfl,rfl,rfl⟩:=Zfr hl.dg h.1
  obtain ⟨E,hE,rfl,rfl,rfl⟩:=Zfr hm.dg h.2
  exact ⟨addD D E,by have := (Zf9 (plusD D E)).len;unfold addD;omega,DAdd D E hD hE,RAdd D E hD hE⟩
 ·exact ⟨(zeroD,9),by decide,Zql hl hm h,Zo3 hl hm h⟩
theorem NegX {a:Bool} {l:List Int} {e:Int} (hl:RawD l):∃ D:Dm × Int,nd D.1.n<=1000/\Tells (fun k=>Zea.f k a l e) (outD D)/\Tells (fun k=>Zbr.f k a l e) (outD D):=by
 by_cases h:chk a l e=0
 ·obtain ⟨D,hD,rfl,rfl,rfl⟩:=Zfr hl.dg h
  exact ⟨(negD D,0),by have := hD.len;show nd D.n<=1000;omega,DNeg D hD,RNeg D hD⟩
 ·exact ⟨(zeroD,9),by decide,Zqq hl h,Zo5 hl h⟩
theorem Zr2 {n:Int} (h1 : -9223372036854775808<=n) (h2:n<=9223372036854775807):OkD (intD n)/\0<=(intD n).e/\sc 0 (intD n)=n/\settleD ⟨decide (n < 0),n.natAbs,0⟩=(intD n,0):=by
 have ok:OkD (intD n):=Zf9 _
 have h20:nd n.natAbs<=20:=Zmi (by omega)
 have he:settleD ⟨decide (n < 0),n.natAbs,0⟩=(intD n,0):=by
  unfold intD settleD
  simp only
  by_cases hn:n.natAbs=0
  ·rw [if_pos hn]
  ·have hc:=Zkr hn
   rw [if_neg hn,if_neg (by omega),if_neg (by omega)]
 refine ⟨ok,?_,?_,he⟩
 ·rcases Zfh ⟨decide (n < 0),n.natAbs,0⟩ with ⟨e,_⟩|⟨e,_⟩|⟨e,_⟩|⟨e,_⟩ <;> rw [he] at e <;> rw [(Prod.mk.inj e).1]
  ·decide
  ·decide
  ·decide
  ·show 0<=0+(tz n.natAbs:Int);omega
 ·rw [Zor (K:=0) (a:=⟨decide (n < 0),n.natAbs,0⟩) (Int.le_refl 0) he]
  unfold sc
  simp only [Int.add_zero,Int.toNat_zero,Nat.pow_zero,Nat.mul_one]
  by_cases hn:n < 0
  ·rw [decide_eq_true hn,if_pos rfl];omega
  ·rw [decide_eq_false hn,if_neg (by simp)];omega
def wholeD (D:Dm):Int × Bool × Int:=if D.e < 0\/21 < D.e then (0,false,0) else if 9007199254740992 < D.n*10 ^ D.e.toNat then (0,false,0) else (if D.neg then -((D.n*10 ^ D.e.toNat:Nat):Int) else ((D.n*10 ^ D.e.toNat:Nat):Int),true,0)
theorem DWhole {D:Dm} (hD:OkD D):Tells (fun k=>Zds.f k D.neg (limbs D.n) D.e) (wholeD D):=by
 have l1:=hD.len
 unfold Zds.f wholeD
 refine (DCheck D hD).bind (Tells.ifp rfl ?_)
 by_cases h1:D.e < 0
 ·rw [if_pos (.inl h1)]
  exact Tells.ifp h1 (Tells.pure _)
 ·refine Tells.ifn h1 ?_
  by_cases h2:21 < D.e
  ·rw [if_pos (.inr h2)]
   exact Tells.ifp h2 (Tells.pure _)
  ·rw [if_neg (by omega)]
   have hs:=Zdn D.n D.e.toNat
   have hd:=Zgn D.neg D.n D.e 0 (by omega) (by omega) (by omega) (by omega) (by omega) (by rw [Int.sub_zero];omega)
   rw [Int.sub_zero] at hd
   obtain ⟨N,hN⟩:∃ N,D.n*10 ^ D.e.toNat=N:=⟨_,rfl⟩
   rw [hN] at hd hs ⊢
   refine Tells.ifn h2 (hd.bind ?_)
   dsimp only
   rw [Zce]
   by_cases h3:2 < (limbs N).length
   ·have hbig:9007199254740992 < N:=by
     refine Nat.not_le.1 (fun h=>?_)
     have := Zep (n:=N) (k:=2) (by omega)
     omega
    exact (Tells.ifp h3 (Tells.pure _)).val (by rw [if_pos hbig])
   ·by_cases h4:9007199254740992 < N
    ·exact (Tells.ifn h3 (Tells.ifp (Zel (by omega)) (Tells.ifp h4 (Tells.pure _)))).val (by rw [if_pos h4])
    ·exact (Tells.ifn h3 (Tells.ifp (Zel (by omega)) (Tells.ifn h4 (Tells.pure _)))).val (by rw [if_neg h4])
end YtjbjkmccfocikaaGreatDoor.P.Nm
end
section
namespace YtjbjkmccfocikaaGreatDoor.B
open Go.RowKit YtjbjkmccfocikaaGreatDoorW.PrintWords YtjbjkmccfocikaaGreatDoorW.PrintLast YtjbjkmccfocikaaGreatDoorW.PrintMore
attribute [local go_sem] Zb3 Zb5 Zcp Zcq Zbs Zbt Zb4 Zb6
mutual
def Zx.j0:Nat->Bool->Bool->List Int->Int->Option (Int × Bool × Int)
 | 0,_,_,_,_=>none
 | k+1,x27,qn,qo,qp=>if x27=true then (some (0,false,0)) else ((Zba.f qo qp).bind fun qi=>((Za9.f k 9007199254740992).bind fun qr=>((Zas.f k qi qr).bind fun qw=>(if qw > 0 then (some (0,false,0)) else (Zx.l0 k qi 0 (wrap64 ((qi.length:Int) - 1)) qn qo qp)))))
def Zx.l0:Nat->List Int->Int->Int->Bool->List Int->Int->Option (Int × Bool × Int)
 | 0,_,_,_,_,_,_=>none
 | k+1,x6,x7,x8,qn,qo,qp=>if x8 >= 0 then (if 0<=x8 then (if x8 < (x6.length:Int) then (Zx.l0 k x6 (wrap64 ((wrap64 (10*x7))+(rd x6 x8))) (wrap64 (x8 - 1)) qn qo qp) else (none)) else (none)) else (if qn=true then (some (wrap64 (-x7),true,0)) else (some (x7,true,0)))
end
def Zx.f (k:Nat) (a0_0:Bool) (l0_1:List Int) (a0_2:Int):Option (Int × Bool × Int):=(Zn.f k a0_0 l0_1 a0_2).bind fun qu=>(if qu=0 then ((Zq.f k a0_0 l0_1 a0_2).bind fun qe=>(if qe.2.2 < 0 then (Zx.j0 k true qe.1 qe.2.1 qe.2.2) else (if qe.2.2 > 20 then (Zx.j0 k true qe.1 qe.2.1 qe.2.2) else (Zx.j0 k (decide ((qe.2.1.length:Int) > 20)) qe.1 qe.2.1 qe.2.2)))) else (some (0,false,9)))
theorem Zx.calls (k:Nat) (a0_0:Bool) (A0_1:Option Addr) (c0_1:Nat) (l0_1:List Int) (a0_2:Int) (r1:Int) (r2:Bool) (r3:Int) (w:World) (hr0_1:Kd.C (Kd.int .u32) w A0_1 l0_1.length l0_1) (hc0_1:l0_1.length<=c0_1) (h:Zx.f k a0_0 l0_1 a0_2=some (r1,r2,r3)) :
  Calls Tryz.prog 54 #[.agg #[.bool a0_0,.slice A0_1 l0_1.length c0_1,.int .i64 a0_2]] w fun e w'=>e=.returned (.tuple #[.int .i64 r1,.bool r2,.int .i64 r3])/\Below w.heap.size w w':=by
 have hu24:=Tryz.underlying24
 have hu30:=Tryz.underlying30
 have HR0_1:=am hr0_1
 have HC0_1:=am hc0_1
 clear hr0_1 hc0_1
 have HB:=am (Below.refl w.heap.size w)
 have H:((Zn.f k a0_0 l0_1 a0_2).bind fun qu=>(if qu=0 then ((Zq.f k a0_0 l0_1 a0_2).bind fun qe=>(if qe.2.2 < 0 then (Zx.j0 k true qe.1 qe.2.1 qe.2.2) else (if qe.2.2 > 20 then (Zx.j0 k true qe.1 qe.2.1 qe.2.2) else (Zx.j0 k (decide ((qe.2.1.length:Int) > 20)) qe.1 qe.2.1 qe.2.2)))) else (some (0,false,9))))=some (r1,r2,r3):=h
 clear h
 replace H:=ob H
 obtain ⟨qu,A2,H⟩:=H
 replace H:=eI H
 rcases H with ⟨c3b0,c3b1,H⟩|⟨c3,c3b0,c3b1,H⟩
 ·replace H:=ob H
  obtain ⟨⟨qm,qh,qk⟩,A4,H⟩:=H;(try dsimp only at H)
  have HC5:=am H
  clear H
  go_enter Tryz.func54,Tryz.ntmps54
  go_upto_region 4 with (first|((with_reducible refine gd 1 ?_);(try (refine Za5 (by rfl) ?_;dsimp only));refine bx 1 #[.bool a0_0,.slice A0_1 l0_1.length c0_1,.int .i64 a0_2] 24 (h:=?_);intro qv hg w6 hbox hb;have qb:=am hbox;have q1:=gW hg;have q0:=gW hg;replace HB:=bS hb;clear hb hbox hg;obtain ⟨_,_,_,_,_,_⟩:=cEc qb.o)|(refine gL (some 10) Tryz.func33 #[.agg #[.bool a0_0,.slice A0_1 l0_1.length c0_1,.int .i64 a0_2]] (h:=?_);(with_reducible refine (Zn.calls k a0_0 _ _ l0_1 a0_2 qu _ ?side1 ?side2 A2.o).mono ?_);(case side1=>exact cB HR0_1 HB);(case side2=>exact HC0_1.o);rintro e w8 ⟨rfl,hb⟩;refine ⟨_,rfl,?_⟩;replace qb:=bb qb hb;replace HB:=bS hb;obtain ⟨_,_,_,_,_,_⟩:=cEc qb.o)|(refine gL (some 13) Tryz.func18 #[.agg #[.bool a0_0,.slice A0_1 l0_1.length c0_1,.int .i64 a0_2]] (h:=?_);(with_reducible refine (Zq.calls k a0_0 _ _ l0_1 a0_2 qm qh qk _ ?side1 ?side2 A4.o).mono ?_);(case side1=>exact cB HR0_1 HB);(case side2=>exact HC0_1.o);rintro e w10 ⟨j1,rfl,ho0,hb⟩;refine ⟨_,rfl,?_⟩;have qq:=am (Kd.Zt ho0 (Zb pB));replace qb:=bb qb hb;replace HB:=bS hb)|((with_reducible refine gd 5 ?_);(try (refine Za5 (by rfl) ?_;dsimp only));refine bx 5 #[.bool false,.slice none 0 0,.int .i64 0] 30 (h:=?_);intro qj hg w11 hbox hb;have qc:=am hbox;have ja:=gW hg;have qd:=nL hg qb;have qf:=nG hg qb;replace qq:=rbl qq hb;replace qb:=bb qb hb;replace HB:=bS hb;clear hb hbox hg;have jk:=qf.o;have js:=qd.o;obtain ⟨_,_,_,_,_,_⟩:=cEc qc.o;obtain ⟨qs,qt,jf⟩:=Kd.Zm qq.o;subst jf))
  (try simp only [Act.put,List.setIfInBounds_toArray,List.set_cons_zero,List.set_cons_succ])
  go_cut [27] (fun v27 wc => ∃ (kq:Nat) (x27_4:Bool),v27=.bool x27_4/\Aside0 (Zx.j0 kq x27_4 qm qh qk=some (r1,r2,r3))/\Aside0 (kq<=k)/\Aside0 (Kd.R (Kd.int .i64) 3 wc w.heap.size (fun _=>True) (.slice qs qh.length qt) qh)/\Aside0 (wc.heap[qv]? = some (.cells #[.bool a0_0,(.slice A0_1 l0_1.length c0_1),.int .i64 a0_2] 24 (0,0)))/\Aside0 (wc.heap[qj]? = some (.cells #[.bool qm,(.slice qs qh.length qt),.int .i64 qk] 30 (0,0)))/\Aside0 (Below w.heap.size w wc))
  case first =>
   have H:=HC5.o
   clear HC5
   replace H:=dI H
   rcases H with ⟨c15b0,H⟩|⟨c15b0,H⟩
   ·(first|rw [c15b0]|(simp only [Zc5,Zdv];rw [c15b0])|skip)
    have H':=am H
    clear H
    have jl:=qf.o
    have jt:=qd.o
    obtain ⟨_,_,_,_,_,_⟩:=cEc qc.o
    go_wp2
    go_meet
    case rel=>exact ⟨_,(true),pR,H',pJ,⟨by refine rp ?_;exact Kd.Zi (Kd.Zj (p:=⟨qj,2,none⟩) (Kd.Zj (p:=⟨qj,1,none⟩) (Kd.Zj (p:=⟨qj,0,none⟩) (Kd.Zg qq.o qc.o (by decide)) (fun _ hk=>hk.2) (.bool qm)) (fun _ hk=>hk.2) (.slice qs qh.length qt)) (fun _ hk=>hk.2) (.int .i64 qk)) (fun _ hk=>trivial)⟩,⟨bf qd.o qb.o⟩,⟨by exact p3 qc⟩,⟨pB⟩⟩
   ·(first|rw [c15b0]|(simp only [Zc5,Zdv];rw [c15b0])|skip)
    replace H:=gI H
    rcases H with ⟨c18b0,H⟩|⟨c18b0,H⟩
    ·have H':=am H
     clear H
     have jm:=qf.o
     have ju:=qd.o
     obtain ⟨_,_,_,_,_,_⟩:=cEc qc.o
     go_wp2
     go_meet
     case rel=>exact ⟨_,(true),pR,H',pJ,⟨by refine rp ?_;exact Kd.Zi (Kd.Zj (p:=⟨qj,2,none⟩) (Kd.Zj (p:=⟨qj,1,none⟩) (Kd.Zj (p:=⟨qj,0,none⟩) (Kd.Zg qq.o qc.o (by decide)) (fun _ hk=>hk.2) (.bool qm)) (fun _ hk=>hk.2) (.slice qs qh.length qt)) (fun _ hk=>hk.2) (.int .i64 qk)) (fun _ hk=>trivial)⟩,⟨bf qd.o qb.o⟩,⟨by exact p3 qc⟩,⟨pB⟩⟩
    ·have H':=am H
     clear H
     have jn:=qf.o
     have jv:=qd.o
     obtain ⟨_,_,_,_,_,_⟩:=cEc qc.o
     go_wp2
     go_meet
     case rel=>exact ⟨_,(decide ((qh.length:Int) > 20)),pR,H',pJ,⟨by refine rp ?_;exact Kd.Zi (Kd.Zj (p:=⟨qj,2,none⟩) (Kd.Zj (p:=⟨qj,1,none⟩) (Kd.Zj (p:=⟨qj,0,none⟩) (Kd.Zg qq.o qc.o (by decide)) (fun _ hk=>hk.2) (.bool qm)) (fun _ hk=>hk.2) (.slice qs qh.length qt)) (fun _ hk=>hk.2) (.int .i64 qk)) (fun _ hk=>trivial)⟩,⟨bf qd.o qb.o⟩,⟨by exact p3 qc⟩,⟨pB⟩⟩
  case rest =>
   clear HC5
   obtain ⟨kq,x27_4,rfl,HA,HJ4,qa,qb,qc,HB⟩:=hcut
   cases kq with
   | zero=>exact absurd HA.out (by simp [Zx.j0])
   | succ kj4 =>
    have H:=HA.out
    clear HA
    simp only [Zx.j0] at H
    replace H:=tI (t:=x27_4) H
    rcases H with ⟨rfl,H⟩|⟨rfl,H⟩
    ·simp only [Option.some.injEq,Prod.mk.injEq] at H
     obtain ⟨rfl,rfl,rfl⟩:=H
     go_wp2
     go_ret3
     exact ⟨pE,pB⟩
    ·replace H:=ob H
     obtain ⟨qi,A24,H⟩:=H
     replace H:=ob H
     obtain ⟨qr,A25,H⟩:=H
     replace H:=ob H
     obtain ⟨qw,A26,H⟩:=H
     replace H:=gI H
     rcases H with ⟨c27b0,H⟩|⟨c27b0,H⟩
     ·simp only [Option.some.injEq,Prod.mk.injEq] at H
      obtain ⟨rfl,rfl,rfl⟩:=H
      have jo:=qf.o
      have jw:=qd.o
      obtain ⟨_,_,_,_,_,_⟩:=cEc qc.o
      go_wp2_with (first|(refine gL (some 32) Tryz.func93 #[.slice qs qh.length qt,.int .i64 qk] (h:=?_);(with_reducible refine (Zba.calls _ _ qh qk qi _ ?side1 ?side2 A24.o).mono ?_);(case side1=>exact Kd.Zv (Kd.Zf qa.o).2.2 pl);(case side2=>exact (Kd.Zf qa.o).2.1);rintro e w30 ⟨q5,rfl,ho0,hb⟩;refine ⟨_,rfl,?_⟩;have qg:=am (Kd.Zt (Kd.Zaj ho0 (Kd.R_lt (Kd.Zc qa.o pl))) (Zb pB));replace qa:=reR qa ho0 hb;replace qb:=bb qb hb;replace qc:=bb qc hb;replace HB:=bS hb)|(refine gL (some 34) Tryz.func84 #[.int .u64 9007199254740992] (h:=?_);(with_reducible refine (Za9.calls kj4 9007199254740992 qr _ A25.o).mono ?_);rintro e w31 ⟨q6,rfl,ho0,hb⟩;refine ⟨_,rfl,?_⟩;have ql:=am (Kd.Zt (Kd.Zaj (Kd.Zaj ho0 (Kd.R_lt (Kd.Zc qa.o pl))) (Kd.R_lt (Kd.Zc qg.o pl))) (Zb pB));replace qa:=reR qa ho0 hb;replace qg:=reR qg ho0 hb;replace qb:=bb qb hb;replace qc:=bb qc hb;replace HB:=bS hb;obtain ⟨q7,jc,jg⟩:=Kd.Zm qg.o;subst jg;obtain ⟨q8,jd,jh⟩:=Kd.Zm ql.o;subst jh)|(refine gL (some 35) Tryz.func94 #[.slice q7 qi.length jc,.slice q8 qr.length jd] (h:=?_);(with_reducible refine (Zas.calls kj4 _ _ qi _ _ qr qw _ ?side1 ?side2 ?side3 ?side4 A26.o).mono ?_);(case side1=>exact Kd.Zv (Kd.Zf qg.o).2.2 pl);(case side2=>exact (Kd.Zf qg.o).2.1);(case side3=>exact Kd.Zv (Kd.Zf ql.o).2.2 pl);(case side4=>exact (Kd.Zf ql.o).2.1);rintro e w' ⟨rfl,⟨nd,rfl⟩⟩;refine ⟨_,rfl,?_⟩))
      go_ret3
      exact ⟨pE,pB⟩
     ·have H':=am H
      clear H
      have jp:=qf.o
      have jx:=qd.o
      obtain ⟨_,_,_,_,_,_⟩:=cEc qc.o
      go_wp2_with (first|(refine gL (some 32) Tryz.func93 #[.slice qs qh.length qt,.int .i64 qk] (h:=?_);(with_reducible refine (Zba.calls _ _ qh qk qi _ ?side1 ?side2 A24.o).mono ?_);(case side1=>exact Kd.Zv (Kd.Zf qa.o).2.2 pl);(case side2=>exact (Kd.Zf qa.o).2.1);rintro e w36 ⟨q5,rfl,ho0,hb⟩;refine ⟨_,rfl,?_⟩;have qg:=am (Kd.Zt (Kd.Zaj ho0 (Kd.R_lt (Kd.Zc qa.o pl))) (Zb pB));replace qa:=reR qa ho0 hb;replace qb:=bb qb hb;replace qc:=bb qc hb;replace HB:=bS hb)|(refine gL (some 34) Tryz.func84 #[.int .u64 9007199254740992] (h:=?_);(with_reducible refine (Za9.calls kj4 9007199254740992 qr _ A25.o).mono ?_);rintro e w37 ⟨q6,rfl,ho0,hb⟩;refine ⟨_,rfl,?_⟩;have ql:=am (Kd.Zt (Kd.Zaj (Kd.Zaj ho0 (Kd.R_lt (Kd.Zc qa.o pl))) (Kd.R_lt (Kd.Zc qg.o pl))) (Zb pB));replace qa:=reR qa ho0 hb;replace qg:=reR qg ho0 hb;replace qb:=bb qb hb;replace qc:=bb qc hb;replace HB:=bS hb;obtain ⟨qz,q2,ji⟩:=Kd.Zm qg.o;subst ji;obtain ⟨q9,je,jj⟩:=Kd.Zm ql.o;subst jj)|(refine gL (some 35) Tryz.func94 #[.slice qz qi.length q2,.slice q9 qr.length je] (h:=?_);(with_reducible refine (Zas.calls kj4 _ _ qi _ _ qr qw _ ?side1 ?side2 ?side3 ?side4 A26.o).mono ?_);(case side1=>exact Kd.Zv (Kd.Zf qg.o).2.2 pl);(case side2=>exact (Kd.Zf qg.o).2.1);(case side3=>exact Kd.Zv (Kd.Zf ql.o).2.2 pl);(case side4=>exact (Kd.Zf ql.o).2.1);rintro e w' ⟨rfl,⟨nd,rfl⟩⟩;refine ⟨_,rfl,?_⟩))
      go_loopg [7,8] kj4 (fun kq v7 v8 w' => ∃ (x7_2:Int) (x8_2:Int),v7=.int .i64 x7_2/\v8=.int .i64 x8_2/\Aside0 (Zx.l0 kq qi x7_2 x8_2 qm qh qk=some (r1,r2,r3))/\Aside0 (kq<=kj4)/\Aside0 (Kd.R (Kd.int .i64) 3 w' w.heap.size (fun k_=>some k_ ≠ ((.slice qs qh.length qt):Value).ownBlock) (.slice qz qi.length q2) qi)/\Aside0 (Kd.R (Kd.int .i64) 3 w' w.heap.size (fun k_=>some k_ ≠ ((.slice qz qi.length q2):Value).ownBlock) (.slice qs qh.length qt) qh)/\Aside0 (w'.heap[qv]? = some (.cells #[.bool a0_0,(.slice A0_1 l0_1.length c0_1),.int .i64 a0_2] 24 (0,0)))/\Aside0 (w'.heap[qj]? = some (.cells #[.bool qm,(.slice qs qh.length qt),.int .i64 qk] 30 (0,0)))/\Aside0 (Below w.heap.size w w'))
      case atStart=>exact ⟨(0),(wrap64 ((qi.length:Int) - 1)),pR,pR,H',⟨Nat.le_refl _⟩,⟨by refine rp ?_;exact Kd.Zi qg.o (fun _ hk=>hk.1.2)⟩,⟨by refine rp ?_;exact Kd.Zi qa.o (fun _ hk=>hk.1.2)⟩,⟨Za qb.o pl⟩,⟨Za qc.o pl⟩,⟨pB⟩⟩
      case round =>
       clear H'
       obtain ⟨x7_2,x8_2,rfl,rfl,HA,HK2,HO_6,qa,qb,qc,HB⟩:=hrel
       cases gk with
       | zero=>exact absurd HA.out (by simp [Zx.l0])
       | succ k2 =>
        have H:=HA.out
        clear HA
        simp only [Zx.l0] at H
        replace H:=hI H
        rcases H with ⟨c40b0,H⟩|⟨c40b0,H⟩
        ·replace H:=dI H
         rcases H with ⟨c41b0,H⟩|⟨_,H⟩
         ·replace H:=dI H
          rcases H with ⟨c42b0,H⟩|⟨_,H⟩
          ·have H':=am H
           clear H
           have qx:0<=(x8_2:Int):=of_decide_eq_true pQ
           have qy:x8_2 < (qi.length:Int):=of_decide_eq_true pQ
           obtain ⟨jb,q3,q4⟩:=Kd.Zbi (Kd.Zf HO_6.o).2.2 x8_2 qx qy
           cases q3
           replace qx:=eq_true qx
           replace qy:=eq_true qy
           go_wp2
           go_roundg k2
           case measure=>exact pM
           case rel=>exact ⟨(wrap64 ((wrap64 (10*x7_2))+(rd qi x8_2))),(wrap64 (x8_2 - 1)),pR,pR,H',pJ,⟨by refine rp ?_;exact HO_6.o⟩,⟨by refine rp ?_;exact qa.o⟩,⟨Za qb.o pl⟩,⟨Za qc.o pl⟩,⟨pB⟩⟩
          ·cases H
         ·cases H
        ·replace H:=tI (t:=qm) H
         rcases H with ⟨rfl,H⟩|⟨rfl,H⟩
         ·simp only [Option.some.injEq,Prod.mk.injEq] at H
          obtain ⟨rfl,rfl,rfl⟩:=H
          have jq:=qf.o
          have jy:=qd.o
          obtain ⟨_,_,_,_,_,_⟩:=cEc qc.o
          go_wp2
          go_ret3
          exact ⟨pE,pB⟩
         ·simp only [Option.some.injEq,Prod.mk.injEq] at H
          obtain ⟨rfl,rfl,rfl⟩:=H
          have jr:=qf.o
          have jz:=qd.o
          obtain ⟨_,_,_,_,_,_⟩:=cEc qc.o
          go_wp2
          go_ret3
          exact ⟨pE,pB⟩
 ·simp only [Option.some.injEq,Prod.mk.injEq] at H
  obtain ⟨rfl,rfl,rfl⟩:=H
  go_enter Tryz.func54,Tryz.ntmps54
  go_wp2_with (first|((with_reducible refine gd 1 ?_);(try (refine Za5 (by rfl) ?_;dsimp only));refine bx 1 #[.bool a0_0,.slice A0_1 l0_1.length c0_1,.int .i64 a0_2] 24 (h:=?_);intro qv hg w48 hbox hb;have qb:=am hbox;have q1:=gW hg;have q0:=gW hg;replace HB:=bS hb;clear hb hbox hg;obtain ⟨_,_,_,_,_,_⟩:=cEc qb.o)|(refine gL (some 10) Tryz.func33 #[.agg #[.bool a0_0,.slice A0_1 l0_1.length c0_1,.int .i64 a0_2]] (h:=?_);(with_reducible refine (Zn.calls k a0_0 _ _ l0_1 a0_2 qu _ ?side1 ?side2 A2.o).mono ?_);(case side1=>exact cB HR0_1 HB);(case side2=>exact HC0_1.o);rintro e w50 ⟨rfl,hb⟩;refine ⟨_,rfl,?_⟩;replace qb:=bb qb hb;replace HB:=bS hb))
  go_ret3
  exact ⟨pE,pB⟩
end YtjbjkmccfocikaaGreatDoor.B
end
section
namespace YtjbjkmccfocikaaGreatDoor.P.Nm
open Go.RowKit YtjbjkmccfocikaaGreatDoorW.PrintWords YtjbjkmccfocikaaGreatDoor.B YtjbjkmccfocikaaGreatDoor.P
theorem Zlc (L:List Int) (s:Bool) (M:List Int) (e:Int) (hL:Dg 10 L) (hb:L.length<=1000000) (hv:val 10 L<=9007199254740992):∀ j:Nat,j<=L.length->Tells (fun k=>Zx.l0 k L (val 10 (L.drop j)) ((j:Int) - 1) s M e) (if s=true then -(val 10 L) else val 10 L,true,0)
 | 0,h=>by
  refine Tells.succ ?_
  simp only [Zx.l0]
  have h0:=Zcw (b:=10) (by omega) hL
  refine Tells.ifn (by omega) ?_
  rw [List.drop_zero]
  cases s
  ·exact Tells.ifn (by decide) ((Tells.pure _).val (by simp))
  ·exact Tells.ifp rfl ((Tells.pure _).val (by rw [w64n (by omega) (by omega)];simp))
 | j+1,h=>by
  have hj:j < L.length:=by omega
  have h0:=Zcw (b:=10) (by omega) (hL.drop (j+1))
  have h1:=Zcw (b:=10) (by omega) (hL.take j)
  have h2:=Zcw (b:=10) (by omega) (hL.drop j)
  have hs:=Zhy (b:=10) L j (by omega)
  have hp:=Zf6 (b:=10) (by omega) j
  have hm:=Int.mul_le_mul_of_nonneg_right (show (1:Int)<=pw 10 j by omega) h2
  rw [Int.one_mul] at hm
  have hc:val 10 (L.drop j)=L.getD j 0+10*val 10 (L.drop (j+1)):=by rw [Zfq hj,Zc8]
  have hd:=(show Dg 10 (L.getD j 0 :: L.drop (j+1)) by rw [<- Zfq hj];exact hL.drop j).head
  refine Tells.succ ?_
  simp only [Zx.l0]
  rw [Zfz,rd_n,w64d (by omega),w64n (z:=10*val 10 (L.drop (j+1))) (by omega) (by omega),w64n (z:=10*val 10 (L.drop (j+1))+L.getD j 0) (by omega) (by omega)]
  refine Tells.ifp (by omega) (Tells.ifp (by omega) (Tells.ifp (by omega) ?_))
  have := Zlc L s M e hL hb hv j (by omega)
  rw [hc,Int.add_comm] at this
  exact this
theorem RWhole {D:Dm} (hD:OkD D):Tells (fun k=>Zx.f k D.neg (limbs D.n) D.e) (wholeD D):=by
 have l1:=hD.len
 have bad:Tells (fun k=>Zx.j0 k true D.neg (digs D.n) D.e) (0,false,0):=by
  refine Tells.succ ?_
  simp only [Zx.j0]
  exact Tells.ifp trivial (Tells.pure _)
 unfold Zx.f wholeD
 refine (RCheck D hD).bind (Tells.ifp rfl ((ROf D (by omega)).bind ?_))
 dsimp only
 by_cases h1:D.e < 0
 ·rw [if_pos (.inl h1)]
  exact Tells.ifp h1 bad
 ·refine Tells.ifn h1 ?_
  by_cases h2:D.e > 20
  ·refine Tells.ifp h2 (bad.val ?_)
   by_cases h3:21 < D.e
   ·rw [if_pos (.inr h3)]
   ·rw [if_neg (by omega),if_pos]
    have he:D.e.toNat=21:=by omega
    have hn:D.n ≠ 0:=fun h=>by have := hD.zero h;rw [this] at h2;exact absurd h2 (by decide)
    rw [he]
    have:1*10 ^ 21<=D.n*10 ^ 21:=Nat.mul_le_mul_right _ (by omega)
    exact Nat.lt_of_lt_of_le (by decide) this
  ·refine Tells.ifn h2 ?_
   rw [if_neg (by omega)]
   obtain ⟨x,hx⟩:=Int.eq_ofNat_of_zero_le (show 0<=D.e by omega)
   have hp:1<=10 ^ x:=Nat.pow_pos (by decide)
   have hg:D.n<=D.n*10 ^ x:=by have := Nat.mul_le_mul_left D.n hp;rwa [Nat.mul_one] at this
   have hx2:D.e.toNat=x:=by omega
   rw [hx2]
   by_cases h3:((digs D.n).length:Int) > 20
   ·rw [decide_eq_true h3]
    refine bad.val ?_
    rw [if_pos]
    refine Nat.not_le.1 (fun h=>?_)
    have := Zgp (n:=D.n) (k:=20) (Nat.lt_of_le_of_lt (Nat.le_trans hg h) (by decide))
    unfold nd at this
    omega
   ·rw [decide_eq_false h3]
    have hs:=Zdn D.n x
    refine Tells.succ ?_
    simp only [Zx.j0]
    rw [hx,Zft D.n x (by omega) (by omega)]
    have hnum:=Zfe 9007199254740992 (by decide)
    refine Tells.ifn (by simp) ((Tells.pure _).bind (hnum.bind ?_))
    refine (Zhb (D.n*10 ^ x) 9007199254740992 (by omega)).bind ?_
    by_cases h4:9007199254740992 < D.n*10 ^ x
    ·rw [if_pos h4]
     refine Tells.ifp ?_ (Tells.pure _)
     unfold cmpN;rw [if_neg (by omega),if_pos h4];decide
    ·rw [if_neg h4]
     refine Tells.ifn ?_ ?_
     ·unfold cmpN;rw [if_neg h4];split <;> decide
     ·have := Zlc (digs (D.n*10 ^ x)) D.neg (digs D.n) (x:Int) (Zc7 _) (by show nd _<=1000000;omega) (by rw [Zcl];omega) (digs (D.n*10 ^ x)).length (Nat.le_refl _)
      rw [List.drop_length,Zcl] at this
      rw [w64d (by show nd _<=_;omega)]
      exact this
theorem Zjh {a b:Bool} {l m:List Int} {e g:Int} (hl:RawD l) (hm:RawD m) (h:¬ (chk a l e=0/\chk b m g=0)):Tells (fun k=>Zbp.f k a l e b m g) (0,9):=by
 unfold Zbp.f
 have := Zd0 a l e b m g hl.dg hl.len hm.dg hm.len
 rw [if_neg h] at this
 exact this.bind (Tells.ifn (by decide) (Tells.pure _))
theorem Zo6 {a b:Bool} {l m:List Int} {e g:Int} (hl:RawD l) (hm:RawD m) (h:¬ (chk a l e=0/\chk b m g=0)):Tells (fun k=>Zax.f k a l e b m g) (false,[],0,9):=by
 unfold Zax.f
 have := Zd0 a l e b m g hl.dg hl.len hm.dg hm.len
 rw [if_neg h] at this
 exact this.bind (Tells.ifn (by decide) (Tells.pure _))
theorem Zo4 {a b:Bool} {l m:List Int} {e g:Int} (hl:RawD l) (hm:RawD m) (h:¬ (chk a l e=0/\chk b m g=0)):Tells (fun k=>Zaf.f k a l e b m g) (false,[],0,9):=by
 unfold Zaf.f
 have := Zd0 a l e b m g hl.dg hl.len hm.dg hm.len
 rw [if_neg h] at this
 exact this.bind (Tells.ifn (by decide) (Tells.pure _))
theorem Zma {a:Bool} {l:List Int} {e:Int} (hl:RawD l) (h:¬ chk a l e=0):Tells (fun k=>Zx.f k a l e) (0,false,9):=by
 unfold Zx.f
 exact (Zdx a l e hl.dg hl.len).bind (Tells.ifn h (Tells.pure _))
theorem Zl6 {a:Bool} {l:List Int} {e:Int} (hl:RawD l) (h:¬ chk a l e=0):Tells (fun k=>Zds.f k a l e) (0,false,9):=by
 unfold Zds.f
 refine (Zd7 a l e hl.dg hl.len).bind (Tells.ifn h ((Tells.pure _).val ?_))
 rcases Zp8 a l e with h1|h1
 ·exact absurd h1 h
 ·rw [h1]
theorem CompareY {a b:Bool} {l m:List Int} {e g:Int} (hl:RawD l) (hm:RawD m):∃ y:Int × Int,Tells (fun k=>Zbl.f k a l e b m g) y/\Tells (fun k=>Zbp.f k a l e b m g) y:=by
 by_cases h:chk a l e=0/\chk b m g=0
 ·obtain ⟨D,hD,rfl,rfl,rfl⟩:=Zfr hl.dg h.1
  obtain ⟨E,hE,rfl,rfl,rfl⟩:=Zfr hm.dg h.2
  exact ⟨_,DCompare D E hD hE,RCompare D E hD hE⟩
 ·exact ⟨_,Zjd hl hm h,Zjh hl hm h⟩
theorem SubY {a b:Bool} {l m:List Int} {e g:Int} (hl:RawD l) (hm:RawD m):∃ D:Dm × Int,nd D.1.n<=1000/\Tells (fun k=>Zcz.f k a l e b m g) (outD D)/\Tells (fun k=>Zax.f k a l e b m g) (outD D):=by
 by_cases h:chk a l e=0/\chk b m g=0
 ·obtain ⟨D,hD,rfl,rfl,rfl⟩:=Zfr hl.dg h.1
  obtain ⟨E,hE,rfl,rfl,rfl⟩:=Zfr hm.dg h.2
  exact ⟨subD D E,by have := (Zf9 (plusD D (negD E))).len;unfold subD;omega,DSub D E hD hE,RSub D E hD hE⟩
 ·exact ⟨(zeroD,9),by decide,Zqt hl hm h,Zo6 hl hm h⟩
theorem MulY {a b:Bool} {l m:List Int} {e g:Int} (hl:RawD l) (hm:RawD m):∃ D:Dm × Int,nd D.1.n<=1000/\Tells (fun k=>Zcy.f k a l e b m g) (outD D)/\Tells (fun k=>Zaf.f k a l e b m g) (outD D):=by
 by_cases h:chk a l e=0/\chk b m g=0
 ·obtain ⟨D,hD,rfl,rfl,rfl⟩:=Zfr hl.dg h.1
  obtain ⟨E,hE,rfl,rfl,rfl⟩:=Zfr hm.dg h.2
  exact ⟨timesD D E,by unfold timesD;have := (Zf9 (mulD D E)).len;omega,DMul D E hD hE,RMul D E hD hE⟩
 ·exact ⟨(zeroD,9),by decide,Zqp hl hm h,Zo4 hl hm h⟩
theorem WholeY {a:Bool} {l:List Int} {e:Int} (hl:RawD l):∃ y:Int × Bool × Int,Tells (fun k=>Zds.f k a l e) y/\Tells (fun k=>Zx.f k a l e) y:=by
 by_cases h:chk a l e=0
 ·obtain ⟨D,hD,rfl,rfl,rfl⟩:=Zfr hl.dg h
  exact ⟨_,DWhole hD,RWhole hD⟩
 ·exact ⟨_,Zl6 hl h,Zma hl h⟩
end YtjbjkmccfocikaaGreatDoor.P.Nm
end
end Go.Proofs
