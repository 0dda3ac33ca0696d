/- QuotNear, part 7 of 8 of its proof (no condition); names with a low line are shortened throughout. -/
import Derived.Test.YtjbjkmccfocikaaGreatDoorZQuotNear5
import Derived.ChangeSlices
import Derived.ChangeArms
import Derived.Lib.SmallJoins
import Derived.Carry
set_option linter.unusedVariables false
set_option linter.unusedSimpArgs false
set_option maxRecDepth 100000
set_option maxHeartbeats 8000000
namespace Go.Proofs
section
namespace YtjbjkmccfocikaaGreatDoor.B
open Go.RowKit YtjbjkmccfocikaaGreatDoorW.PrintWords YtjbjkmccfocikaaGreatDoorW.PrintLast YtjbjkmccfocikaaGreatDoorW.PrintMore
attribute [local go_sem] Zb7 Zb9 Zcr Zcs Zbp Zbq Zb8 Zca
mutual
def Zg.j0:Nat->Int->Bool->Bool->List Int->Int->Bool->List Int->Int->Bool->List Int->Int->Bool->List Int->Int->Option (Bool)
 | 0,_,_,_,_,_,_,_,_,_,_,_,_,_,_=>none
 | k+1,x4,x42,jk,jl,jm,jn,jo,jg,jp,jq,jh,jt,ju,jv=>if x42=true then ((Zm.f k jk jl jm).bind fun qag=>(if qag=0 then (some true) else ((Zao.f x4).bind fun qav=>(some (qav == 9))))) else ((Zaw.f k jp jq jh jn jo jg).bind fun jr=>(if jr.2.2.2=0 then ((Za9.f k jn jo jg jk jl jm).bind fun qah=>(if qah > 0 then (Zg.j1 k true jk jl jm jn jo jg jp jq jh jt ju jv jr.1 jr.2.1 jr.2.2.1) else ((Za9.f k jp jq jh jk jl jm).bind fun qai=>(if qai < 0 then (Zg.j1 k true jk jl jm jn jo jg jp jq jh jt ju jv jr.1 jr.2.1 jr.2.2.1) else (if jg < 0 then (Zg.j1 k true jk jl jm jn jo jg jp jq jh jt ju jv jr.1 jr.2.1 jr.2.2.1) else (Zg.j1 k (decide (jh < 0)) jk jl jm jn jo jg jp jq jh jt ju jv jr.1 jr.2.1 jr.2.2.1)))))) else (Zg.j1 k true jk jl jm jn jo jg jp jq jh jt ju jv jr.1 jr.2.1 jr.2.2.1)))
def Zg.j1:Nat->Bool->Bool->List Int->Int->Bool->List Int->Int->Bool->List Int->Int->Bool->List Int->Int->Bool->List Int->Int->Option (Bool)
 | 0,_,_,_,_,_,_,_,_,_,_,_,_,_,_,_,_=>none
 | k+1,x80,jk,jl,jm,jn,jo,jg,jp,jq,jh,jt,ju,jv,qa3,qa4,qa5=>if x80=true then (some false) else ((Zk.f k jn jo jg jk jl jm).bind fun qaw=>(if qaw=true then ((Zk.f k jp jq jh jk jl jm).bind fun qax=>(if qax=true then ((Zk.f k jt ju jv jn jo jg).bind fun qay=>(if qay=true then (some true) else ((Zk.f k jt ju jv jp jq jh).bind fun qaz=>(some qaz)))) else (some false))) else ((Zcx.f k 1).bind fun qas=>((Zk.f k qa3 qa4 qa5 qas.1 qas.2.1 qas.2.2).bind fun qa0=>(if qa0=true then ((Zk.f k jt ju jv jn jo jg).bind fun qa1=>(if qa1=true then (some true) else ((Zk.f k jt ju jv jp jq jh).bind fun qa2=>(some qa2)))) else (some false))))))
end
def Zg.f (k:Nat) (a0_0:Bool) (l0_1:List Int) (a0_2:Int):Option (Bool):=(Zbm.f k).bind fun qar=>(if qar=true then ((Zdr.f k a0_0 l0_1 a0_2).bind fun jf=>((Zd2.f k a0_0 l0_1 a0_2).bind fun jx=>((Zds.f k a0_0 l0_1 a0_2).bind fun jy=>((Zm.f k a0_0 l0_1 a0_2).bind fun qae=>(if qae=0 then ((Zao.f jf.2.2.2).bind fun qaj=>((Zao.f jx.2.2.2).bind fun qak=>((Zao.f jy.2.2.2).bind fun qal=>(Zg.j0 k jf.2.2.2 ((wrap64 ((wrap64 (qaj+qak))+qal)) != 0) a0_0 l0_1 a0_2 jf.1 jf.2.1 jf.2.2.1 jx.1 jx.2.1 jx.2.2.1 jy.1 jy.2.1 jy.2.2.1)))) else (Zg.j0 k jf.2.2.2 true a0_0 l0_1 a0_2 jf.1 jf.2.1 jf.2.2.1 jx.1 jx.2.1 jx.2.2.1 jy.1 jy.2.1 jy.2.2.1)))))) else (some false))
def Zg.T12:Bool × List (List Nat × List Nat):=(true,[([],[]),([0],[0]),([1],[1]),([1],[1]),([2,3,1,1],[1,2,3]),([1,4],[1,4]),([5,4],[5]),([6],[6]),([7,6],[6,7]),([8,6,6],[6,8]),([9],[9]),([9,9],[9]),([10,11,11,9],[9,10,11]),([9,12,6],[6,9,12]),([6,13],[6,13]),([14,12],[14]),([15],[15]),([15],[15]),([16,17,15,15],[15,16,17]),([18,18,15],[15,18]),([19],[19]),([19],[19]),([20,21,19,19],[19,20,21]),([19,22,15],[15,19,22]),([15,23],[15,23]),([24,22,0,1,2,3,4,5,6,7,8,9,10,11,12,13,14,15,16,17,18,19,20,21,22,23,24],[24])])
def Zg.B12:List Nat:=[0,1,3,3,15,31,63,127,255,511,1023,1023,4095,8191,16383,32767,65535,65535,262143,524287,1048575,1048575,4194303,8388607,16777215,33554431]
theorem Zg.tab12:rtab .any (opsOf Tryz.f7 12)=Zg.T12:=by kernel_rfl
theorem Zg.bits12:waitsOk Zg.T12.2 Zg.B12=true:=by kernel_rfl
theorem Zg.calls (k:Nat) (a0_0:Bool) (A0_1:Option Addr) (c0_1:Nat) (l0_1:List Int) (a0_2:Int) (r:Bool) (w:World) (hr0_1:Kd.C (Kd.int .u32) w A0_1 l0_1.length l0_1) (hc0_1:l0_1.length<=c0_1) (h:Zg.f k a0_0 l0_1 a0_2=some r) (hr:r=true) :
  Calls Tryz.prog 7 #[.agg #[.bool a0_0,.slice A0_1 l0_1.length c0_1,.int .i64 a0_2]] w fun e w'=>e=.returned (.bool r)/\Below w.heap.size w w':=by
 have hu24:=Tryz.underlying24
 have HR0_1:=am hr0_1
 have HC0_1:=am hc0_1
 clear hr0_1 hc0_1
 have HB:=am (Below.refl w.heap.size w)
 have H:((Zbm.f k).bind fun qar=>(if qar=true then ((Zdr.f k a0_0 l0_1 a0_2).bind fun jf=>((Zd2.f k a0_0 l0_1 a0_2).bind fun jx=>((Zds.f k a0_0 l0_1 a0_2).bind fun jy=>((Zm.f k a0_0 l0_1 a0_2).bind fun qae=>(if qae=0 then ((Zao.f jf.2.2.2).bind fun qaj=>((Zao.f jx.2.2.2).bind fun qak=>((Zao.f jy.2.2.2).bind fun qal=>(Zg.j0 k jf.2.2.2 ((wrap64 ((wrap64 (qaj+qak))+qal)) != 0) a0_0 l0_1 a0_2 jf.1 jf.2.1 jf.2.2.1 jx.1 jx.2.1 jx.2.2.1 jy.1 jy.2.1 jy.2.2.1)))) else (Zg.j0 k jf.2.2.2 true a0_0 l0_1 a0_2 jf.1 jf.2.1 jf.2.2.1 jx.1 jx.2.1 jx.2.2.1 jy.1 jy.2.1 jy.2.2.1)))))) else (some false)))=some r:=h
 clear h
 obtain ⟨qar,A2,H⟩:=ob H
 by_cases c3:qar=true
 ·subst c3
  rw [if_pos rfl] at H
  obtain ⟨⟨q0,qm,qw,qat⟩,A4,H⟩:=ob H;(try dsimp only at H)
  obtain ⟨⟨jd,qu,jc,qbf⟩,A5,H⟩:=ob H;(try dsimp only at H)
  obtain ⟨⟨q8,qs,q9,qbg⟩,A6,H⟩:=ob H;(try dsimp only at H)
  have HC7:=am H
  clear H
  go_enter Tryz.func7,Tryz.ntmps7
  go_upto_region 6 with (first|((with_reducible refine gd 1 ?_);refine bx 1 #[.bool a0_0,.slice A0_1 l0_1.length c0_1,.int .i64 a0_2] 24 (h:=?_);intro qad hg w8 hbox hb;have qe:=am hbox;have qbt:=gW hg;replace HB:=bS hb;clear hb hbox hg)|(refine gL (some 12) Tryz.func16 #[] (h:=?_);(with_reducible refine (Zbm.calls k  true _ A2.o).mono ?_);rintro e w9 ⟨rfl,hb⟩;refine ⟨_,rfl,?_⟩;replace qe:=bb qe hb;replace HB:=bS hb;obtain ⟨_,_,_,_,_,_⟩:=cEc qe.o)|(refine gL (some 16) Tryz.func30 #[.agg #[.bool a0_0,.slice A0_1 l0_1.length c0_1,.int .i64 a0_2]] (h:=?_);(with_reducible refine (Zdr.calls k a0_0 _ _ l0_1 a0_2 q0 qm qw qat _ ?side1 ?side2 A4.o).mono ?_);(case side1=>exact cB HR0_1 HB);(case side2=>exact HC0_1.o);rintro e w11 ⟨qg4,rfl,ho0,hb⟩;refine ⟨_,rfl,?_⟩;have je:=am (Kd.Zo ho0 (Zd pB));replace qe:=bb qe hb;replace HB:=bS hb)|((with_reducible refine gd 3 ?_);refine bx 3 #[.bool false,.slice none 0 0,.int .i64 0] 24 (h:=?_);intro j2 hg w12 hbox hb;have qd:=am hbox;have qbu:=gW hg;have qj:=nL hg qe;have qp:=nG hg qe;replace je:=rbl je hb;replace qe:=bb qe hb;replace HB:=bS hb;clear hb hbox hg;have qeu:=qp.o;have qfz:=qj.o;obtain ⟨_,_,_,_,_,_⟩:=cEc qd.o;obtain ⟨j9,j5,qby⟩:=Kd.Zj je.o;subst qby;obtain ⟨_,_,_,_,_,_⟩:=cEc qe.o)|(refine gL (some 21) Tryz.func31 #[.agg #[.bool a0_0,.slice A0_1 l0_1.length c0_1,.int .i64 a0_2]] (h:=?_);(with_reducible refine (Zd2.calls k a0_0 _ _ l0_1 a0_2 jd qu jc qbf _ ?side1 ?side2 A5.o).mono ?_);(case side1=>exact Kd.Zn HR0_1.o pB);(case side2=>exact HC0_1.o);rintro e w17 ⟨qg5,rfl,ho0,hb⟩;refine ⟨_,rfl,?_⟩;have j4:=am (Kd.Zo (Kd.Zs ho0 (Kd.R_lt (Kd.Za (z3 je.o qd.o (by decide) (.bool q0) (.slice j9 qm.length j5) (.int .i64 qw)) pl))) (Zd pB));replace je:=am (Kd.Zdq (Kd.Za (z3 je.o qd.o (by decide) (.bool q0) (.slice j9 qm.length j5) (.int .i64 qw)) pl) (Kd.Zaz ho0) hb);replace qe:=bfb qj qe hb;replace qd:=am (Zb (g:=j2) (o:=.cells #[.bool q0,.slice j9 qm.length j5,.int .i64 qw] 24 (0,0)) (by exact p3 qd) hb);replace HB:=bS hb)|((with_reducible refine gd 5 ?_);refine bx 5 #[.bool false,.slice none 0 0,.int .i64 0] 24 (h:=?_);intro qaa hg w18 hbox hb;have qg:=am hbox;have qbv:=gW hg;have qk:=nL hg qe;have qr:=nG hg qe;have qz:=nL hg qd;have q1:=nG hg qd;replace je:=rbl je hb;replace j4:=rbl j4 hb;replace qe:=bb qe hb;replace qd:=bb qd hb;replace HB:=bS hb;clear hb hbox hg;have qev:=qr.o;have qf0:=qk.o;have qew:=q1.o;have qf1:=qz.o;obtain ⟨_,_,_,_,_,_⟩:=cEc qg.o;obtain ⟨j6,j8,qbz⟩:=Kd.Zj j4.o;subst qbz;obtain ⟨_,_,_,_,_,_⟩:=cEc qe.o)|(refine gL (some 26) Tryz.func32 #[.agg #[.bool a0_0,.slice A0_1 l0_1.length c0_1,.int .i64 a0_2]] (h:=?_);(with_reducible refine (Zds.calls k a0_0 _ _ l0_1 a0_2 q8 qs q9 qbg _ ?side1 ?side2 A6.o).mono ?_);(case side1=>exact Kd.Zn HR0_1.o pB);(case side2=>exact HC0_1.o);rintro e w24 ⟨qg6,rfl,ho0,hb⟩;refine ⟨_,rfl,?_⟩;have qac:=am (Kd.Zo (Kd.Zs (Kd.Zs ho0 (Kd.R_lt (Kd.Za (z3 je.o qg.o (by decide) (.bool jd) (.slice j6 qu.length j8) (.int .i64 jc)) pl))) (Kd.R_lt (Kd.Za (z3 j4.o qg.o (by decide) (.bool jd) (.slice j6 qu.length j8) (.int .i64 jc)) pl))) (Zd pB));replace je:=am (Kd.Zdq (Kd.Za (z3 je.o qg.o (by decide) (.bool jd) (.slice j6 qu.length j8) (.int .i64 jc)) pl) (Kd.Zaz ho0) hb);replace j4:=am (Kd.Zdq (Kd.Za (z3 j4.o qg.o (by decide) (.bool jd) (.slice j6 qu.length j8) (.int .i64 jc)) pl) (Kd.Zaz ho0) hb);replace qe:=bfb qk qe hb;replace qd:=bfb qz qd hb;replace qg:=am (Zb (g:=qaa) (o:=.cells #[.bool jd,.slice j6 qu.length j8,.int .i64 jc] 24 (0,0)) (by exact p3 qg) hb);replace HB:=bS hb)|((with_reducible refine gd 7 ?_);refine bx 7 #[.bool false,.slice none 0 0,.int .i64 0] 24 (h:=?_);intro js hg w25 hbox hb;have qf:=am hbox;have qbw:=gW hg;have ql:=nL hg qe;have qt:=nG hg qe;have qv:=nL hg qd;have q2:=nG hg qd;have jj:=nL hg qg;have j7:=nG hg qg;replace je:=rbl je hb;replace j4:=rbl j4 hb;replace qac:=rbl qac hb;replace qe:=bb qe hb;replace qd:=bb qd hb;replace qg:=bb qg hb;replace HB:=bS hb;clear hb hbox hg;have qex:=qt.o;have qf2:=ql.o;have qey:=q2.o;have qf3:=qv.o;have qez:=j7.o;have qf4:=jj.o;obtain ⟨_,_,_,_,_,_⟩:=cEc qf.o;obtain ⟨jw,jz,qb0⟩:=Kd.Zj qac.o;subst qb0))
  (try simp only [Act.put,List.setIfInBounds_toArray,List.set_cons_zero,List.set_cons_succ])
  go_cut [42] (fun v42 wc => ∃ (kq:Nat) (x42_6:Bool),v42=.bool x42_6/\Aside0 (Zg.j0 kq qat x42_6 a0_0 l0_1 a0_2 q0 qm qw jd qu jc q8 qs q9=some r)/\Aside0 (kq<=k)/\Aside0 (Kd.R (Kd.int .u32) 85 wc w.heap.size (fun k_=>some k_ ≠ ((.slice j6 qu.length j8):Value).ownBlock/\some k_ ≠ ((.slice jw qs.length jz):Value).ownBlock) (.slice j9 qm.length j5) qm)/\Aside0 (Kd.R (Kd.int .u32) 85 wc w.heap.size (fun k_=>some k_ ≠ ((.slice j9 qm.length j5):Value).ownBlock/\some k_ ≠ ((.slice jw qs.length jz):Value).ownBlock) (.slice j6 qu.length j8) qu)/\Aside0 (Kd.R (Kd.int .u32) 85 wc w.heap.size (fun k_=>some k_ ≠ ((.slice j9 qm.length j5):Value).ownBlock/\some k_ ≠ ((.slice j6 qu.length j8):Value).ownBlock) (.slice jw qs.length jz) qs)/\Aside0 (wc.heap[qad]? = some (.cells #[.bool a0_0,(.slice A0_1 l0_1.length c0_1),.int .i64 a0_2] 24 (0,0)))/\Aside0 (wc.heap[j2]? = some (.cells #[.bool q0,(.slice j9 qm.length j5),.int .i64 qw] 24 (0,0)))/\Aside0 (wc.heap[qaa]? = some (.cells #[.bool jd,(.slice j6 qu.length j8),.int .i64 jc] 24 (0,0)))/\Aside0 (wc.heap[js]? = some (.cells #[.bool q8,(.slice jw qs.length jz),.int .i64 q9] 24 (0,0)))/\Aside0 (Below w.heap.size w wc))
  case first =>
   have H:=HC7.o
   clear HC7
   obtain ⟨qae,A31,H⟩:=ob H
   by_cases c32:qae=0
   ·rw [if_pos c32] at H
    have c32b0:(qae == 0)=true:=beq_iff_eq.mpr c32
    have c32b1:(qae != 0)=false:=bne_eq_false_iff_eq.mpr c32
    clear c32
    (first|rw [c32b0]|(simp only [Zcd,Zdb];rw [c32b0])|skip)
    obtain ⟨qaj,A33,H⟩:=ob H
    obtain ⟨qak,A34,H⟩:=ob H
    obtain ⟨qal,A35,H⟩:=ob H
    have H':=am H
    clear H
    have qe0:=qj.o
    have qf5:=qp.o
    have qe1:=qk.o
    have qf6:=qr.o
    have qe2:=ql.o
    have qf7:=qt.o
    obtain ⟨_,_,_,_,_,_⟩:=cEc qe.o
    go_wp2_with (first|(refine gL (some 30) Tryz.func33 #[.agg #[.bool a0_0,.slice A0_1 l0_1.length c0_1,.int .i64 a0_2]] (h:=?_);(with_reducible refine (Zm.calls k a0_0 _ _ l0_1 a0_2 qae _ ?side1 ?side2 A31.o).mono ?_);(case side1=>exact Kd.Zn HR0_1.o pB);(case side2=>exact HC0_1.o);rintro e w40 ⟨rfl,hb⟩;refine ⟨_,rfl,?_⟩;replace je:=am (Kd.Za (Kd.Za (z3 je.o qf.o (by decide) (.bool q8) (.slice jw qs.length jz) (.int .i64 q9)) pl) hb);replace j4:=am (Kd.Za (Kd.Za (z3 j4.o qf.o (by decide) (.bool q8) (.slice jw qs.length jz) (.int .i64 q9)) pl) hb);replace qac:=am (Kd.Za (Kd.Za (z3 qac.o qf.o (by decide) (.bool q8) (.slice jw qs.length jz) (.int .i64 q9)) pl) hb);replace qe:=bfb ql qe hb;replace qd:=bfb qv qd hb;replace qg:=bfb jj qg hb;replace qf:=am (Zb (g:=js) (o:=.cells #[.bool q8,.slice jw qs.length jz,.int .i64 q9] 24 (0,0)) (by exact p3 qf) hb);replace HB:=bS hb)|(go_at_call 20;(with_reducible refine (Zao.calls qat qaj _ A33.o).mono ?_);rintro e w' ⟨rfl,⟨nd,rfl⟩⟩)|(go_at_call 20;(with_reducible refine (Zao.calls qbf qak _ A34.o).mono ?_);rintro e w' ⟨rfl,⟨nd,rfl⟩⟩)|(go_at_call 20;(with_reducible refine (Zao.calls qbg qal _ A35.o).mono ?_);rintro e w' ⟨rfl,⟨nd,rfl⟩⟩))
    go_meet
    case rel=>exact ⟨_,(((wrap64 ((wrap64 (qaj+qak))+qal)) != 0)),pR,H',⟨by first|omega|exact Nat.le_refl _⟩,⟨by refine rp ?_;exact Kd.Zh je.o (fun _ hk=>⟨hk.1.2,hk.2⟩)⟩,⟨by refine rp ?_;exact Kd.Zh j4.o (fun _ hk=>⟨hk.1.2,hk.2⟩)⟩,⟨by refine rp ?_;exact Kd.Zh qac.o (fun _ hk=>⟨hk.1.2,hk.2⟩)⟩,⟨Zb qe.o pl⟩,⟨Zb qd.o pl⟩,⟨Zb qg.o pl⟩,⟨Zb qf.o pl⟩,⟨pB⟩⟩
   ·rw [if_neg c32] at H
    have c32b0:(qae == 0)=false:=beq_eq_false_iff_ne.mpr c32
    have c32b1:(qae != 0)=true:=bne_iff_ne.mpr c32
    (first|rw [c32b0]|(simp only [Zcd,Zdb];rw [c32b0])|skip)
    have H':=am H
    clear H
    have qe3:=qj.o
    have qf8:=qp.o
    have qe4:=qk.o
    have qf9:=qr.o
    have qe5:=ql.o
    have qga:=qt.o
    obtain ⟨_,_,_,_,_,_⟩:=cEc qe.o
    go_wp2_with (first|(refine gL (some 30) Tryz.func33 #[.agg #[.bool a0_0,.slice A0_1 l0_1.length c0_1,.int .i64 a0_2]] (h:=?_);(with_reducible refine (Zm.calls k a0_0 _ _ l0_1 a0_2 qae _ ?side1 ?side2 A31.o).mono ?_);(case side1=>exact Kd.Zn HR0_1.o pB);(case side2=>exact HC0_1.o);rintro e w45 ⟨rfl,hb⟩;refine ⟨_,rfl,?_⟩;replace je:=am (Kd.Za (Kd.Za (z3 je.o qf.o (by decide) (.bool q8) (.slice jw qs.length jz) (.int .i64 q9)) pl) hb);replace j4:=am (Kd.Za (Kd.Za (z3 j4.o qf.o (by decide) (.bool q8) (.slice jw qs.length jz) (.int .i64 q9)) pl) hb);replace qac:=am (Kd.Za (Kd.Za (z3 qac.o qf.o (by decide) (.bool q8) (.slice jw qs.length jz) (.int .i64 q9)) pl) hb);replace qe:=bfb ql qe hb;replace qd:=bfb qv qd hb;replace qg:=bfb jj qg hb;replace qf:=am (Zb (g:=js) (o:=.cells #[.bool q8,.slice jw qs.length jz,.int .i64 q9] 24 (0,0)) (by exact p3 qf) hb);replace HB:=bS hb))
    go_meet
    case rel=>exact ⟨_,(true),pR,H',⟨by first|omega|exact Nat.le_refl _⟩,⟨by refine rp ?_;exact Kd.Zh je.o (fun _ hk=>⟨hk.1.2,hk.2⟩)⟩,⟨by refine rp ?_;exact Kd.Zh j4.o (fun _ hk=>⟨hk.1.2,hk.2⟩)⟩,⟨by refine rp ?_;exact Kd.Zh qac.o (fun _ hk=>⟨hk.1.2,hk.2⟩)⟩,⟨Zb qe.o pl⟩,⟨Zb qd.o pl⟩,⟨Zb qg.o pl⟩,⟨Zb qf.o pl⟩,⟨pB⟩⟩
  case rest =>
   clear HC7
   obtain ⟨kq,x42_6,rfl,HA,HJ6,qa,qb,qc,qe,qd,qg,qf,HB⟩:=hcut
   cases kq with
   | zero=>exact absurd HA.out (by simp [Zg.j0])
   | succ kj6 =>
    have H:=HA.out
    clear HA
    simp only [Zg.j0] at H
    by_cases c46:x42_6=true
    ·subst c46
     rw [if_pos rfl] at H
     obtain ⟨qag,A47,H⟩:=ob H
     by_cases c48:qag=0
     ·rw [if_pos c48] at H
      have c48b0:(qag == 0)=true:=beq_iff_eq.mpr c48
      have c48b1:(qag != 0)=false:=bne_eq_false_iff_eq.mpr c48
      clear c48
      obtain rfl:=Option.some.inj H
      have qe6:=qj.o
      have qgb:=qp.o
      have qe7:=qk.o
      have qgc:=qr.o
      have qe8:=ql.o
      have qgd:=qt.o
      obtain ⟨_,_,_,_,_,_⟩:=cEc qe.o
      go_wp2_with (first|(refine gL (some 44) Tryz.func33 #[.agg #[.bool a0_0,.slice A0_1 l0_1.length c0_1,.int .i64 a0_2]] (h:=?_);(with_reducible refine (Zm.calls kj6 a0_0 _ _ l0_1 a0_2 qag _ ?side1 ?side2 A47.o).mono ?_);(case side1=>exact cB HR0_1 HB);(case side2=>exact HC0_1.o);rintro e w53 ⟨rfl,hb⟩;refine ⟨_,rfl,?_⟩;replace qa:=rbl qa hb;replace qb:=rbl qb hb;replace qc:=rbl qc hb;replace qe:=bb qe hb;replace qd:=bb qd hb;replace qg:=bb qg hb;replace qf:=bb qf hb;replace HB:=bS hb))
      go_ret
      exact ⟨pE,pB⟩
     ·rw [if_neg c48] at H
      have c48b0:(qag == 0)=false:=beq_eq_false_iff_ne.mpr c48
      have c48b1:(qag != 0)=true:=bne_iff_ne.mpr c48
      obtain ⟨qav,A54,H⟩:=ob H
      obtain rfl:=Option.some.inj H
      have qe9:=qj.o
      have qge:=qp.o
      have qfa:=qk.o
      have qgf:=qr.o
      have qfb:=ql.o
      have qgg:=qt.o
      obtain ⟨_,_,_,_,_,_⟩:=cEc qe.o
      go_wp2_with (first|(refine gL (some 44) Tryz.func33 #[.agg #[.bool a0_0,.slice A0_1 l0_1.length c0_1,.int .i64 a0_2]] (h:=?_);(with_reducible refine (Zm.calls kj6 a0_0 _ _ l0_1 a0_2 qag _ ?side1 ?side2 A47.o).mono ?_);(case side1=>exact cB HR0_1 HB);(case side2=>exact HC0_1.o);rintro e w59 ⟨rfl,hb⟩;refine ⟨_,rfl,?_⟩;replace qa:=rbl qa hb;replace qb:=rbl qb hb;replace qc:=rbl qc hb;replace qe:=bb qe hb;replace qd:=bb qd hb;replace qg:=bb qg hb;replace qf:=bb qf hb;replace HB:=bS hb)|(go_at_call 20;(with_reducible refine (Zao.calls qat qav _ A54.o).mono ?_);rintro e w' ⟨rfl,⟨nd,rfl⟩⟩))
      go_ret
      exact ⟨pE,pB⟩
    ·replace c46:=Bool.eq_false_iff.mpr c46
     subst c46
     rw [if_neg (show ¬ (false=true) by decide)] at H
     obtain ⟨⟨qx,qn,qy,qam⟩,A60,H⟩:=ob H;(try dsimp only at H)
     have HC61:=am H
     clear H
     have qfc:=qr.o
     have qgh:=qk.o
     have qfd:=q1.o
     have qgi:=qz.o
     have qfe:=jj.o
     have qgj:=j7.o
     obtain ⟨_,_,_,_,_,_⟩:=cEc qg.o
     have qff:=qp.o
     have qgk:=qj.o
     have qfg:=qv.o
     have qgl:=q2.o
     obtain ⟨_,_,_,_,_,_⟩:=cEc qd.o
     go_upto_region 9 with (first|(refine gL (some 54) Tryz.func22 #[.agg #[.bool jd,.slice j6 qu.length j8,.int .i64 jc],.agg #[.bool q0,.slice j9 qm.length j5,.int .i64 qw]] (h:=?_);(with_reducible refine (Zaw.calls kj6 jd _ _ qu jc q0 _ _ qm qw qx qn qy qam _ ?side1 ?side2 ?side3 ?side4 A60.o).mono ?_);(case side1=>exact Kd.Zn (Kd.Zc qb.o).2.2 pl);(case side2=>exact (Kd.Zc qb.o).2.1);(case side3=>exact Kd.Zn (Kd.Zc qa.o).2.2 pl);(case side4=>exact (Kd.Zc qa.o).2.1);rintro e w69 ⟨qg7,rfl,ho0,hb⟩;refine ⟨_,rfl,?_⟩;have q4:=am (Kd.Zo (Kd.Zs (Kd.Zs (Kd.Zs ho0 (Kd.R_lt (Kd.Za qa.o pl))) (Kd.R_lt (Kd.Za qb.o pl))) (Kd.R_lt (Kd.Za qc.o pl))) (Zd pB));replace qa:=reR qa ho0 hb;replace qb:=reR qb ho0 hb;replace qc:=reR qc ho0 hb;replace qe:=bb qe hb;replace qd:=bb qd hb;replace qg:=bb qg hb;replace qf:=bb qf hb;replace HB:=bS hb)|((with_reducible refine gd 9 ?_);refine bx 9 #[.bool false,.slice none 0 0,.int .i64 0] 24 (h:=?_);intro q3 hg w70 hbox hb;have qh:=am hbox;have qbx:=gW hg;have qo:=nL hg qe;have q6:=nG hg qe;have qq:=nL hg qd;have q7:=nG hg qd;have q5:=nL hg qg;have qab:=nG hg qg;have j3:=nL hg qf;have qaq:=nG hg qf;replace qa:=rbl qa hb;replace qb:=rbl qb hb;replace qc:=rbl qc hb;replace q4:=rbl q4 hb;replace qe:=bb qe hb;replace qd:=bb qd hb;replace qg:=bb qg hb;replace qf:=bb qf hb;replace HB:=bS hb;clear hb hbox hg;have qfh:=q6.o;have qgm:=qo.o;have qfi:=q7.o;have qgn:=qq.o;have qfj:=qab.o;have qgo:=q5.o;have qfk:=qaq.o;have qgp:=j3.o;obtain ⟨_,_,_,_,_,_⟩:=cEc qh.o;obtain ⟨ja,jb,qb1⟩:=Kd.Zj q4.o;subst qb1))
     (try simp only [Act.put,List.setIfInBounds_toArray,List.set_cons_zero,List.set_cons_succ])
     go_cut [80] (fun v80 wc => ∃ (kq:Nat) (x80_60:Bool),v80=.bool x80_60/\Aside0 (Zg.j1 kq x80_60 a0_0 l0_1 a0_2 q0 qm qw jd qu jc q8 qs q9 qx qn qy=some r)/\Aside0 (kq<=kj6)/\Aside0 (Kd.R (Kd.int .u32) 85 wc w.heap.size (fun k_=>some k_ ≠ ((.slice j6 qu.length j8):Value).ownBlock/\some k_ ≠ ((.slice jw qs.length jz):Value).ownBlock/\some k_ ≠ ((.slice ja qn.length jb):Value).ownBlock) (.slice j9 qm.length j5) qm)/\Aside0 (Kd.R (Kd.int .u32) 85 wc w.heap.size (fun k_=>some k_ ≠ ((.slice j9 qm.length j5):Value).ownBlock/\some k_ ≠ ((.slice jw qs.length jz):Value).ownBlock/\some k_ ≠ ((.slice ja qn.length jb):Value).ownBlock) (.slice j6 qu.length j8) qu)/\Aside0 (Kd.R (Kd.int .u32) 85 wc w.heap.size (fun k_=>some k_ ≠ ((.slice j9 qm.length j5):Value).ownBlock/\some k_ ≠ ((.slice j6 qu.length j8):Value).ownBlock/\some k_ ≠ ((.slice ja qn.length jb):Value).ownBlock) (.slice jw qs.length jz) qs)/\Aside0 (Kd.R (Kd.int .u32) 85 wc w.heap.size (fun k_=>some k_ ≠ ((.slice j9 qm.length j5):Value).ownBlock/\some k_ ≠ ((.slice j6 qu.length j8):Value).ownBlock/\some k_ ≠ ((.slice jw qs.length jz):Value).ownBlock) (.slice ja qn.length jb) qn)/\Aside0 (wc.heap[qad]? = some (.cells #[.bool a0_0,(.slice A0_1 l0_1.length c0_1),.int .i64 a0_2] 24 (0,0)))/\Aside0 (wc.heap[j2]? = some (.cells #[.bool q0,(.slice j9 qm.length j5),.int .i64 qw] 24 (0,0)))/\Aside0 (wc.heap[qaa]? = some (.cells #[.bool jd,(.slice j6 qu.length j8),.int .i64 jc] 24 (0,0)))/\Aside0 (wc.heap[js]? = some (.cells #[.bool q8,(.slice jw qs.length jz),.int .i64 q9] 24 (0,0)))/\Aside0 (wc.heap[q3]? = some (.cells #[.bool qx,(.slice ja qn.length jb),.int .i64 qy] 24 (0,0)))/\Aside0 (Below w.heap.size w wc))
     case first =>
      have H:=HC61.o
      clear HC61
      by_cases c77:qam=0
      ·rw [if_pos c77] at H
       have c77b0:(qam == 0)=true:=beq_iff_eq.mpr c77
       have c77b1:(qam != 0)=false:=bne_eq_false_iff_eq.mpr c77
       clear c77
       (first|rw [c77b0]|(simp only [Zcd,Zdb];rw [c77b0])|skip)
       obtain ⟨qah,A78,H⟩:=ob H
       by_cases c79:qah > 0
       ·rw [if_pos c79] at H
        have c79b0:decide (0 < qah)=true:=decide_eq_true c79
        clear c79
        have H':=am H
        clear H
        have qfl:=qp.o
        have qgq:=qj.o
        have qfm:=qz.o
        have qgr:=q1.o
        have qfn:=qv.o
        have qgs:=q2.o
        have qfo:=qq.o
        have qgt:=q7.o
        obtain ⟨_,_,_,_,_,_⟩:=cEc qd.o
        have qfp:=qk.o
        have qgu:=qr.o
        have qfq:=ql.o
        have qgv:=qt.o
        have qfr:=qo.o
        have qgw:=q6.o
        obtain ⟨_,_,_,_,_,_⟩:=cEc qe.o
        go_wp2_with (first|(go_at_call 25;(with_reducible refine (Za9.calls kj6 q0 _ _ qm qw a0_0 _ _ l0_1 a0_2 qah _ ?side1 ?side2 ?side3 ?side4 A78.o).mono ?_);(case side1=>refine (Kd.Zc (e:=85) (base:=w.heap.size) (ok:=fun k_=>((some k_ ≠ (.slice j6 qu.length j8:Value).ownBlock/\some k_ ≠ (.slice jw qs.length jz:Value).ownBlock)/\some k_ ≠ (.slice ja qn.length jb:Value).ownBlock)) (n:=qm.length) (c:=j5) ?_).2.2;exact (Kd.Za (z3 qa.o qh.o (by decide) (.bool qx) (.slice ja qn.length jb) (.int .i64 qy)) pl));(case side2=>exact (Kd.Zc qa.o).2.1);(case side3=>exact Kd.Zn HR0_1.o pB);(case side4=>exact HC0_1.o);rintro e w89 ⟨rfl,hb⟩;replace qa:=am (Kd.Za (Kd.Za (z3 qa.o qh.o (by decide) (.bool qx) (.slice ja qn.length jb) (.int .i64 qy)) pl) hb);replace qb:=am (Kd.Za (Kd.Za (z3 qb.o qh.o (by decide) (.bool qx) (.slice ja qn.length jb) (.int .i64 qy)) pl) hb);replace qc:=am (Kd.Za (Kd.Za (z3 qc.o qh.o (by decide) (.bool qx) (.slice ja qn.length jb) (.int .i64 qy)) pl) hb);replace q4:=am (Kd.Za (Kd.Za (z3 q4.o qh.o (by decide) (.bool qx) (.slice ja qn.length jb) (.int .i64 qy)) pl) hb);replace qe:=bfb qo qe hb;replace qd:=bfb qq qd hb;replace qg:=bfb q5 qg hb;replace qf:=bfb j3 qf hb;replace qh:=am (Zb (g:=q3) (o:=.cells #[.bool qx,.slice ja qn.length jb,.int .i64 qy] 24 (0,0)) (by exact p3 qh) hb);replace HB:=bS hb))
        go_meet
        case rel=>exact ⟨_,(true),pR,H',⟨by have := HJ6.o;first|omega|exact Nat.le_refl _⟩,⟨by refine rp ?_;exact Kd.Zh qa.o (fun _ hk=>⟨hk.1.1,⟨hk.1.2,hk.2⟩⟩)⟩,⟨by refine rp ?_;exact Kd.Zh qb.o (fun _ hk=>⟨hk.1.1,⟨hk.1.2,hk.2⟩⟩)⟩,⟨by refine rp ?_;exact Kd.Zh qc.o (fun _ hk=>⟨hk.1.1,⟨hk.1.2,hk.2⟩⟩)⟩,⟨by refine rp ?_;exact Kd.Zh q4.o (fun _ hk=>⟨hk.1.1.2,⟨hk.1.2,hk.2⟩⟩)⟩,⟨Zb qe.o pl⟩,⟨Zb qd.o pl⟩,⟨Zb qg.o pl⟩,⟨Zb qf.o pl⟩,⟨Zb qh.o pl⟩,⟨pB⟩⟩
       ·rw [if_neg c79] at H
        have c79b0:decide (0 < qah)=false:=decide_eq_false c79
        clear c79
        obtain ⟨qai,A90,H⟩:=ob H
        by_cases c91:qai < 0
        ·rw [if_pos c91] at H
         have c91b0:decide (qai < 0)=true:=decide_eq_true c91
         clear c91
         have H':=am H
         clear H
         have qfs:=qp.o
         have qgx:=qj.o
         have qft:=qz.o
         have qgy:=q1.o
         have qfu:=qv.o
         have qgz:=q2.o
         have qfv:=qq.o
         have qg0:=q7.o
         obtain ⟨_,_,_,_,_,_⟩:=cEc qd.o
         have qfw:=qk.o
         have qg1:=qr.o
         have qfx:=ql.o
         have qg2:=qt.o
         have qfy:=qo.o
         have qg3:=q6.o
         obtain ⟨_,_,_,_,_,_⟩:=cEc qe.o
         go_wp2_with (first|(go_at_call 25;(with_reducible refine (Za9.calls kj6 q0 _ _ qm qw a0_0 _ _ l0_1 a0_2 qah _ ?side1 ?side2 ?side3 ?side4 A78.o).mono ?_);(case side1=>refine (Kd.Zc (e:=85) (base:=w.heap.size) (ok:=fun k_=>((some k_ ≠ (.slice j6 qu.length j8:Value).ownBlock/\some k_ ≠ (.slice jw qs.length jz:Value).ownBlock)/\some k_ ≠ (.slice ja qn.length jb:Value).ownBlock)) (n:=qm.length) (c:=j5) ?_).2.2;exact (Kd.Za (z3 qa.o qh.o (by decide) (.bool qx) (.slice ja qn.length jb) (.int .i64 qy)) pl));(case side2=>exact (Kd.Zc qa.o).2.1);(case side3=>exact Kd.Zn HR0_1.o pB);(case side4=>exact HC0_1.o);rintro e qg8 ⟨rfl,hb⟩;replace qa:=am (Kd.Za (Kd.Za (z3 qa.o qh.o (by decide) (.bool qx) (.slice ja qn.length jb) (.int .i64 qy)) pl) hb);replace qb:=am (Kd.Za (Kd.Za (z3 qb.o qh.o (by decide) (.bool qx) (.slice ja qn.length jb) (.int .i64 qy)) pl) hb);replace qc:=am (Kd.Za (Kd.Za (z3 qc.o qh.o (by decide) (.bool qx) (.slice ja qn.length jb) (.int .i64 qy)) pl) hb);replace q4:=am (Kd.Za (Kd.Za (z3 q4.o qh.o (by decide) (.bool qx) (.slice ja qn.length jb) (.int .i64 qy)) pl) hb);replace qe:=bfb qo qe hb;replace qd:=bfb qq qd hb;replace qg:=bfb q5 qg hb;replace qf:=bfb j3 qf hb;replace qh:=am (Zb (g:=q3) (o:=.cells #[.bool qx,.slice ja qn.length jb,.int .i64 qy] 24 (0,0)) (by exact p3 qh) hb);replace HB:=bS hb;have qb2:=jj.o;have qde:=j7.o;have qb3:=q5.o;have qdf:=qab.o;obtain ⟨_,_,_,_,_,_⟩:=cEc qg.o;obtain ⟨_,_,_,_,_,_⟩:=cEc qe.o)|(go_at_call 25;(with_reducible refine (Za9.calls kj6 jd _ _ qu jc a0_0 _ _ l0_1 a0_2 qai _ ?side1 ?side2 ?side3 ?side4 A90.o).mono ?_);(case side1=>exact Kd.Zn (Kd.Zc qb.o).2.2 pl);(case side2=>exact (Kd.Zc qb.o).2.1);(case side3=>exact cB HR0_1 HB);(case side4=>exact HC0_1.o);rintro e qg9 ⟨rfl,hb⟩;replace qa:=rbl qa hb;replace qb:=rbl qb hb;replace qc:=rbl qc hb;replace q4:=rbl q4 hb;replace qe:=bb qe hb;replace qd:=bb qd hb;replace qg:=bb qg hb;replace qf:=bb qf hb;replace qh:=bb qh hb;replace HB:=bS hb))
         go_meet
         case rel=>exact ⟨_,(true),pR,H',⟨by have := HJ6.o;first|omega|exact Nat.le_refl _⟩,⟨by refine rp ?_;exact Kd.Zh qa.o (fun _ hk=>⟨hk.1.1,⟨hk.1.2,hk.2⟩⟩)⟩,⟨by refine rp ?_;exact Kd.Zh qb.o (fun _ hk=>⟨hk.1.1,⟨hk.1.2,hk.2⟩⟩)⟩,⟨by refine rp ?_;exact Kd.Zh qc.o (fun _ hk=>⟨hk.1.1,⟨hk.1.2,hk.2⟩⟩)⟩,⟨by refine rp ?_;exact Kd.Zh q4.o (fun _ hk=>⟨hk.1.1.2,⟨hk.1.2,hk.2⟩⟩)⟩,⟨Zb qe.o pl⟩,⟨Zb qd.o pl⟩,⟨Zb qg.o pl⟩,⟨Zb qf.o pl⟩,⟨Zb qh.o pl⟩,⟨pB⟩⟩
        ·rw [if_neg c91] at H
         have c91b0:decide (qai < 0)=false:=decide_eq_false c91
         clear c91
         by_cases qau:qw < 0
         ·rw [if_pos qau] at H
          have c107b0:decide (qw < 0)=true:=decide_eq_true qau
          clear qau
          have H':=am H
          clear H
          have qb4:=qp.o
          have qdg:=qj.o
          have qb5:=qz.o
          have qdh:=q1.o
          have qb6:=qv.o
          have qdi:=q2.o
          have qb7:=qq.o
          have qdj:=q7.o
          obtain ⟨_,_,_,_,_,_⟩:=cEc qd.o
          have qb8:=qk.o
          have qdk:=qr.o
          have qb9:=ql.o
          have qdl:=qt.o
          have qca:=qo.o
          have qdm:=q6.o
          obtain ⟨_,_,_,_,_,_⟩:=cEc qe.o
          go_wp2_with (first|(go_at_call 25;(with_reducible refine (Za9.calls kj6 q0 _ _ qm qw a0_0 _ _ l0_1 a0_2 qah _ ?side1 ?side2 ?side3 ?side4 A78.o).mono ?_);(case side1=>refine (Kd.Zc (e:=85) (base:=w.heap.size) (ok:=fun k_=>((some k_ ≠ (.slice j6 qu.length j8:Value).ownBlock/\some k_ ≠ (.slice jw qs.length jz:Value).ownBlock)/\some k_ ≠ (.slice ja qn.length jb:Value).ownBlock)) (n:=qm.length) (c:=j5) ?_).2.2;exact (Kd.Za (z3 qa.o qh.o (by decide) (.bool qx) (.slice ja qn.length jb) (.int .i64 qy)) pl));(case side2=>exact (Kd.Zc qa.o).2.1);(case side3=>exact Kd.Zn HR0_1.o pB);(case side4=>exact HC0_1.o);rintro e qha ⟨rfl,hb⟩;replace qa:=am (Kd.Za (Kd.Za (z3 qa.o qh.o (by decide) (.bool qx) (.slice ja qn.length jb) (.int .i64 qy)) pl) hb);replace qb:=am (Kd.Za (Kd.Za (z3 qb.o qh.o (by decide) (.bool qx) (.slice ja qn.length jb) (.int .i64 qy)) pl) hb);replace qc:=am (Kd.Za (Kd.Za (z3 qc.o qh.o (by decide) (.bool qx) (.slice ja qn.length jb) (.int .i64 qy)) pl) hb);replace q4:=am (Kd.Za (Kd.Za (z3 q4.o qh.o (by decide) (.bool qx) (.slice ja qn.length jb) (.int .i64 qy)) pl) hb);replace qe:=bfb qo qe hb;replace qd:=bfb qq qd hb;replace qg:=bfb q5 qg hb;replace qf:=bfb j3 qf hb;replace qh:=am (Zb (g:=q3) (o:=.cells #[.bool qx,.slice ja qn.length jb,.int .i64 qy] 24 (0,0)) (by exact p3 qh) hb);replace HB:=bS hb;have qcb:=jj.o;have qdn:=j7.o;have qcc:=q5.o;have qdo:=qab.o;obtain ⟨_,_,_,_,_,_⟩:=cEc qg.o;obtain ⟨_,_,_,_,_,_⟩:=cEc qe.o)|(go_at_call 25;(with_reducible refine (Za9.calls kj6 jd _ _ qu jc a0_0 _ _ l0_1 a0_2 qai _ ?side1 ?side2 ?side3 ?side4 A90.o).mono ?_);(case side1=>exact Kd.Zn (Kd.Zc qb.o).2.2 pl);(case side2=>exact (Kd.Zc qb.o).2.1);(case side3=>exact cB HR0_1 HB);(case side4=>exact HC0_1.o);rintro e qhb ⟨rfl,hb⟩;replace qa:=rbl qa hb;replace qb:=rbl qb hb;replace qc:=rbl qc hb;replace q4:=rbl q4 hb;replace qe:=bb qe hb;replace qd:=bb qd hb;replace qg:=bb qg hb;replace qf:=bb qf hb;replace qh:=bb qh hb;replace HB:=bS hb;obtain ⟨_,_,_,_,_,_⟩:=cEc qd.o))
          go_meet
          case rel=>exact ⟨_,(true),pR,H',⟨by have := HJ6.o;first|omega|exact Nat.le_refl _⟩,⟨by refine rp ?_;exact Kd.Zh qa.o (fun _ hk=>⟨hk.1.1,⟨hk.1.2,hk.2⟩⟩)⟩,⟨by refine rp ?_;exact Kd.Zh qb.o (fun _ hk=>⟨hk.1.1,⟨hk.1.2,hk.2⟩⟩)⟩,⟨by refine rp ?_;exact Kd.Zh qc.o (fun _ hk=>⟨hk.1.1,⟨hk.1.2,hk.2⟩⟩)⟩,⟨by refine rp ?_;exact Kd.Zh q4.o (fun _ hk=>⟨hk.1.1.2,⟨hk.1.2,hk.2⟩⟩)⟩,⟨Zb qe.o pl⟩,⟨Zb qd.o pl⟩,⟨Zb qg.o pl⟩,⟨Zb qf.o pl⟩,⟨Zb qh.o pl⟩,⟨pB⟩⟩
         ·rw [if_neg qau] at H
          have c107b0:decide (qw < 0)=false:=decide_eq_false qau
          clear qau
          have H':=am H
          clear H
          have qcd:=qp.o
          have qdp:=qj.o
          have qce:=qz.o
          have qdq:=q1.o
          have qcf:=qv.o
          have qdr:=q2.o
          have qcg:=qq.o
          have qds:=q7.o
          obtain ⟨_,_,_,_,_,_⟩:=cEc qd.o
          have qch:=qk.o
          have qdt:=qr.o
          have qci:=ql.o
          have qdu:=qt.o
          have qcj:=qo.o
          have qdv:=q6.o
          obtain ⟨_,_,_,_,_,_⟩:=cEc qe.o
          go_wp2_with (first|(go_at_call 25;(with_reducible refine (Za9.calls kj6 q0 _ _ qm qw a0_0 _ _ l0_1 a0_2 qah _ ?side1 ?side2 ?side3 ?side4 A78.o).mono ?_);(case side1=>refine (Kd.Zc (e:=85) (base:=w.heap.size) (ok:=fun k_=>((some k_ ≠ (.slice j6 qu.length j8:Value).ownBlock/\some k_ ≠ (.slice jw qs.length jz:Value).ownBlock)/\some k_ ≠ (.slice ja qn.length jb:Value).ownBlock)) (n:=qm.length) (c:=j5) ?_).2.2;exact (Kd.Za (z3 qa.o qh.o (by decide) (.bool qx) (.slice ja qn.length jb) (.int .i64 qy)) pl));(case side2=>exact (Kd.Zc qa.o).2.1);(case side3=>exact Kd.Zn HR0_1.o pB);(case side4=>exact HC0_1.o);rintro e qhc ⟨rfl,hb⟩;replace qa:=am (Kd.Za (Kd.Za (z3 qa.o qh.o (by decide) (.bool qx) (.slice ja qn.length jb) (.int .i64 qy)) pl) hb);replace qb:=am (Kd.Za (Kd.Za (z3 qb.o qh.o (by decide) (.bool qx) (.slice ja qn.length jb) (.int .i64 qy)) pl) hb);replace qc:=am (Kd.Za (Kd.Za (z3 qc.o qh.o (by decide) (.bool qx) (.slice ja qn.length jb) (.int .i64 qy)) pl) hb);replace q4:=am (Kd.Za (Kd.Za (z3 q4.o qh.o (by decide) (.bool qx) (.slice ja qn.length jb) (.int .i64 qy)) pl) hb);replace qe:=bfb qo qe hb;replace qd:=bfb qq qd hb;replace qg:=bfb q5 qg hb;replace qf:=bfb j3 qf hb;replace qh:=am (Zb (g:=q3) (o:=.cells #[.bool qx,.slice ja qn.length jb,.int .i64 qy] 24 (0,0)) (by exact p3 qh) hb);replace HB:=bS hb;have qck:=jj.o;have qdw:=j7.o;have qcl:=q5.o;have qdx:=qab.o;obtain ⟨_,_,_,_,_,_⟩:=cEc qg.o;obtain ⟨_,_,_,_,_,_⟩:=cEc qe.o)|(go_at_call 25;(with_reducible refine (Za9.calls kj6 jd _ _ qu jc a0_0 _ _ l0_1 a0_2 qai _ ?side1 ?side2 ?side3 ?side4 A90.o).mono ?_);(case side1=>exact Kd.Zn (Kd.Zc qb.o).2.2 pl);(case side2=>exact (Kd.Zc qb.o).2.1);(case side3=>exact cB HR0_1 HB);(case side4=>exact HC0_1.o);rintro e qhd ⟨rfl,hb⟩;replace qa:=rbl qa hb;replace qb:=rbl qb hb;replace qc:=rbl qc hb;replace q4:=rbl q4 hb;replace qe:=bb qe hb;replace qd:=bb qd hb;replace qg:=bb qg hb;replace qf:=bb qf hb;replace qh:=bb qh hb;replace HB:=bS hb;obtain ⟨_,_,_,_,_,_⟩:=cEc qd.o;obtain ⟨_,_,_,_,_,_⟩:=cEc qg.o))
          go_meet
          case rel=>exact ⟨_,(decide (jc < 0)),pR,H',⟨by have := HJ6.o;first|omega|exact Nat.le_refl _⟩,⟨by refine rp ?_;exact Kd.Zh qa.o (fun _ hk=>⟨hk.1.1,⟨hk.1.2,hk.2⟩⟩)⟩,⟨by refine rp ?_;exact Kd.Zh qb.o (fun _ hk=>⟨hk.1.1,⟨hk.1.2,hk.2⟩⟩)⟩,⟨by refine rp ?_;exact Kd.Zh qc.o (fun _ hk=>⟨hk.1.1,⟨hk.1.2,hk.2⟩⟩)⟩,⟨by refine rp ?_;exact Kd.Zh q4.o (fun _ hk=>⟨hk.1.1.2,⟨hk.1.2,hk.2⟩⟩)⟩,⟨Zb qe.o pl⟩,⟨Zb qd.o pl⟩,⟨Zb qg.o pl⟩,⟨Zb qf.o pl⟩,⟨Zb qh.o pl⟩,⟨pB⟩⟩
      ·rw [if_neg c77] at H
       have c77b0:(qam == 0)=false:=beq_eq_false_iff_ne.mpr c77
       have c77b1:(qam != 0)=true:=bne_iff_ne.mpr c77
       (first|rw [c77b0]|(simp only [Zcd,Zdb];rw [c77b0])|skip)
       have H':=am H
       clear H
       go_wp2
       go_meet
       case rel=>exact ⟨_,(true),pR,H',⟨by have := HJ6.o;first|omega|exact Nat.le_refl _⟩,⟨by refine rp ?_;exact Kd.Zh (Kd.Zr (p:=⟨q3,2,none⟩) (Kd.Zr (p:=⟨q3,1,none⟩) (Kd.Zr (p:=⟨q3,0,none⟩) (Kd.Zaa qa.o qh.o (by decide)) (fun _ hk=>hk.2) (.bool qx)) (fun _ hk=>hk.2) (.slice ja qn.length jb)) (fun _ hk=>hk.2) (.int .i64 qy)) (fun _ hk=>⟨hk.1.1.1,⟨hk.1.1.2,hk.1.2⟩⟩)⟩,⟨by refine rp ?_;exact Kd.Zh (Kd.Zr (p:=⟨q3,2,none⟩) (Kd.Zr (p:=⟨q3,1,none⟩) (Kd.Zr (p:=⟨q3,0,none⟩) (Kd.Zaa qb.o qh.o (by decide)) (fun _ hk=>hk.2) (.bool qx)) (fun _ hk=>hk.2) (.slice ja qn.length jb)) (fun _ hk=>hk.2) (.int .i64 qy)) (fun _ hk=>⟨hk.1.1.1,⟨hk.1.1.2,hk.1.2⟩⟩)⟩,⟨by refine rp ?_;exact Kd.Zh (Kd.Zr (p:=⟨q3,2,none⟩) (Kd.Zr (p:=⟨q3,1,none⟩) (Kd.Zr (p:=⟨q3,0,none⟩) (Kd.Zaa qc.o qh.o (by decide)) (fun _ hk=>hk.2) (.bool qx)) (fun _ hk=>hk.2) (.slice ja qn.length jb)) (fun _ hk=>hk.2) (.int .i64 qy)) (fun _ hk=>⟨hk.1.1.1,⟨hk.1.1.2,hk.1.2⟩⟩)⟩,⟨by refine rp ?_;exact Kd.Zh (Kd.Zr (p:=⟨q3,2,none⟩) (Kd.Zr (p:=⟨q3,1,none⟩) (Kd.Zr (p:=⟨q3,0,none⟩) (Kd.Zaa q4.o qh.o (by decide)) (fun _ hk=>hk.2) (.bool qx)) (fun _ hk=>hk.2) (.slice ja qn.length jb)) (fun _ hk=>hk.2) (.int .i64 qy)) (fun _ hk=>⟨hk.1.1.1.2,⟨hk.1.1.2,hk.1.2⟩⟩)⟩,⟨bf qo.o qe.o⟩,⟨bf qq.o qd.o⟩,⟨bf q5.o qg.o⟩,⟨bf j3.o qf.o⟩,⟨by exact p3 qh⟩,⟨pB⟩⟩
     case rest =>
      clear HC61
      obtain ⟨kq,x80_60,rfl,HA,HJ60,qa,qb,qc,qi,qe,qd,qg,qf,qh,HB⟩:=hcut
      cases kq with
      | zero=>exact absurd HA.out (by simp [Zg.j1])
      | succ qaf =>
       have H:=HA.out
       clear HA
       simp only [Zg.j1] at H
       by_cases qa7:x80_60=true
       ·subst qa7
        rw [if_pos rfl] at H
        exact absurd ((Option.some.inj H).trans hr) Bool.false_ne_true
       ·replace qa7:=Bool.eq_false_iff.mpr qa7
        subst qa7
        rw [if_neg (show ¬ (false=true) by decide)] at H
        obtain ⟨qaw,qa6,H⟩:=ob H
        by_cases qa8:qaw=true
        ·subst qa8
         rw [if_pos rfl] at H
         obtain ⟨qax,qbh,H⟩:=ob H
         by_cases qa9:qax=true
         ·subst qa9
          rw [if_pos rfl] at H
          obtain ⟨qay,qbi,H⟩:=ob H
          by_cases qba:qay=true
          ·subst qba
           rw [if_pos rfl] at H
           obtain rfl:=Option.some.inj H
           have qcm:=qp.o
           have qdy:=qj.o
           have qcn:=qz.o
           have qdz:=q1.o
           have qco:=qv.o
           have qd0:=q2.o
           have qcp:=qq.o
           have qd1:=q7.o
           obtain ⟨_,_,_,_,_,_⟩:=cEc qd.o
           have qcq:=qk.o
           have qd2:=qr.o
           have qcr:=ql.o
           have qd3:=qt.o
           have qcs:=qo.o
           have qd4:=q6.o
           obtain ⟨_,_,_,_,_,_⟩:=cEc qe.o
           try go_wp2_with (first|(refine gL (some 83) Tryz.func21 #[.agg #[.bool q0,.slice j9 qm.length j5,.int .i64 qw],.agg #[.bool a0_0,.slice A0_1 l0_1.length c0_1,.int .i64 a0_2]] (h:=?_);(with_reducible refine (Zk.calls qaf q0 _ _ qm qw a0_0 _ _ l0_1 a0_2 true _ ?side1 ?side2 ?side3 ?side4 qa6.o).mono ?_);(case side1=>exact Kd.Zn (Kd.Zc qa.o).2.2 pl);(case side2=>exact (Kd.Zc qa.o).2.1);(case side3=>exact cB HR0_1 HB);(case side4=>exact HC0_1.o);rintro e qeq ⟨rfl,hb⟩;refine ⟨_,rfl,?_⟩;replace qa:=rbl qa hb;replace qb:=rbl qb hb;replace qc:=rbl qc hb;replace qi:=rbl qi hb;replace qe:=bb qe hb;replace qd:=bb qd hb;replace qg:=bb qg hb;replace qf:=bb qf hb;replace qh:=bb qh hb;replace HB:=bS hb))
           replace qa:=am (Kd.Zc1 qa.o)
           replace qb:=am (Kd.Zc1 qb.o)
           replace qc:=am (Kd.Zc1 qc.o)
           replace qi:=am (Kd.Zc1 qi.o)
           replace qe:=am (Zar qe.o)
           replace qd:=am (Zar qd.o)
           replace qg:=am (Zar qg.o)
           replace qf:=am (Zar qf.o)
           replace qh:=am (Zar qh.o)
           replace HB:=am (Zav HB.o)
           refine start_ (n:=26) (S:=fun w'=>w'.cell? ⟨qaa,0,none⟩=some (.bool jd)/\w'.cell? ⟨qaa,1,none⟩=some (.slice j6 qu.length j8)/\w'.cell? ⟨qaa,2,none⟩=some (.int .i64 jc)/\w'.cell? ⟨qad,0,none⟩=some (.bool a0_0)/\w'.cell? ⟨qad,1,none⟩=some (.slice A0_1 l0_1.length c0_1)/\w'.cell? ⟨qad,2,none⟩=some (.int .i64 a0_2)/\w'.cell? ⟨js,0,none⟩=some (.bool q8)/\w'.cell? ⟨js,1,none⟩=some (.slice jw qs.length jz)/\w'.cell? ⟨js,2,none⟩=some (.int .i64 q9)/\w'.cell? ⟨j2,0,none⟩=some (.bool q0)/\w'.cell? ⟨j2,1,none⟩=some (.slice j9 qm.length j5)/\w'.cell? ⟨j2,2,none⟩=some (.int .i64 qw)) (ds:=[]) #[false,false,false,false,false,false,false,false,false,false,false,false,false,false,false,false,false,false,false,false,false,false,false,false,false,false] (by kernel_rfl) rfl rfl ⟨k0 qg 0,k0 qg 1,k0 qg 2,k0 qe 0,k0 qe 1,k0 qe 2,k0 qf 0,k0 qf 1,k0 qf 2,k0 qd 0,k0 qd 1,k0 qd 2⟩ (fun hHeld=>?_);refine Zb6 Zg.tab12 Zg.bits12 (fun HT_ HW_=>?_)
           generalize qeq.drew=qhe at qa qb qc qi qe qd qg qf qh HB hHeld ⊢
           refine pu 0 (some 84) #[true,false,false,false,false,false,false,false,false,false,false,false,false,false,false,false,false,false,false,false,false,false,false,false,false,false] (h:=?_)
           refine pu 1 (some 85) #[true,true,false,false,false,false,false,false,false,false,false,false,false,false,false,false,false,false,false,false,false,false,false,false,false,false] (h:=?_)
           refine take_ (i:=2) (N:=some 86) (v:=?_) (a':=?_) #[true,true,true,false,false,false,false,false,false,false,false,false,false,false,false,false,false,false,false,false,false,false,false,false,false,false] rfl rfl (Zay HT_.out HW_.out (by kernel_rfl)) (fun _ _ _ h=>h) (Or.inl ⟨by rfl,?_⟩) hHeld ?_ ?_
           rotate_left
           ·rintro w' ⟨s0,s1,s2,s3,s4,s5,s6,s7,s8,s9,s10,s11⟩
            go_simp
            with_reducible rfl
           rotate_left
           ·exact pP
           refine take_ (i:=3) (N:=some 87) (v:=?_) (a':=?_) #[true,true,true,true,false,false,false,false,false,false,false,false,false,false,false,false,false,false,false,false,false,false,false,false,false,false] rfl rfl (Zay HT_.out HW_.out (by kernel_rfl)) (fun _ _ _ h=>h) (Or.inl ⟨by rfl,?_⟩) hHeld ?_ ?_
           rotate_left
           ·rintro w' ⟨s0,s1,s2,s3,s4,s5,s6,s7,s8,s9,s10,s11⟩
            go_simp
            with_reducible rfl
           rotate_left
           ·exact pP
           refine one_ (i:=4) (N:=some 88) #[true,true,true,true,true,false,false,false,false,false,false,false,false,false,false,false,false,false,false,false,false,false,false,false,false,false] rfl rfl (Zbh HT_.out (by kernel_rfl)) (by decide) (fun K hK=>?_)
           refine goes_ Tryz.func21 (by kernel_rfl) rfl #[.agg #[.bool jd,.slice j6 qu.length j8,.int .i64 jc],.agg #[.bool a0_0,.slice A0_1 l0_1.length c0_1,.int .i64 a0_2]] (by rfl) rfl rfl pA ?_
           with_reducible refine (Zk.calls qaf jd _ _ qu jc a0_0 _ _ l0_1 a0_2 true _ ?side1 ?side2 ?side3 ?side4 qbh.o).mono ?_
           (case side1=>exact Kd.Zn (Kd.Zc qb.o).2.2 pl)
           (case side2=>exact (Kd.Zc qb.o).2.1)
           (case side3=>exact cB HR0_1 HB)
           (case side4=>exact HC0_1.o)
           rintro e qhf ⟨rfl,hb⟩
           refine ⟨_,rfl,?_⟩
           replace qa:=rbl qa hb
           replace qb:=rbl qb hb
           replace qc:=rbl qc hb
           replace qi:=rbl qi hb
           replace qe:=bb qe hb
           replace qd:=bb qd hb
           replace qg:=bb qg hb
           replace qf:=bb qf hb
           replace qh:=bb qh hb
           replace HB:=bS hb
           refine hK.out _ _ ⟨k0 qg 0,k0 qg 1,k0 qg 2,k0 qe 0,k0 qe 1,k0 qe 2,k0 qf 0,k0 qf 1,k0 qf 2,k0 qd 0,k0 qd 1,k0 qd 2⟩ (fun hHeld=>?_)
           clear hK K
           refine norm_ (a':=?_) ?_ ?_
           rotate_left
           ·show Act.put _ (some 88) _=_
            exact pP
           refine pu 5 (some 89) #[true,true,true,true,true,true,false,false,false,false,false,false,false,false,false,false,false,false,false,false,false,false,false,false,false,false] (h:=?_)
           refine pu 6 (some 90) #[true,true,true,true,true,true,true,false,false,false,false,false,false,false,false,false,false,false,false,false,false,false,false,false,false,false] (h:=?_)
           refine pure_ (i:=7) (N:=some 91) (v:=undef) (a':=?_) #[true,true,true,true,true,true,true,true,false,false,false,false,false,false,false,false,false,false,false,false,false,false,false,false,false,false] rfl rfl (Zdd HT_.out (by kernel_rfl)) (fun _ _ _ h=>h) (Or.inr ⟨by rfl,rfl⟩) ?_ ?_
           rotate_left
           ·exact pP
           refine pure_ (i:=8) (N:=some 92) (v:=undef) (a':=?_) #[true,true,true,true,true,true,true,true,true,false,false,false,false,false,false,false,false,false,false,false,false,false,false,false,false,false] rfl rfl (Zdd HT_.out (by kernel_rfl)) (fun _ _ _ h=>h) (Or.inr ⟨by rfl,rfl⟩) ?_ ?_
           rotate_left
           ·exact pP
           refine pure_ (i:=9) (N:=some 93) (v:=undef) (a':=?_) #[true,true,true,true,true,true,true,true,true,true,false,false,false,false,false,false,false,false,false,false,false,false,false,false,false,false] rfl rfl (Zdd HT_.out (by kernel_rfl)) (fun _ _ _ h=>h) (Or.inr ⟨by rfl,rfl⟩) ?_ ?_
           rotate_left
           ·exact pP
           refine pure_ (i:=10) (N:=some 94) (v:=undef) (a':=?_) #[true,true,true,true,true,true,true,true,true,true,true,false,false,false,false,false,false,false,false,false,false,false,false,false,false,false] rfl rfl (Zdd HT_.out (by kernel_rfl)) (fun _ _ _ h=>h) (Or.inr ⟨by rfl,rfl⟩) ?_ ?_
           rotate_left
           ·exact pP
           refine pure_ (i:=11) (N:=some 95) (v:=undef) (a':=?_) #[true,true,true,true,true,true,true,true,true,true,true,true,false,false,false,false,false,false,false,false,false,false,false,false,false,false] rfl rfl (Zdd HT_.out (by kernel_rfl)) (fun _ _ _ h=>h) (Or.inr ⟨by rfl,rfl⟩) ?_ ?_
           rotate_left
           ·exact pP
           refine pure_ (i:=12) (N:=some 96) (v:=undef) (a':=?_) #[true,true,true,true,true,true,true,true,true,true,true,true,true,false,false,false,false,false,false,false,false,false,false,false,false,false] rfl rfl (Zdd HT_.out (by kernel_rfl)) (fun _ _ _ h=>h) (Or.inr ⟨by rfl,rfl⟩) ?_ ?_
           rotate_left
           ·exact pP
           refine pure_ (i:=13) (N:=some 97) (v:=undef) (a':=?_) #[true,true,true,true,true,true,true,true,true,true,true,true,true,true,false,false,false,false,false,false,false,false,false,false,false,false] rfl rfl (Zdd HT_.out (by kernel_rfl)) (fun _ _ _ h=>h) (Or.inr ⟨by rfl,rfl⟩) ?_ ?_
           rotate_left
           ·exact pP
           refine pu 14 (some 98) #[true,true,true,true,true,true,true,true,true,true,true,true,true,true,true,false,false,false,false,false,false,false,false,false,false,false] (h:=?_)
           refine pu 15 (some 99) #[true,true,true,true,true,true,true,true,true,true,true,true,true,true,true,true,false,false,false,false,false,false,false,false,false,false] (h:=?_)
           refine take_ (i:=16) (N:=some 100) (v:=?_) (a':=?_) #[true,true,true,true,true,true,true,true,true,true,true,true,true,true,true,true,true,false,false,false,false,false,false,false,false,false] rfl rfl (Zay HT_.out HW_.out (by kernel_rfl)) (fun _ _ _ h=>h) (Or.inl ⟨by rfl,?_⟩) hHeld ?_ ?_
           rotate_left
           ·rintro w' ⟨s0,s1,s2,s3,s4,s5,s6,s7,s8,s9,s10,s11⟩
            go_simp
            with_reducible rfl
           rotate_left
           ·exact pP
           refine take_ (i:=17) (N:=some 101) (v:=?_) (a':=?_) #[true,true,true,true,true,true,true,true,true,true,true,true,true,true,true,true,true,true,false,false,false,false,false,false,false,false] rfl rfl (Zay HT_.out HW_.out (by kernel_rfl)) (fun _ _ _ h=>h) (Or.inl ⟨by rfl,?_⟩) hHeld ?_ ?_
           rotate_left
           ·rintro w' ⟨s0,s1,s2,s3,s4,s5,s6,s7,s8,s9,s10,s11⟩
            go_simp
            with_reducible rfl
           rotate_left
           ·exact pP
           refine one_ (i:=18) (N:=some 102) #[true,true,true,true,true,true,true,true,true,true,true,true,true,true,true,true,true,true,true,false,false,false,false,false,false,false] rfl rfl (Zbh HT_.out (by kernel_rfl)) (by decide) (fun K hK=>?_)
           refine goes_ Tryz.func21 (by kernel_rfl) rfl #[.agg #[.bool q8,.slice jw qs.length jz,.int .i64 q9],.agg #[.bool q0,.slice j9 qm.length j5,.int .i64 qw]] (by rfl) rfl rfl pA ?_
           with_reducible refine (Zk.calls qaf q8 _ _ qs q9 q0 _ _ qm qw true _ ?side1 ?side2 ?side3 ?side4 qbi.o).mono ?_
           (case side1=>exact Kd.Zn (Kd.Zc qc.o).2.2 pl)
           (case side2=>exact (Kd.Zc qc.o).2.1)
           (case side3=>exact Kd.Zn (Kd.Zc qa.o).2.2 pl)
           (case side4=>exact (Kd.Zc qa.o).2.1)
           rintro e qhg ⟨rfl,hb⟩
           refine ⟨_,rfl,?_⟩
           replace qa:=rbl qa hb
           replace qb:=rbl qb hb
           replace qc:=rbl qc hb
           replace qi:=rbl qi hb
           replace qe:=bb qe hb
           replace qd:=bb qd hb
           replace qg:=bb qg hb
           replace qf:=bb qf hb
           replace qh:=bb qh hb
           replace HB:=bS hb
           refine hK.out _ _ ⟨k0 qg 0,k0 qg 1,k0 qg 2,k0 qe 0,k0 qe 1,k0 qe 2,k0 qf 0,k0 qf 1,k0 qf 2,k0 qd 0,k0 qd 1,k0 qd 2⟩ (fun hHeld=>?_)
           clear hK K
           refine norm_ (a':=?_) ?_ ?_
           rotate_left
           ·show Act.put _ (some 102) _=_
            exact pP
           refine pu 19 (some 103) #[true,true,true,true,true,true,true,true,true,true,true,true,true,true,true,true,true,true,true,true,false,false,false,false,false,false] (h:=?_)
           refine pure_ (i:=20) (N:=some 104) (v:=undef) (a':=?_) #[true,true,true,true,true,true,true,true,true,true,true,true,true,true,true,true,true,true,true,true,true,false,false,false,false,false] rfl rfl (Zdd HT_.out (by kernel_rfl)) (fun _ _ _ h=>h) (Or.inr ⟨by rfl,rfl⟩) ?_ ?_
           rotate_left
           ·exact pP
           refine pure_ (i:=21) (N:=some 105) (v:=undef) (a':=?_) #[true,true,true,true,true,true,true,true,true,true,true,true,true,true,true,true,true,true,true,true,true,true,false,false,false,false] rfl rfl (Zdd HT_.out (by kernel_rfl)) (fun _ _ _ h=>h) (Or.inr ⟨by rfl,rfl⟩) ?_ ?_
           rotate_left
           ·exact pP
           refine pure_ (i:=22) (N:=some 106) (v:=undef) (a':=?_) #[true,true,true,true,true,true,true,true,true,true,true,true,true,true,true,true,true,true,true,true,true,true,true,false,false,false] rfl rfl (Zdd HT_.out (by kernel_rfl)) (fun _ _ _ h=>h) (Or.inr ⟨by rfl,rfl⟩) ?_ ?_
           rotate_left
           ·exact pP
           refine pu 23 (some 107) #[true,true,true,true,true,true,true,true,true,true,true,true,true,true,true,true,true,true,true,true,true,true,true,true,false,false] (h:=?_)
           refine pu 24 (some 108) #[true,true,true,true,true,true,true,true,true,true,true,true,true,true,true,true,true,true,true,true,true,true,true,true,true,false] (h:=?_)
           refine pu 25 (some 2) #[true,true,true,true,true,true,true,true,true,true,true,true,true,true,true,true,true,true,true,true,true,true,true,true,true,true] (h:=?_)
           refine done_ (Zde HT_.out (by kernel_rfl)) ?_
           try go_wp2
           go_ret
           exact ⟨pE,pB⟩
          ·replace qba:=Bool.eq_false_iff.mpr qba
           subst qba
           rw [if_neg (show ¬ (false=true) by decide)] at H
           obtain ⟨qaz,qbr,H⟩:=ob H
           obtain rfl:=Option.some.inj H
           have qct:=qp.o
           have qd5:=qj.o
           have qcu:=qz.o
           have qd6:=q1.o
           have qcv:=qv.o
           have qd7:=q2.o
           have qcw:=qq.o
           have qd8:=q7.o
           obtain ⟨_,_,_,_,_,_⟩:=cEc qd.o
           have qcx:=qk.o
           have qd9:=qr.o
           have qcy:=ql.o
           have qea:=qt.o
           have qcz:=qo.o
           have qeb:=q6.o
           obtain ⟨_,_,_,_,_,_⟩:=cEc qe.o
           try go_wp2_with (first|(refine gL (some 83) Tryz.func21 #[.agg #[.bool q0,.slice j9 qm.length j5,.int .i64 qw],.agg #[.bool a0_0,.slice A0_1 l0_1.length c0_1,.int .i64 a0_2]] (h:=?_);(with_reducible refine (Zk.calls qaf q0 _ _ qm qw a0_0 _ _ l0_1 a0_2 true _ ?side1 ?side2 ?side3 ?side4 qa6.o).mono ?_);(case side1=>exact Kd.Zn (Kd.Zc qa.o).2.2 pl);(case side2=>exact (Kd.Zc qa.o).2.1);(case side3=>exact cB HR0_1 HB);(case side4=>exact HC0_1.o);rintro e qer ⟨rfl,hb⟩;refine ⟨_,rfl,?_⟩;replace qa:=rbl qa hb;replace qb:=rbl qb hb;replace qc:=rbl qc hb;replace qi:=rbl qi hb;replace qe:=bb qe hb;replace qd:=bb qd hb;replace qg:=bb qg hb;replace qf:=bb qf hb;replace qh:=bb qh hb;replace HB:=bS hb))
           replace qa:=am (Kd.Zc1 qa.o)
           replace qb:=am (Kd.Zc1 qb.o)
           replace qc:=am (Kd.Zc1 qc.o)
           replace qi:=am (Kd.Zc1 qi.o)
           replace qe:=am (Zar qe.o)
           replace qd:=am (Zar qd.o)
           replace qg:=am (Zar qg.o)
           replace qf:=am (Zar qf.o)
           replace qh:=am (Zar qh.o)
           replace HB:=am (Zav HB.o)
           refine start_ (n:=26) (S:=fun w'=>w'.cell? ⟨qaa,0,none⟩=some (.bool jd)/\w'.cell? ⟨qaa,1,none⟩=some (.slice j6 qu.length j8)/\w'.cell? ⟨qaa,2,none⟩=some (.int .i64 jc)/\w'.cell? ⟨qad,0,none⟩=some (.bool a0_0)/\w'.cell? ⟨qad,1,none⟩=some (.slice A0_1 l0_1.length c0_1)/\w'.cell? ⟨qad,2,none⟩=some (.int .i64 a0_2)/\w'.cell? ⟨js,0,none⟩=some (.bool q8)/\w'.cell? ⟨js,1,none⟩=some (.slice jw qs.length jz)/\w'.cell? ⟨js,2,none⟩=some (.int .i64 q9)/\w'.cell? ⟨j2,0,none⟩=some (.bool q0)/\w'.cell? ⟨j2,1,none⟩=some (.slice j9 qm.length j5)/\w'.cell? ⟨j2,2,none⟩=some (.int .i64 qw)) (ds:=[]) #[false,false,false,false,false,false,false,false,false,false,false,false,false,false,false,false,false,false,false,false,false,false,false,false,false,false] (by kernel_rfl) rfl rfl ⟨k0 qg 0,k0 qg 1,k0 qg 2,k0 qe 0,k0 qe 1,k0 qe 2,k0 qf 0,k0 qf 1,k0 qf 2,k0 qd 0,k0 qd 1,k0 qd 2⟩ (fun hHeld=>?_);refine Zb6 Zg.tab12 Zg.bits12 (fun HT_ HW_=>?_)
           generalize qer.drew=qhh at qa qb qc qi qe qd qg qf qh HB hHeld ⊢
           refine pu 0 (some 84) #[true,false,false,false,false,false,false,false,false,false,false,false,false,false,false,false,false,false,false,false,false,false,false,false,false,false] (h:=?_)
           refine pu 1 (some 85) #[true,true,false,false,false,false,false,false,false,false,false,false,false,false,false,false,false,false,false,false,false,false,false,false,false,false] (h:=?_)
           refine take_ (i:=2) (N:=some 86) (v:=?_) (a':=?_) #[true,true,true,false,false,false,false,false,false,false,false,false,false,false,false,false,false,false,false,false,false,false,false,false,false,false] rfl rfl (Zay HT_.out HW_.out (by kernel_rfl)) (fun _ _ _ h=>h) (Or.inl ⟨by rfl,?_⟩) hHeld ?_ ?_
           rotate_left
           ·rintro w' ⟨s0,s1,s2,s3,s4,s5,s6,s7,s8,s9,s10,s11⟩
            go_simp
            with_reducible rfl
           rotate_left
           ·exact pP
           refine take_ (i:=3) (N:=some 87) (v:=?_) (a':=?_) #[true,true,true,true,false,false,false,false,false,false,false,false,false,false,false,false,false,false,false,false,false,false,false,false,false,false] rfl rfl (Zay HT_.out HW_.out (by kernel_rfl)) (fun _ _ _ h=>h) (Or.inl ⟨by rfl,?_⟩) hHeld ?_ ?_
           rotate_left
           ·rintro w' ⟨s0,s1,s2,s3,s4,s5,s6,s7,s8,s9,s10,s11⟩
            go_simp
            with_reducible rfl
           rotate_left
           ·exact pP
           refine one_ (i:=4) (N:=some 88) #[true,true,true,true,true,false,false,false,false,false,false,false,false,false,false,false,false,false,false,false,false,false,false,false,false,false] rfl rfl (Zbh HT_.out (by kernel_rfl)) (by decide) (fun K hK=>?_)
           refine goes_ Tryz.func21 (by kernel_rfl) rfl #[.agg #[.bool jd,.slice j6 qu.length j8,.int .i64 jc],.agg #[.bool a0_0,.slice A0_1 l0_1.length c0_1,.int .i64 a0_2]] (by rfl) rfl rfl pA ?_
           with_reducible refine (Zk.calls qaf jd _ _ qu jc a0_0 _ _ l0_1 a0_2 true _ ?side1 ?side2 ?side3 ?side4 qbh.o).mono ?_
           (case side1=>exact Kd.Zn (Kd.Zc qb.o).2.2 pl)
           (case side2=>exact (Kd.Zc qb.o).2.1)
           (case side3=>exact cB HR0_1 HB)
           (case side4=>exact HC0_1.o)
           rintro e qhi ⟨rfl,hb⟩
           refine ⟨_,rfl,?_⟩
           replace qa:=rbl qa hb
           replace qb:=rbl qb hb
           replace qc:=rbl qc hb
           replace qi:=rbl qi hb
           replace qe:=bb qe hb
           replace qd:=bb qd hb
           replace qg:=bb qg hb
           replace qf:=bb qf hb
           replace qh:=bb qh hb
           replace HB:=bS hb
           refine hK.out _ _ ⟨k0 qg 0,k0 qg 1,k0 qg 2,k0 qe 0,k0 qe 1,k0 qe 2,k0 qf 0,k0 qf 1,k0 qf 2,k0 qd 0,k0 qd 1,k0 qd 2⟩ (fun hHeld=>?_)
           clear hK K
           refine norm_ (a':=?_) ?_ ?_
           rotate_left
           ·show Act.put _ (some 88) _=_
            exact pP
           refine pu 5 (some 89) #[true,true,true,true,true,true,false,false,false,false,false,false,false,false,false,false,false,false,false,false,false,false,false,false,false,false] (h:=?_)
           refine pu 6 (some 90) #[true,true,true,true,true,true,true,false,false,false,false,false,false,false,false,false,false,false,false,false,false,false,false,false,false,false] (h:=?_)
           refine pure_ (i:=7) (N:=some 91) (v:=undef) (a':=?_) #[true,true,true,true,true,true,true,true,false,false,false,false,false,false,false,false,false,false,false,false,false,false,false,false,false,false] rfl rfl (Zdd HT_.out (by kernel_rfl)) (fun _ _ _ h=>h) (Or.inr ⟨by rfl,rfl⟩) ?_ ?_
           rotate_left
           ·exact pP
           refine pure_ (i:=8) (N:=some 92) (v:=undef) (a':=?_) #[true,true,true,true,true,true,true,true,true,false,false,false,false,false,false,false,false,false,false,false,false,false,false,false,false,false] rfl rfl (Zdd HT_.out (by kernel_rfl)) (fun _ _ _ h=>h) (Or.inr ⟨by rfl,rfl⟩) ?_ ?_
           rotate_left
           ·exact pP
           refine pure_ (i:=9) (N:=some 93) (v:=undef) (a':=?_) #[true,true,true,true,true,true,true,true,true,true,false,false,false,false,false,false,false,false,false,false,false,false,false,false,false,false] rfl rfl (Zdd HT_.out (by kernel_rfl)) (fun _ _ _ h=>h) (Or.inr ⟨by rfl,rfl⟩) ?_ ?_
           rotate_left
           ·exact pP
           refine pure_ (i:=10) (N:=some 94) (v:=undef) (a':=?_) #[true,true,true,true,true,true,true,true,true,true,true,false,false,false,false,false,false,false,false,false,false,false,false,false,false,false] rfl rfl (Zdd HT_.out (by kernel_rfl)) (fun _ _ _ h=>h) (Or.inr ⟨by rfl,rfl⟩) ?_ ?_
           rotate_left
           ·exact pP
           refine pure_ (i:=11) (N:=some 95) (v:=undef) (a':=?_) #[true,true,true,true,true,true,true,true,true,true,true,true,false,false,false,false,false,false,false,false,false,false,false,false,false,false] rfl rfl (Zdd HT_.out (by kernel_rfl)) (fun _ _ _ h=>h) (Or.inr ⟨by rfl,rfl⟩) ?_ ?_
           rotate_left
           ·exact pP
           refine pure_ (i:=12) (N:=some 96) (v:=undef) (a':=?_) #[true,true,true,true,true,true,true,true,true,true,true,true,true,false,false,false,false,false,false,false,false,false,false,false,false,false] rfl rfl (Zdd HT_.out (by kernel_rfl)) (fun _ _ _ h=>h) (Or.inr ⟨by rfl,rfl⟩) ?_ ?_
           rotate_left
           ·exact pP
           refine pure_ (i:=13) (N:=some 97) (v:=undef) (a':=?_) #[true,true,true,true,true,true,true,true,true,true,true,true,true,true,false,false,false,false,false,false,false,false,false,false,false,false] rfl rfl (Zdd HT_.out (by kernel_rfl)) (fun _ _ _ h=>h) (Or.inr ⟨by rfl,rfl⟩) ?_ ?_
           rotate_left
           ·exact pP
           refine pu 14 (some 98) #[true,true,true,true,true,true,true,true,true,true,true,true,true,true,true,false,false,false,false,false,false,false,false,false,false,false] (h:=?_)
           refine pu 15 (some 99) #[true,true,true,true,true,true,true,true,true,true,true,true,true,true,true,true,false,false,false,false,false,false,false,false,false,false] (h:=?_)
           refine take_ (i:=16) (N:=some 100) (v:=?_) (a':=?_) #[true,true,true,true,true,true,true,true,true,true,true,true,true,true,true,true,true,false,false,false,false,false,false,false,false,false] rfl rfl (Zay HT_.out HW_.out (by kernel_rfl)) (fun _ _ _ h=>h) (Or.inl ⟨by rfl,?_⟩) hHeld ?_ ?_
           rotate_left
           ·rintro w' ⟨s0,s1,s2,s3,s4,s5,s6,s7,s8,s9,s10,s11⟩
            go_simp
            with_reducible rfl
           rotate_left
           ·exact pP
           refine take_ (i:=17) (N:=some 101) (v:=?_) (a':=?_) #[true,true,true,true,true,true,true,true,true,true,true,true,true,true,true,true,true,true,false,false,false,false,false,false,false,false] rfl rfl (Zay HT_.out HW_.out (by kernel_rfl)) (fun _ _ _ h=>h) (Or.inl ⟨by rfl,?_⟩) hHeld ?_ ?_
           rotate_left
           ·rintro w' ⟨s0,s1,s2,s3,s4,s5,s6,s7,s8,s9,s10,s11⟩
            go_simp
            with_reducible rfl
           rotate_left
           ·exact pP
           refine one_ (i:=18) (N:=some 102) #[true,true,true,true,true,true,true,true,true,true,true,true,true,true,true,true,true,true,true,false,false,false,false,false,false,false] rfl rfl (Zbh HT_.out (by kernel_rfl)) (by decide) (fun K hK=>?_)
           refine goes_ Tryz.func21 (by kernel_rfl) rfl #[.agg #[.bool q8,.slice jw qs.length jz,.int .i64 q9],.agg #[.bool q0,.slice j9 qm.length j5,.int .i64 qw]] (by rfl) rfl rfl pA ?_
           with_reducible refine (Zk.calls qaf q8 _ _ qs q9 q0 _ _ qm qw false _ ?side1 ?side2 ?side3 ?side4 qbi.o).mono ?_
           (case side1=>exact Kd.Zn (Kd.Zc qc.o).2.2 pl)
           (case side2=>exact (Kd.Zc qc.o).2.1)
           (case side3=>exact Kd.Zn (Kd.Zc qa.o).2.2 pl)
           (case side4=>exact (Kd.Zc qa.o).2.1)
           rintro e qhj ⟨rfl,hb⟩
           refine ⟨_,rfl,?_⟩
           replace qa:=rbl qa hb
           replace qb:=rbl qb hb
           replace qc:=rbl qc hb
           replace qi:=rbl qi hb
           replace qe:=bb qe hb
           replace qd:=bb qd hb
           replace qg:=bb qg hb
           replace qf:=bb qf hb
           replace qh:=bb qh hb
           replace HB:=bS hb
           refine hK.out _ _ ⟨k0 qg 0,k0 qg 1,k0 qg 2,k0 qe 0,k0 qe 1,k0 qe 2,k0 qf 0,k0 qf 1,k0 qf 2,k0 qd 0,k0 qd 1,k0 qd 2⟩ (fun hHeld=>?_)
           clear hK K
           refine norm_ (a':=?_) ?_ ?_
           rotate_left
           ·show Act.put _ (some 102) _=_
            exact pP
           refine pu 19 (some 103) #[true,true,true,true,true,true,true,true,true,true,true,true,true,true,true,true,true,true,true,true,false,false,false,false,false,false] (h:=?_)
           refine take_ (i:=20) (N:=some 104) (v:=?_) (a':=?_) #[true,true,true,true,true,true,true,true,true,true,true,true,true,true,true,true,true,true,true,true,true,false,false,false,false,false] rfl rfl (Zay HT_.out HW_.out (by kernel_rfl)) (fun _ _ _ h=>h) (Or.inl ⟨by rfl,?_⟩) hHeld ?_ ?_
           rotate_left
           ·rintro w' ⟨s0,s1,s2,s3,s4,s5,s6,s7,s8,s9,s10,s11⟩
            go_simp
            with_reducible rfl
           rotate_left
           ·exact pP
           refine take_ (i:=21) (N:=some 105) (v:=?_) (a':=?_) #[true,true,true,true,true,true,true,true,true,true,true,true,true,true,true,true,true,true,true,true,true,true,false,false,false,false] rfl rfl (Zay HT_.out HW_.out (by kernel_rfl)) (fun _ _ _ h=>h) (Or.inl ⟨by rfl,?_⟩) hHeld ?_ ?_
           rotate_left
           ·rintro w' ⟨s0,s1,s2,s3,s4,s5,s6,s7,s8,s9,s10,s11⟩
            go_simp
            with_reducible rfl
           rotate_left
           ·exact pP
           refine one_ (i:=22) (N:=some 106) #[true,true,true,true,true,true,true,true,true,true,true,true,true,true,true,true,true,true,true,true,true,true,true,false,false,false] rfl rfl (Zbh HT_.out (by kernel_rfl)) (by decide) (fun K hK=>?_)
           refine goes_ Tryz.func21 (by kernel_rfl) rfl #[.agg #[.bool q8,.slice jw qs.length jz,.int .i64 q9],.agg #[.bool jd,.slice j6 qu.length j8,.int .i64 jc]] (by rfl) rfl rfl pA ?_
           with_reducible refine (Zk.calls qaf q8 _ _ qs q9 jd _ _ qu jc qaz _ ?side1 ?side2 ?side3 ?side4 qbr.o).mono ?_
           (case side1=>exact Kd.Zn (Kd.Zc qc.o).2.2 pl)
           (case side2=>exact (Kd.Zc qc.o).2.1)
           (case side3=>exact Kd.Zn (Kd.Zc qb.o).2.2 pl)
           (case side4=>exact (Kd.Zc qb.o).2.1)
           rintro e qhk ⟨rfl,hb⟩
           refine ⟨_,rfl,?_⟩
           replace qa:=rbl qa hb
           replace qb:=rbl qb hb
           replace qc:=rbl qc hb
           replace qi:=rbl qi hb
           replace qe:=bb qe hb
           replace qd:=bb qd hb
           replace qg:=bb qg hb
           replace qf:=bb qf hb
           replace qh:=bb qh hb
           replace HB:=bS hb
           refine hK.out _ _ ⟨k0 qg 0,k0 qg 1,k0 qg 2,k0 qe 0,k0 qe 1,k0 qe 2,k0 qf 0,k0 qf 1,k0 qf 2,k0 qd 0,k0 qd 1,k0 qd 2⟩ (fun hHeld=>?_)
           clear hK K
           refine norm_ (a':=?_) ?_ ?_
           rotate_left
           ·show Act.put _ (some 106) _=_
            exact pP
           refine pu 23 (some 107) #[true,true,true,true,true,true,true,true,true,true,true,true,true,true,true,true,true,true,true,true,true,true,true,true,false,false] (h:=?_)
           refine pu 24 (some 108) #[true,true,true,true,true,true,true,true,true,true,true,true,true,true,true,true,true,true,true,true,true,true,true,true,true,false] (h:=?_)
           refine pu 25 (some 2) #[true,true,true,true,true,true,true,true,true,true,true,true,true,true,true,true,true,true,true,true,true,true,true,true,true,true] (h:=?_)
           refine done_ (Zde HT_.out (by kernel_rfl)) ?_
           try go_wp2
           go_ret
           exact ⟨pE,pB⟩
         ·replace qa9:=Bool.eq_false_iff.mpr qa9
          subst qa9
          rw [if_neg (show ¬ (false=true) by decide)] at H
          exact absurd ((Option.some.inj H).trans hr) Bool.false_ne_true
        ·replace qa8:=Bool.eq_false_iff.mpr qa8
         subst qa8
         rw [if_neg (show ¬ (false=true) by decide)] at H
         obtain ⟨⟨qan,qao,qap⟩,qbj,H⟩:=ob H;(try dsimp only at H)
         obtain ⟨qa0,qbk,H⟩:=ob H
         by_cases qbb:qa0=true
         ·subst qbb
          rw [if_pos rfl] at H
          obtain ⟨qa1,qbl,H⟩:=ob H
          by_cases qbc:qa1=true
          ·subst qbc
           rw [if_pos rfl] at H
           obtain rfl:=Option.some.inj H
           have qc0:=qp.o
           have qec:=qj.o
           have qc1:=qz.o
           have qed:=q1.o
           have qc2:=qv.o
           have qee:=q2.o
           have qc3:=qq.o
           have qef:=q7.o
           obtain ⟨_,_,_,_,_,_⟩:=cEc qd.o
           have qc4:=qk.o
           have qeg:=qr.o
           have qc5:=ql.o
           have qeh:=qt.o
           have qc6:=qo.o
           have qei:=q6.o
           obtain ⟨_,_,_,_,_,_⟩:=cEc qe.o
           try go_wp2_with (first|(refine gL (some 83) Tryz.func21 #[.agg #[.bool q0,.slice j9 qm.length j5,.int .i64 qw],.agg #[.bool a0_0,.slice A0_1 l0_1.length c0_1,.int .i64 a0_2]] (h:=?_);(with_reducible refine (Zk.calls qaf q0 _ _ qm qw a0_0 _ _ l0_1 a0_2 false _ ?side1 ?side2 ?side3 ?side4 qa6.o).mono ?_);(case side1=>exact Kd.Zn (Kd.Zc qa.o).2.2 pl);(case side2=>exact (Kd.Zc qa.o).2.1);(case side3=>exact cB HR0_1 HB);(case side4=>exact HC0_1.o);rintro e qes ⟨rfl,hb⟩;refine ⟨_,rfl,?_⟩;replace qa:=rbl qa hb;replace qb:=rbl qb hb;replace qc:=rbl qc hb;replace qi:=rbl qi hb;replace qe:=bb qe hb;replace qd:=bb qd hb;replace qg:=bb qg hb;replace qf:=bb qf hb;replace qh:=bb qh hb;replace HB:=bS hb))
           replace qa:=am (Kd.Zc1 qa.o)
           replace qb:=am (Kd.Zc1 qb.o)
           replace qc:=am (Kd.Zc1 qc.o)
           replace qi:=am (Kd.Zc1 qi.o)
           replace qe:=am (Zar qe.o)
           replace qd:=am (Zar qd.o)
           replace qg:=am (Zar qg.o)
           replace qf:=am (Zar qf.o)
           replace qh:=am (Zar qh.o)
           replace HB:=am (Zav HB.o)
           refine start_ (n:=26) (S:=fun w'=>w'.cell? ⟨q3,0,none⟩=some (.bool qx)/\w'.cell? ⟨q3,1,none⟩=some (.slice ja qn.length jb)/\w'.cell? ⟨q3,2,none⟩=some (.int .i64 qy)/\w'.cell? ⟨js,0,none⟩=some (.bool q8)/\w'.cell? ⟨js,1,none⟩=some (.slice jw qs.length jz)/\w'.cell? ⟨js,2,none⟩=some (.int .i64 q9)/\w'.cell? ⟨j2,0,none⟩=some (.bool q0)/\w'.cell? ⟨j2,1,none⟩=some (.slice j9 qm.length j5)/\w'.cell? ⟨j2,2,none⟩=some (.int .i64 qw)) (ds:=[]) #[false,false,false,false,false,false,false,false,false,false,false,false,false,false,false,false,false,false,false,false,false,false,false,false,false,false] (by kernel_rfl) rfl rfl ⟨k0 qh 0,k0 qh 1,k0 qh 2,k0 qf 0,k0 qf 1,k0 qf 2,k0 qd 0,k0 qd 1,k0 qd 2⟩ (fun hHeld=>?_);refine Zb6 Zg.tab12 Zg.bits12 (fun HT_ HW_=>?_)
           generalize qes.drew=qhl at qa qb qc qi qe qd qg qf qh HB hHeld ⊢
           refine pu 0 (some 84) #[true,false,false,false,false,false,false,false,false,false,false,false,false,false,false,false,false,false,false,false,false,false,false,false,false,false] (h:=?_)
           refine pu 1 (some 85) #[true,true,false,false,false,false,false,false,false,false,false,false,false,false,false,false,false,false,false,false,false,false,false,false,false,false] (h:=?_)
           refine pure_ (i:=2) (N:=some 86) (v:=undef) (a':=?_) #[true,true,true,false,false,false,false,false,false,false,false,false,false,false,false,false,false,false,false,false,false,false,false,false,false,false] rfl rfl (Zdd HT_.out (by kernel_rfl)) (fun _ _ _ h=>h) (Or.inr ⟨by rfl,rfl⟩) ?_ ?_
           rotate_left
           ·exact pP
           refine pure_ (i:=3) (N:=some 87) (v:=undef) (a':=?_) #[true,true,true,true,false,false,false,false,false,false,false,false,false,false,false,false,false,false,false,false,false,false,false,false,false,false] rfl rfl (Zdd HT_.out (by kernel_rfl)) (fun _ _ _ h=>h) (Or.inr ⟨by rfl,rfl⟩) ?_ ?_
           rotate_left
           ·exact pP
           refine pure_ (i:=4) (N:=some 88) (v:=undef) (a':=?_) #[true,true,true,true,true,false,false,false,false,false,false,false,false,false,false,false,false,false,false,false,false,false,false,false,false,false] rfl rfl (Zdd HT_.out (by kernel_rfl)) (fun _ _ _ h=>h) (Or.inr ⟨by rfl,rfl⟩) ?_ ?_
           rotate_left
           ·exact pP
           refine pu 5 (some 89) #[true,true,true,true,true,true,false,false,false,false,false,false,false,false,false,false,false,false,false,false,false,false,false,false,false,false] (h:=?_)
           refine pu 6 (some 90) #[true,true,true,true,true,true,true,false,false,false,false,false,false,false,false,false,false,false,false,false,false,false,false,false,false,false] (h:=?_)
           refine pu 7 (some 91) #[true,true,true,true,true,true,true,true,false,false,false,false,false,false,false,false,false,false,false,false,false,false,false,false,false,false] (h:=?_)
           refine pu 8 (some 92) #[true,true,true,true,true,true,true,true,true,false,false,false,false,false,false,false,false,false,false,false,false,false,false,false,false,false] (h:=?_)
           refine pu 9 (some 93) #[true,true,true,true,true,true,true,true,true,true,false,false,false,false,false,false,false,false,false,false,false,false,false,false,false,false] (h:=?_)
           refine take_ (i:=10) (N:=some 94) (v:=?_) (a':=?_) #[true,true,true,true,true,true,true,true,true,true,true,false,false,false,false,false,false,false,false,false,false,false,false,false,false,false] rfl rfl (Zay HT_.out HW_.out (by kernel_rfl)) (fun _ _ _ h=>h) (Or.inl ⟨by rfl,?_⟩) hHeld ?_ ?_
           rotate_left
           ·rintro w' ⟨s0,s1,s2,s3,s4,s5,s6,s7,s8⟩
            go_simp
            with_reducible rfl
           rotate_left
           ·exact pP
           refine one_ (i:=11) (N:=some 95) #[true,true,true,true,true,true,true,true,true,true,true,true,false,false,false,false,false,false,false,false,false,false,false,false,false,false] rfl rfl (Zbh HT_.out (by kernel_rfl)) (by decide) (fun K hK=>?_)
           refine goes_ Tryz.func29 (by kernel_rfl) rfl #[.int .i64 1] (by rfl) rfl rfl pA ?_
           with_reducible refine (Zcx.calls qaf 1 qan qao qap _ qbj.o).mono ?_
           rintro e qhm ⟨qbq,rfl,ho0,hb⟩
           refine ⟨_,rfl,?_⟩
           have ji:=am (Kd.Zo (Kd.Zs (Kd.Zs (Kd.Zs (Kd.Zs ho0 (Kd.R_lt (Kd.Za qa.o pl))) (Kd.R_lt (Kd.Za qb.o pl))) (Kd.R_lt (Kd.Za qc.o pl))) (Kd.R_lt (Kd.Za qi.o pl))) (Zd pB))
           replace qa:=reR qa ho0 hb
           replace qb:=reR qb ho0 hb
           replace qc:=reR qc ho0 hb
           replace qi:=reR qi ho0 hb
           replace qe:=bb qe hb
           replace qd:=bb qd hb
           replace qg:=bb qg hb
           replace qf:=bb qf hb
           replace qh:=bb qh hb
           replace HB:=bS hb
           obtain ⟨qbm,qbo,qbd⟩:=Kd.Zj ji.o
           (first|subst qbd|(injection qbd with f1_ f2_ f3_;have f4_:=f1_.symm;have f5_:=f3_.symm;clear f1_ f2_ f3_;subst f4_;subst f5_))
           refine hK.out _ _ ⟨k0 qh 0,k0 qh 1,k0 qh 2,k0 qf 0,k0 qf 1,k0 qf 2,k0 qd 0,k0 qd 1,k0 qd 2⟩ (fun hHeld=>?_)
           clear hK K
           refine norm_ (a':=?_) ?_ ?_
           rotate_left
           ·show Act.put _ (some 95) _=_
            exact pP
           refine one_ (i:=12) (N:=some 96) #[true,true,true,true,true,true,true,true,true,true,true,true,true,false,false,false,false,false,false,false,false,false,false,false,false,false] rfl rfl (Zbh HT_.out (by kernel_rfl)) (by decide) (fun K hK=>?_)
           refine goes_ Tryz.func21 (by kernel_rfl) rfl #[.agg #[.bool qx,.slice ja qn.length jb,.int .i64 qy],.agg #[.bool qan,.slice qbm qao.length qbo,.int .i64 qap]] (by rfl) rfl rfl pA ?_
           with_reducible refine (Zk.calls qaf qx _ _ qn qy qan _ _ qao qap true _ ?side1 ?side2 ?side3 ?side4 qbk.o).mono ?_
           (case side1=>exact Kd.Zn (Kd.Zc qi.o).2.2 pl)
           (case side2=>exact (Kd.Zc qi.o).2.1)
           (case side3=>exact Kd.Zn (Kd.Zc ji.o).2.2 pl)
           (case side4=>exact (Kd.Zc ji.o).2.1)
           rintro e qhn ⟨rfl,hb⟩
           refine ⟨_,rfl,?_⟩
           replace qa:=rbl qa hb
           replace qb:=rbl qb hb
           replace qc:=rbl qc hb
           replace qi:=rbl qi hb
           replace ji:=rbl ji hb
           replace qe:=bb qe hb
           replace qd:=bb qd hb
           replace qg:=bb qg hb
           replace qf:=bb qf hb
           replace qh:=bb qh hb
           replace HB:=bS hb
           refine hK.out _ _ ⟨k0 qh 0,k0 qh 1,k0 qh 2,k0 qf 0,k0 qf 1,k0 qf 2,k0 qd 0,k0 qd 1,k0 qd 2⟩ (fun hHeld=>?_)
           clear hK K
           refine norm_ (a':=?_) ?_ ?_
           rotate_left
           ·show Act.put _ (some 96) _=_
            exact pP
           refine pu 13 (some 97) #[true,true,true,true,true,true,true,true,true,true,true,true,true,true,false,false,false,false,false,false,false,false,false,false,false,false] (h:=?_)
           refine pu 14 (some 98) #[true,true,true,true,true,true,true,true,true,true,true,true,true,true,true,false,false,false,false,false,false,false,false,false,false,false] (h:=?_)
           refine pu 15 (some 99) #[true,true,true,true,true,true,true,true,true,true,true,true,true,true,true,true,false,false,false,false,false,false,false,false,false,false] (h:=?_)
           refine take_ (i:=16) (N:=some 100) (v:=?_) (a':=?_) #[true,true,true,true,true,true,true,true,true,true,true,true,true,true,true,true,true,false,false,false,false,false,false,false,false,false] rfl rfl (Zay HT_.out HW_.out (by kernel_rfl)) (fun _ _ _ h=>h) (Or.inl ⟨by rfl,?_⟩) hHeld ?_ ?_
           rotate_left
           ·rintro w' ⟨s0,s1,s2,s3,s4,s5,s6,s7,s8⟩
            go_simp
            with_reducible rfl
           rotate_left
           ·exact pP
           refine take_ (i:=17) (N:=some 101) (v:=?_) (a':=?_) #[true,true,true,true,true,true,true,true,true,true,true,true,true,true,true,true,true,true,false,false,false,false,false,false,false,false] rfl rfl (Zay HT_.out HW_.out (by kernel_rfl)) (fun _ _ _ h=>h) (Or.inl ⟨by rfl,?_⟩) hHeld ?_ ?_
           rotate_left
           ·rintro w' ⟨s0,s1,s2,s3,s4,s5,s6,s7,s8⟩
            go_simp
            with_reducible rfl
           rotate_left
           ·exact pP
           refine one_ (i:=18) (N:=some 102) #[true,true,true,true,true,true,true,true,true,true,true,true,true,true,true,true,true,true,true,false,false,false,false,false,false,false] rfl rfl (Zbh HT_.out (by kernel_rfl)) (by decide) (fun K hK=>?_)
           refine goes_ Tryz.func21 (by kernel_rfl) rfl #[.agg #[.bool q8,.slice jw qs.length jz,.int .i64 q9],.agg #[.bool q0,.slice j9 qm.length j5,.int .i64 qw]] (by rfl) rfl rfl pA ?_
           with_reducible refine (Zk.calls qaf q8 _ _ qs q9 q0 _ _ qm qw true _ ?side1 ?side2 ?side3 ?side4 qbl.o).mono ?_
           (case side1=>exact Kd.Zn (Kd.Zc qc.o).2.2 pl)
           (case side2=>exact (Kd.Zc qc.o).2.1)
           (case side3=>exact Kd.Zn (Kd.Zc qa.o).2.2 pl)
           (case side4=>exact (Kd.Zc qa.o).2.1)
           rintro e qho ⟨rfl,hb⟩
           refine ⟨_,rfl,?_⟩
           replace qa:=rbl qa hb
           replace qb:=rbl qb hb
           replace qc:=rbl qc hb
           replace qi:=rbl qi hb
           replace ji:=rbl ji hb
           replace qe:=bb qe hb
           replace qd:=bb qd hb
           replace qg:=bb qg hb
           replace qf:=bb qf hb
           replace qh:=bb qh hb
           replace HB:=bS hb
           refine hK.out _ _ ⟨k0 qh 0,k0 qh 1,k0 qh 2,k0 qf 0,k0 qf 1,k0 qf 2,k0 qd 0,k0 qd 1,k0 qd 2⟩ (fun hHeld=>?_)
           clear hK K
           refine norm_ (a':=?_) ?_ ?_
           rotate_left
           ·show Act.put _ (some 102) _=_
            exact pP
           refine pu 19 (some 103) #[true,true,true,true,true,true,true,true,true,true,true,true,true,true,true,true,true,true,true,true,false,false,false,false,false,false] (h:=?_)
           refine pure_ (i:=20) (N:=some 104) (v:=undef) (a':=?_) #[true,true,true,true,true,true,true,true,true,true,true,true,true,true,true,true,true,true,true,true,true,false,false,false,false,false] rfl rfl (Zdd HT_.out (by kernel_rfl)) (fun _ _ _ h=>h) (Or.inr ⟨by rfl,rfl⟩) ?_ ?_
           rotate_left
           ·exact pP
           refine pure_ (i:=21) (N:=some 105) (v:=undef) (a':=?_) #[true,true,true,true,true,true,true,true,true,true,true,true,true,true,true,true,true,true,true,true,true,true,false,false,false,false] rfl rfl (Zdd HT_.out (by kernel_rfl)) (fun _ _ _ h=>h) (Or.inr ⟨by rfl,rfl⟩) ?_ ?_
           rotate_left
           ·exact pP
           refine pure_ (i:=22) (N:=some 106) (v:=undef) (a':=?_) #[true,true,true,true,true,true,true,true,true,true,true,true,true,true,true,true,true,true,true,true,true,true,true,false,false,false] rfl rfl (Zdd HT_.out (by kernel_rfl)) (fun _ _ _ h=>h) (Or.inr ⟨by rfl,rfl⟩) ?_ ?_
           rotate_left
           ·exact pP
           refine pu 23 (some 107) #[true,true,true,true,true,true,true,true,true,true,true,true,true,true,true,true,true,true,true,true,true,true,true,true,false,false] (h:=?_)
           refine pu 24 (some 108) #[true,true,true,true,true,true,true,true,true,true,true,true,true,true,true,true,true,true,true,true,true,true,true,true,true,false] (h:=?_)
           refine pu 25 (some 2) #[true,true,true,true,true,true,true,true,true,true,true,true,true,true,true,true,true,true,true,true,true,true,true,true,true,true] (h:=?_)
           refine done_ (Zde HT_.out (by kernel_rfl)) ?_
           try go_wp2
           go_ret
           exact ⟨pE,pB⟩
          ·replace qbc:=Bool.eq_false_iff.mpr qbc
           subst qbc
           rw [if_neg (show ¬ (false=true) by decide)] at H
           obtain ⟨qa2,qbs,H⟩:=ob H
           obtain rfl:=Option.some.inj H
           have qc7:=qp.o
           have qej:=qj.o
           have qc8:=qz.o
           have qek:=q1.o
           have qc9:=qv.o
           have qel:=q2.o
           have qda:=qq.o
           have qem:=q7.o
           obtain ⟨_,_,_,_,_,_⟩:=cEc qd.o
           have qdb:=qk.o
           have qen:=qr.o
           have qdc:=ql.o
           have qeo:=qt.o
           have qdd:=qo.o
           have qep:=q6.o
           obtain ⟨_,_,_,_,_,_⟩:=cEc qe.o
           try go_wp2_with (first|(refine gL (some 83) Tryz.func21 #[.agg #[.bool q0,.slice j9 qm.length j5,.int .i64 qw],.agg #[.bool a0_0,.slice A0_1 l0_1.length c0_1,.int .i64 a0_2]] (h:=?_);(with_reducible refine (Zk.calls qaf q0 _ _ qm qw a0_0 _ _ l0_1 a0_2 false _ ?side1 ?side2 ?side3 ?side4 qa6.o).mono ?_);(case side1=>exact Kd.Zn (Kd.Zc qa.o).2.2 pl);(case side2=>exact (Kd.Zc qa.o).2.1);(case side3=>exact cB HR0_1 HB);(case side4=>exact HC0_1.o);rintro e qet ⟨rfl,hb⟩;refine ⟨_,rfl,?_⟩;replace qa:=rbl qa hb;replace qb:=rbl qb hb;replace qc:=rbl qc hb;replace qi:=rbl qi hb;replace qe:=bb qe hb;replace qd:=bb qd hb;replace qg:=bb qg hb;replace qf:=bb qf hb;replace qh:=bb qh hb;replace HB:=bS hb))
           replace qa:=am (Kd.Zc1 qa.o)
           replace qb:=am (Kd.Zc1 qb.o)
           replace qc:=am (Kd.Zc1 qc.o)
           replace qi:=am (Kd.Zc1 qi.o)
           replace qe:=am (Zar qe.o)
           replace qd:=am (Zar qd.o)
           replace qg:=am (Zar qg.o)
           replace qf:=am (Zar qf.o)
           replace qh:=am (Zar qh.o)
           replace HB:=am (Zav HB.o)
           refine start_ (n:=26) (S:=fun w'=>w'.cell? ⟨q3,0,none⟩=some (.bool qx)/\w'.cell? ⟨q3,1,none⟩=some (.slice ja qn.length jb)/\w'.cell? ⟨q3,2,none⟩=some (.int .i64 qy)/\w'.cell? ⟨js,0,none⟩=some (.bool q8)/\w'.cell? ⟨js,1,none⟩=some (.slice jw qs.length jz)/\w'.cell? ⟨js,2,none⟩=some (.int .i64 q9)/\w'.cell? ⟨j2,0,none⟩=some (.bool q0)/\w'.cell? ⟨j2,1,none⟩=some (.slice j9 qm.length j5)/\w'.cell? ⟨j2,2,none⟩=some (.int .i64 qw)/\w'.cell? ⟨qaa,0,none⟩=some (.bool jd)/\w'.cell? ⟨qaa,1,none⟩=some (.slice j6 qu.length j8)/\w'.cell? ⟨qaa,2,none⟩=some (.int .i64 jc)) (ds:=[]) #[false,false,false,false,false,false,false,false,false,false,false,false,false,false,false,false,false,false,false,false,false,false,false,false,false,false] (by kernel_rfl) rfl rfl ⟨k0 qh 0,k0 qh 1,k0 qh 2,k0 qf 0,k0 qf 1,k0 qf 2,k0 qd 0,k0 qd 1,k0 qd 2,k0 qg 0,k0 qg 1,k0 qg 2⟩ (fun hHeld=>?_);refine Zb6 Zg.tab12 Zg.bits12 (fun HT_ HW_=>?_)
           generalize qet.drew=qhp at qa qb qc qi qe qd qg qf qh HB hHeld ⊢
           refine pu 0 (some 84) #[true,false,false,false,false,false,false,false,false,false,false,false,false,false,false,false,false,false,false,false,false,false,false,false,false,false] (h:=?_)
           refine pu 1 (some 85) #[true,true,false,false,false,false,false,false,false,false,false,false,false,false,false,false,false,false,false,false,false,false,false,false,false,false] (h:=?_)
           refine pure_ (i:=2) (N:=some 86) (v:=undef) (a':=?_) #[true,true,true,false,false,false,false,false,false,false,false,false,false,false,false,false,false,false,false,false,false,false,false,false,false,false] rfl rfl (Zdd HT_.out (by kernel_rfl)) (fun _ _ _ h=>h) (Or.inr ⟨by rfl,rfl⟩) ?_ ?_
           rotate_left
           ·exact pP
           refine pure_ (i:=3) (N:=some 87) (v:=undef) (a':=?_) #[true,true,true,true,false,false,false,false,false,false,false,false,false,false,false,false,false,false,false,false,false,false,false,false,false,false] rfl rfl (Zdd HT_.out (by kernel_rfl)) (fun _ _ _ h=>h) (Or.inr ⟨by rfl,rfl⟩) ?_ ?_
           rotate_left
           ·exact pP
           refine pure_ (i:=4) (N:=some 88) (v:=undef) (a':=?_) #[true,true,true,true,true,false,false,false,false,false,false,false,false,false,false,false,false,false,false,false,false,false,false,false,false,false] rfl rfl (Zdd HT_.out (by kernel_rfl)) (fun _ _ _ h=>h) (Or.inr ⟨by rfl,rfl⟩) ?_ ?_
           rotate_left
           ·exact pP
           refine pu 5 (some 89) #[true,true,true,true,true,true,false,false,false,false,false,false,false,false,false,false,false,false,false,false,false,false,false,false,false,false] (h:=?_)
           refine pu 6 (some 90) #[true,true,true,true,true,true,true,false,false,false,false,false,false,false,false,false,false,false,false,false,false,false,false,false,false,false] (h:=?_)
           refine pu 7 (some 91) #[true,true,true,true,true,true,true,true,false,false,false,false,false,false,false,false,false,false,false,false,false,false,false,false,false,false] (h:=?_)
           refine pu 8 (some 92) #[true,true,true,true,true,true,true,true,true,false,false,false,false,false,false,false,false,false,false,false,false,false,false,false,false,false] (h:=?_)
           refine pu 9 (some 93) #[true,true,true,true,true,true,true,true,true,true,false,false,false,false,false,false,false,false,false,false,false,false,false,false,false,false] (h:=?_)
           refine take_ (i:=10) (N:=some 94) (v:=?_) (a':=?_) #[true,true,true,true,true,true,true,true,true,true,true,false,false,false,false,false,false,false,false,false,false,false,false,false,false,false] rfl rfl (Zay HT_.out HW_.out (by kernel_rfl)) (fun _ _ _ h=>h) (Or.inl ⟨by rfl,?_⟩) hHeld ?_ ?_
           rotate_left
           ·rintro w' ⟨s0,s1,s2,s3,s4,s5,s6,s7,s8,s9,s10,s11⟩
            go_simp
            with_reducible rfl
           rotate_left
           ·exact pP
           refine one_ (i:=11) (N:=some 95) #[true,true,true,true,true,true,true,true,true,true,true,true,false,false,false,false,false,false,false,false,false,false,false,false,false,false] rfl rfl (Zbh HT_.out (by kernel_rfl)) (by decide) (fun K hK=>?_)
           refine goes_ Tryz.func29 (by kernel_rfl) rfl #[.int .i64 1] (by rfl) rfl rfl pA ?_
           with_reducible refine (Zcx.calls qaf 1 qan qao qap _ qbj.o).mono ?_
           rintro e qhq ⟨qbq,rfl,ho0,hb⟩
           refine ⟨_,rfl,?_⟩
           have ji:=am (Kd.Zo (Kd.Zs (Kd.Zs (Kd.Zs (Kd.Zs ho0 (Kd.R_lt (Kd.Za qa.o pl))) (Kd.R_lt (Kd.Za qb.o pl))) (Kd.R_lt (Kd.Za qc.o pl))) (Kd.R_lt (Kd.Za qi.o pl))) (Zd pB))
           replace qa:=reR qa ho0 hb
           replace qb:=reR qb ho0 hb
           replace qc:=reR qc ho0 hb
           replace qi:=reR qi ho0 hb
           replace qe:=bb qe hb
           replace qd:=bb qd hb
           replace qg:=bb qg hb
           replace qf:=bb qf hb
           replace qh:=bb qh hb
           replace HB:=bS hb
           obtain ⟨qbn,qbp,qbe⟩:=Kd.Zj ji.o
           (first|subst qbe|(injection qbe with f1_ f2_ f3_;have f4_:=f1_.symm;have f5_:=f3_.symm;clear f1_ f2_ f3_;subst f4_;subst f5_))
           refine hK.out _ _ ⟨k0 qh 0,k0 qh 1,k0 qh 2,k0 qf 0,k0 qf 1,k0 qf 2,k0 qd 0,k0 qd 1,k0 qd 2,k0 qg 0,k0 qg 1,k0 qg 2⟩ (fun hHeld=>?_)
           clear hK K
           refine norm_ (a':=?_) ?_ ?_
           rotate_left
           ·show Act.put _ (some 95) _=_
            exact pP
           refine one_ (i:=12) (N:=some 96) #[true,true,true,true,true,true,true,true,true,true,true,true,true,false,false,false,false,false,false,false,false,false,false,false,false,false] rfl rfl (Zbh HT_.out (by kernel_rfl)) (by decide) (fun K hK=>?_)
           refine goes_ Tryz.func21 (by kernel_rfl) rfl #[.agg #[.bool qx,.slice ja qn.length jb,.int .i64 qy],.agg #[.bool qan,.slice qbn qao.length qbp,.int .i64 qap]] (by rfl) rfl rfl pA ?_
           with_reducible refine (Zk.calls qaf qx _ _ qn qy qan _ _ qao qap true _ ?side1 ?side2 ?side3 ?side4 qbk.o).mono ?_
           (case side1=>exact Kd.Zn (Kd.Zc qi.o).2.2 pl)
           (case side2=>exact (Kd.Zc qi.o).2.1)
           (case side3=>exact Kd.Zn (Kd.Zc ji.o).2.2 pl)
           (case side4=>exact (Kd.Zc ji.o).2.1)
           rintro e qhr ⟨rfl,hb⟩
           refine ⟨_,rfl,?_⟩
           replace qa:=rbl qa hb
           replace qb:=rbl qb hb
           replace qc:=rbl qc hb
           replace qi:=rbl qi hb
           replace ji:=rbl ji hb
           replace qe:=bb qe hb
           replace qd:=bb qd hb
           replace qg:=bb qg hb
           replace qf:=bb qf hb
           replace qh:=bb qh hb
           replace HB:=bS hb
           refine hK.out _ _ ⟨k0 qh 0,k0 qh 1,k0 qh 2,k0 qf 0,k0 qf 1,k0 qf 2,k0 qd 0,k0 qd 1,k0 qd 2,k0 qg 0,k0 qg 1,k0 qg 2⟩ (fun hHeld=>?_)
           clear hK K
           refine norm_ (a':=?_) ?_ ?_
           rotate_left
           ·show Act.put _ (some 96) _=_
            exact pP
           refine pu 13 (some 97) #[true,true,true,true,true,true,true,true,true,true,true,true,true,true,false,false,false,false,false,false,false,false,false,false,false,false] (h:=?_)
           refine pu 14 (some 98) #[true,true,true,true,true,true,true,true,true,true,true,true,true,true,true,false,false,false,false,false,false,false,false,false,false,false] (h:=?_)
           refine pu 15 (some 99) #[true,true,true,true,true,true,true,true,true,true,true,true,true,true,true,true,false,false,false,false,false,false,false,false,false,false] (h:=?_)
           refine take_ (i:=16) (N:=some 100) (v:=?_) (a':=?_) #[true,true,true,true,true,true,true,true,true,true,true,true,true,true,true,true,true,false,false,false,false,false,false,false,false,false] rfl rfl (Zay HT_.out HW_.out (by kernel_rfl)) (fun _ _ _ h=>h) (Or.inl ⟨by rfl,?_⟩) hHeld ?_ ?_
           rotate_left
           ·rintro w' ⟨s0,s1,s2,s3,s4,s5,s6,s7,s8,s9,s10,s11⟩
            go_simp
            with_reducible rfl
           rotate_left
           ·exact pP
           refine take_ (i:=17) (N:=some 101) (v:=?_) (a':=?_) #[true,true,true,true,true,true,true,true,true,true,true,true,true,true,true,true,true,true,false,false,false,false,false,false,false,false] rfl rfl (Zay HT_.out HW_.out (by kernel_rfl)) (fun _ _ _ h=>h) (Or.inl ⟨by rfl,?_⟩) hHeld ?_ ?_
           rotate_left
           ·rintro w' ⟨s0,s1,s2,s3,s4,s5,s6,s7,s8,s9,s10,s11⟩
            go_simp
            with_reducible rfl
           rotate_left
           ·exact pP
           refine one_ (i:=18) (N:=some 102) #[true,true,true,true,true,true,true,true,true,true,true,true,true,true,true,true,true,true,true,false,false,false,false,false,false,false] rfl rfl (Zbh HT_.out (by kernel_rfl)) (by decide) (fun K hK=>?_)
           refine goes_ Tryz.func21 (by kernel_rfl) rfl #[.agg #[.bool q8,.slice jw qs.length jz,.int .i64 q9],.agg #[.bool q0,.slice j9 qm.length j5,.int .i64 qw]] (by rfl) rfl rfl pA ?_
           with_reducible refine (Zk.calls qaf q8 _ _ qs q9 q0 _ _ qm qw false _ ?side1 ?side2 ?side3 ?side4 qbl.o).mono ?_
           (case side1=>exact Kd.Zn (Kd.Zc qc.o).2.2 pl)
           (case side2=>exact (Kd.Zc qc.o).2.1)
           (case side3=>exact Kd.Zn (Kd.Zc qa.o).2.2 pl)
           (case side4=>exact (Kd.Zc qa.o).2.1)
           rintro e qhs ⟨rfl,hb⟩
           refine ⟨_,rfl,?_⟩
           replace qa:=rbl qa hb
           replace qb:=rbl qb hb
           replace qc:=rbl qc hb
           replace qi:=rbl qi hb
           replace ji:=rbl ji hb
           replace qe:=bb qe hb
           replace qd:=bb qd hb
           replace qg:=bb qg hb
           replace qf:=bb qf hb
           replace qh:=bb qh hb
           replace HB:=bS hb
           refine hK.out _ _ ⟨k0 qh 0,k0 qh 1,k0 qh 2,k0 qf 0,k0 qf 1,k0 qf 2,k0 qd 0,k0 qd 1,k0 qd 2,k0 qg 0,k0 qg 1,k0 qg 2⟩ (fun hHeld=>?_)
           clear hK K
           refine norm_ (a':=?_) ?_ ?_
           rotate_left
           ·show Act.put _ (some 102) _=_
            exact pP
           refine pu 19 (some 103) #[true,true,true,true,true,true,true,true,true,true,true,true,true,true,true,true,true,true,true,true,false,false,false,false,false,false] (h:=?_)
           refine take_ (i:=20) (N:=some 104) (v:=?_) (a':=?_) #[true,true,true,true,true,true,true,true,true,true,true,true,true,true,true,true,true,true,true,true,true,false,false,false,false,false] rfl rfl (Zay HT_.out HW_.out (by kernel_rfl)) (fun _ _ _ h=>h) (Or.inl ⟨by rfl,?_⟩) hHeld ?_ ?_
           rotate_left
           ·rintro w' ⟨s0,s1,s2,s3,s4,s5,s6,s7,s8,s9,s10,s11⟩
            go_simp
            with_reducible rfl
           rotate_left
           ·exact pP
           refine take_ (i:=21) (N:=some 105) (v:=?_) (a':=?_) #[true,true,true,true,true,true,true,true,true,true,true,true,true,true,true,true,true,true,true,true,true,true,false,false,false,false] rfl rfl (Zay HT_.out HW_.out (by kernel_rfl)) (fun _ _ _ h=>h) (Or.inl ⟨by rfl,?_⟩) hHeld ?_ ?_
           rotate_left
           ·rintro w' ⟨s0,s1,s2,s3,s4,s5,s6,s7,s8,s9,s10,s11⟩
            go_simp
            with_reducible rfl
           rotate_left
           ·exact pP
           refine one_ (i:=22) (N:=some 106) #[true,true,true,true,true,true,true,true,true,true,true,true,true,true,true,true,true,true,true,true,true,true,true,false,false,false] rfl rfl (Zbh HT_.out (by kernel_rfl)) (by decide) (fun K hK=>?_)
           refine goes_ Tryz.func21 (by kernel_rfl) rfl #[.agg #[.bool q8,.slice jw qs.length jz,.int .i64 q9],.agg #[.bool jd,.slice j6 qu.length j8,.int .i64 jc]] (by rfl) rfl rfl pA ?_
           with_reducible refine (Zk.calls qaf q8 _ _ qs q9 jd _ _ qu jc qa2 _ ?side1 ?side2 ?side3 ?side4 qbs.o).mono ?_
           (case side1=>exact Kd.Zn (Kd.Zc qc.o).2.2 pl)
           (case side2=>exact (Kd.Zc qc.o).2.1)
           (case side3=>exact Kd.Zn (Kd.Zc qb.o).2.2 pl)
           (case side4=>exact (Kd.Zc qb.o).2.1)
           rintro e qht ⟨rfl,hb⟩
           refine ⟨_,rfl,?_⟩
           replace qa:=rbl qa hb
           replace qb:=rbl qb hb
           replace qc:=rbl qc hb
           replace qi:=rbl qi hb
           replace ji:=rbl ji hb
           replace qe:=bb qe hb
           replace qd:=bb qd hb
           replace qg:=bb qg hb
           replace qf:=bb qf hb
           replace qh:=bb qh hb
           replace HB:=bS hb
           refine hK.out _ _ ⟨k0 qh 0,k0 qh 1,k0 qh 2,k0 qf 0,k0 qf 1,k0 qf 2,k0 qd 0,k0 qd 1,k0 qd 2,k0 qg 0,k0 qg 1,k0 qg 2⟩ (fun hHeld=>?_)
           clear hK K
           refine norm_ (a':=?_) ?_ ?_
           rotate_left
           ·show Act.put _ (some 106) _=_
            exact pP
           refine pu 23 (some 107) #[true,true,true,true,true,true,true,true,true,true,true,true,true,true,true,true,true,true,true,true,true,true,true,true,false,false] (h:=?_)
           refine pu 24 (some 108) #[true,true,true,true,true,true,true,true,true,true,true,true,true,true,true,true,true,true,true,true,true,true,true,true,true,false] (h:=?_)
           refine pu 25 (some 2) #[true,true,true,true,true,true,true,true,true,true,true,true,true,true,true,true,true,true,true,true,true,true,true,true,true,true] (h:=?_)
           refine done_ (Zde HT_.out (by kernel_rfl)) ?_
           try go_wp2
           go_ret
           exact ⟨pE,pB⟩
         ·replace qbb:=Bool.eq_false_iff.mpr qbb
          subst qbb
          rw [if_neg (show ¬ (false=true) by decide)] at H
          exact absurd ((Option.some.inj H).trans hr) Bool.false_ne_true
 ·replace c3:=Bool.eq_false_iff.mpr c3
  subst c3
  rw [if_neg (show ¬ (false=true) by decide)] at H
  exact absurd ((Option.some.inj H).trans hr) Bool.false_ne_true
end YtjbjkmccfocikaaGreatDoor.B
end
section
namespace YtjbjkmccfocikaaGreatDoor.P.Nm
open Go.RowKit YtjbjkmccfocikaaGreatDoorW.PrintWords YtjbjkmccfocikaaGreatDoor.B YtjbjkmccfocikaaGreatDoor.P
def nearV (D:Dm) (b:Bool):Dm × Int:=settleD ⟨D.neg,wholeN D+(if b then 1 else 0),0⟩
theorem Zro {n k:Nat} (h:nd n<=k):nd (n+1)<=k+1:=by
 refine Zgt ?_
 have h1:=Zj0 n
 have h2:=Nat.pow_le_pow_right (show 0 < 10 by omega) h
 rw [Nat.pow_succ]
 generalize 10 ^ k=T at *
 generalize 10 ^ nd n=U at *
 omega
theorem Zp1 {m n k:Nat} (hk:2<=k) (h4:m<=n / 10+1) (h:nd n<=k):nd m<=k:=by
 refine Zgt ?_
 have h1:=Zj0 n
 have h2:=Nat.pow_le_pow_right (show 0 < 10 by omega) h
 have h5:(100:Nat)<=10 ^ k:=Nat.le_trans (show 100<=10 ^ 2 by decide) (Nat.pow_le_pow_right (by omega) hk)
 generalize 10 ^ k=T at *
 generalize 10 ^ nd n=V at *
 omega
theorem QNear {D:Dm} (hD:OkD D) {u:Nat->List Int->Int->Option Bool} {b:Bool} (hu:lowN D ≠ 0->Tells (fun k=>u k (limbs (lowN D)) ((-D.e).toNat:Int)) b) :
  Tells (fun k=>Zbl.f k u D.neg (limbs D.n) D.e) (outD (nearV D (decide (lowN D ≠ 0) && b))):=by
 have hw:=Zh8 hD
 have hfin:∀ n,nd n<=1301->Tells (fun k=>(Zaq.f k D.neg (limbs n) 0).bind fun bt=>some (bt.1,bt.2.1,bt.2.2.1,bt.2.2.2)) (outD (settleD ⟨D.neg,n,0⟩)):=fun n hn=>by
  have hs:=Zit D.neg n 0 (Zfb (by omega)) (by omega)
  rw [if_neg (by omega)] at hs
  exact hs.bind (Tells.pure _)
 have hj:∀ b:Bool,Tells (fun k=>Zbl.j0 k (limbs (wholeN D)) b D.neg (limbs D.n) D.e) (outD (nearV D b)):=fun b=>by
  refine Tells.succ ?_
  simp only [Zbl.j0]
  unfold nearV
  cases b
  ·exact Tells.ifn (by decide) (hfin (wholeN D) (by omega))
  ·have ha:=Zna (m:=wholeN D) (n:=1) (Zfb (by omega)) (by decide +kernel)
   have hn:nd (wholeN D+1)<=1301:=Zro hw.1
   rw [Zoa (Zfb (by omega))] at ha
   unfold Zp.f
   exact Tells.ifp rfl ((Zgl 1 (by omega)).bind (ha.bind ((Tells.pure _).bind (hfin _ hn))))
 unfold Zbl.f
 refine (DCheck D hD).bind (Tells.ifp rfl ((QSplit hD).bind ?_))
 dsimp only
 by_cases h0:lowN D=0
 ·have e1:(decide (lowN D ≠ 0) && b)=false:=by simp [h0]
  rw [e1,h0]
  exact Tells.ifn (by rw [show limbs 0=[] from rfl];decide) (hj false)
 ·have e1:(decide (lowN D ≠ 0) && b)=b:=by simp [h0]
  rw [e1]
  have hl:(limbs (lowN D)).length ≠ 0:=fun e=>h0 (by have := Zjy (m:=lowN D) (n:=0) (List.eq_nil_of_length_eq_zero e);exact this)
  exact Tells.ifp (by omega) ((hu h0).bind (hj b))
theorem QFloor {D:Dm} (hD:OkD D):Tells (fun k=>Zdr.f k D.neg (limbs D.n) D.e) (outD (nearV D (decide (lowN D ≠ 0) && D.neg))):=by
 unfold Zdr.f
 exact (QNear hD (u:=fun _ _ _=>some D.neg) (fun _=>Tells.pure _)).bind (Tells.pure _)
theorem QCeil {D:Dm} (hD:OkD D):Tells (fun k=>Zd2.f k D.neg (limbs D.n) D.e) (outD (nearV D (decide (lowN D ≠ 0) && !D.neg))):=by
 unfold Zd2.f
 exact (QNear hD (u:=fun _ _ _=>some (!D.neg)) (fun _=>Tells.pure _)).bind (Tells.pure _)
theorem QRound {D:Dm} (hD:OkD D):∃ b,Tells (fun k=>Zds.f k D.neg (limbs D.n) D.e) (outD (nearV D (decide (lowN D ≠ 0) && b))):=by
 have hw:=Zh8 hD
 have l3:=hD.low
 have hm:=Zjh (m:=lowN D) (n:=2) (Zfb (by omega)) (by decide +kernel)
 have h2:nd (lowN D*2)<=301:=Nat.le_trans (Zev (Nat.mul_le_mul_left _ (show 2<=10 ^ 1 by decide))) (Nat.le_trans (Zd7 _ _) (by omega))
 rw [Zoa (Zfb (by omega))] at hm
 have hc:=Zis (m:=lowN D*2) (n:=10 ^ (-D.e).toNat) (Zfb (by omega)) (Zfb (by rw [Zj2];omega))
 have hr:Tells (fun k=>Zc9.f k (limbs (lowN D)) ((-D.e).toNat:Int)) (decide (cmpN (lowN D*2) (10 ^ (-D.e).toNat) >= 0)):=by
  unfold Zc9.f Zp.f
  exact (Zgl 2 (by omega)).bind (hm.bind ((Tells.pure _).bind ((Zgx (by omega)).bind (hc.bind (Tells.pure _)))))
 refine ⟨decide (cmpN (lowN D*2) (10 ^ (-D.e).toNat) >= 0),?_⟩
 unfold Zds.f
 exact (QNear hD (u:=fun k x y=>Zc9.f k x y) (fun _=>hr)).bind (Tells.pure _)
theorem Zi8 {u:Nat->List Int->Int->Option Bool} {a:Bool} {l:List Int} {e:Int} (hl:RawD l) (h:¬ chk a l e=0):Tells (fun k=>Zbl.f k u a l e) (false,[],0,9):=by
 unfold Zbl.f
 refine (Zgz a l e hl.dg hl.len).bind (Tells.ifn h ((Tells.pure _).val ?_))
 rcases Zsg a l e with h1|h1
 ·exact absurd h1 h
 ·rw [h1]
theorem Zqe {D:Dm} (hD:OkD D):∃ L:Nat,D.n*10 ^ (D.e+1000).toNat=wholeN D*10 ^ 1000+L/\L < 10 ^ 1000/\(L=0 ↔ lowN D=0):=by
 have l3:=hD.low
 unfold wholeN lowN
 by_cases h:0<=D.e
 ·rw [if_pos h,if_pos h]
  refine ⟨0,?_,Zdf 1000,by simp⟩
  have e1:(D.e+1000).toNat=D.e.toNat+1000:=by omega
  rw [e1,Nat.pow_add,Nat.mul_assoc,Nat.add_zero]
 ·rw [if_neg h,if_neg h]
  obtain ⟨c,hc⟩:∃ c,(-D.e).toNat=c:=⟨_,rfl⟩
  obtain ⟨p,hp⟩:∃ p,(D.e+1000).toNat=p:=⟨_,rfl⟩
  have hT:10 ^ 1000=10 ^ c*10 ^ p:=by rw [<- Nat.pow_add];congr 1;omega
  have hc0:=Zdf c
  have hp0:=Zdf p
  rw [hc,hp,hT]
  refine ⟨D.n % 10 ^ c*10 ^ p,?_,?_,?_⟩
  ·have hd:=Nat.div_add_mod D.n (10 ^ c)
   calc D.n*10 ^ p=(10 ^ c*(D.n / 10 ^ c)+D.n % 10 ^ c)*10 ^ p:=by rw [hd]
    _=D.n / 10 ^ c*(10 ^ c*10 ^ p)+D.n % 10 ^ c*10 ^ p:=by rw [Nat.add_mul,Nat.mul_comm (10 ^ c),Nat.mul_assoc]
  ·exact Nat.mul_lt_mul_of_pos_right (Nat.mod_lt _ hc0) hp0
  ·constructor
   ·intro h1
    rcases Nat.mul_eq_zero.1 h1 with h2|h2
    ·exact h2
    ·omega
   ·intro h1;rw [h1,Nat.zero_mul]
theorem Zk1 {D:Dm} (hD:OkD D) (b:Bool) (hb:b=true->lowN D ≠ 0):∃ X,nearV D b=(X,0)/\OkD X/\0<=X.e/\sc 1000 X=(if D.neg then -1 else 1)*(((wholeN D+(if b then 1 else 0))*10 ^ 1000:Nat):Int):=by
 have l1:=hD.len;have l2:=hD.high;have l3:=hD.low
 obtain ⟨m,hm⟩:∃ m,wholeN D+(if b then 1 else 0)=m:=⟨_,rfl⟩
 have key:m ≠ 0->nd (core m)<=300/\(tz m:Int)<=1000:=by
  intro h0
  by_cases h:0<=D.e
  ·have hl:lowN D=0:=by unfold lowN;rw [if_pos h]
   have hbf:b=false:=by
    cases b
    ·rfl
    ·exact absurd hl (hb rfl)
   have hm2:m=D.n*10 ^ D.e.toNat:=by rw [<- hm,hbf];unfold wholeN;rw [if_pos h];rfl
   have hn0:D.n ≠ 0:=fun e=>h0 (by rw [hm2,e,Nat.zero_mul])
   obtain ⟨c1,c2⟩:=Zii hn0 D.e.toNat
   obtain ⟨s1,s2⟩:=Zht (hD.last hn0)
   rw [hm2,c1,c2,s1,s2]
   exact ⟨l1,by omega⟩
  ·have hw:wholeN D<=D.n / 10:=by
    unfold wholeN;rw [if_neg h]
    refine Nat.div_le_div_left ?_ (by decide)
    have:10 ^ 1<=10 ^ (-D.e).toNat:=Nat.pow_le_pow_right (by omega) (by omega)
    exact this
   have h4:m<=D.n / 10+1:=by rw [<- hm];split <;> omega
   have hnd:=Zp1 (by omega) h4 l1
   have := Zk0 h0
   omega
 unfold nearV
 rw [hm]
 have hs:∃ X,settleD ⟨D.neg,m,0⟩=(X,0)/\0<=X.e:=by
  unfold settleD
  by_cases h0:m=0
  ·exact ⟨zeroD,by rw [if_pos h0],by decide⟩
  ·obtain ⟨k1,k2⟩:=key h0
   exact ⟨⟨D.neg,core m,0+tz m⟩,by rw [if_neg h0,if_neg (by show ¬ 300 < nd (core m);omega),if_neg (by show ¬ ((0:Int)+tz m < -1000\/1000 < (0:Int)+tz m);omega)],by show (0:Int)<=0+tz m;omega⟩
 obtain ⟨X,hX,hXe⟩:=hs
 refine ⟨X,hX,?_,hXe,?_⟩
 ·have := Zke ⟨D.neg,m,0⟩
  rw [hX] at this;exact this
 ·rw [Zpa (K:=1000) (by show (-1000:Int)<=0;omega) hX]
  rfl
theorem Zia {a:Bool} {l:List Int} {e:Int} (hl:RawD l):Tells (fun k=>Zg.f k a l e) true:=by
 have hj1:∀ {D X Y Z V:Dm},OkD D->OkD X->OkD Y->OkD Z->OkD V->(X=D->Y=D)->(X ≠ D->V=intD 1)->(Z=X\/Z=Y) ->
   Tells (fun k=>Zg.j1 k false D.neg (limbs D.n) D.e X.neg (limbs X.n) X.e Y.neg (limbs Y.n) Y.e Z.neg (limbs Z.n) Z.e V.neg (limbs V.n) V.e) true:=by
  intro D X Y Z V hD hX hY hZ hV h1 h2 h3
  have lX:=hX.len;have lY:=hY.len;have lZ:=hZ.len;have lV:=hV.len
  have tail:Tells (fun k=>(Zk.f k Z.neg (limbs Z.n) Z.e X.neg (limbs X.n) X.e).bind fun t=>if t=true then some true else (Zk.f k Z.neg (limbs Z.n) Z.e Y.neg (limbs Y.n) Y.e).bind fun t2=>some t2) true:=by
   refine (Zjm Z X (by omega)).bind ?_
   by_cases hz:Z=X
   ·exact Tells.ifp (decide_eq_true hz) (Tells.pure _)
   ·refine Tells.ifn (by simpa using hz) ((Zjm Z Y (by omega)).bind ((Tells.pure _).val (decide_eq_true (h3.resolve_left hz))))
  refine Tells.succ ?_
  simp only [Zg.j1]
  refine Tells.ifn (by decide) ((Zjm X D (by omega)).bind ?_)
  by_cases hx:X=D
  ·exact Tells.ifp (decide_eq_true hx) ((Zjm Y D (by omega)).bind (Tells.ifp (decide_eq_true (h1 hx)) tail))
  ·refine Tells.ifn (by simpa using hx) ((Zms 1 (by omega) (by omega)).bind ((Zjm V (intD 1) (by omega)).bind (Tells.ifp (decide_eq_true (h2 hx)) tail)))
 unfold Zg.f Zao.f
 refine alive03.bind (Tells.ifp rfl ?_)
 by_cases hc:chk a l e=0
 ·obtain ⟨D,hD,rfl,rfl,rfl⟩:=Zso hl.dg hc
  obtain ⟨b,hR⟩:=QRound hD
  obtain ⟨L,p1,p2,p3⟩:=Zqe hD
  have hA:sc 1000 D=(if D.neg then -1 else 1)*((wholeN D*10 ^ 1000+L:Nat):Int):=by unfold sc;rw [p1]
  obtain ⟨X,x1,x2,x3,x4⟩:=Zk1 hD (decide (lowN D ≠ 0) && D.neg) (by simp;intro h _;exact h)
  obtain ⟨Y,y1,y2,y3,y4⟩:=Zk1 hD (decide (lowN D ≠ 0) && !D.neg) (by simp;intro h _;exact h)
  obtain ⟨Z,z1,z2,z3,z4⟩:=Zk1 hD (decide (lowN D ≠ 0) && b) (by simp;intro h _;exact h)
  have qF:=QFloor hD;have qC:=QCeil hD
  rw [x1] at qF;rw [y1] at qC;rw [z1] at hR
  have hT:=Zdf 1000
  obtain ⟨T,hTe⟩:∃ T:Nat,10 ^ 1000=T:=⟨_,rfl⟩
  rw [hTe] at p2 hA x4 y4 z4 hT
  obtain ⟨W,hW⟩:∃ W,wholeN D=W:=⟨_,rfl⟩
  rw [hW] at hA x4 y4 z4
  obtain ⟨M,hM⟩:∃ M,W*T=M:=⟨_,rfl⟩
  have fx:∀ c:Bool,(W+(if c then 1 else 0))*T=M+(if c then T else 0):=fun c=>by
   cases c
   ·simp [hM]
   ·rw [if_pos rfl,if_pos rfl,Nat.add_mul,hM,Nat.one_mul]
  rw [hM] at hA
  rw [fx] at x4 y4 z4
  have lX:=x2.low;have lY:=y2.low;have lD:=hD.low
  have f1:sc 1000 X<=sc 1000 D/\sc 1000 D<=sc 1000 Y:=by
   rw [x4,y4,hA]
   by_cases h0:lowN D=0
   ·have hL:=p3.2 h0
    cases D.neg <;> simp [h0,hL]
   ·cases D.neg <;> simp [h0] <;> omega
  have f2:lowN D=0->sc 1000 X=sc 1000 D/\sc 1000 Y=sc 1000 D/\sc 1000 Z=sc 1000 D:=by
   intro h0
   have hL:=p3.2 h0
   rw [x4,y4,z4,hA]
   cases D.neg <;> simp [h0,hL]
  have f3:lowN D ≠ 0->sc 1000 X ≠ sc 1000 D/\sc 1000 Y - sc 1000 X=(T:Int)/\(sc 1000 Z=sc 1000 X\/sc 1000 Z=sc 1000 Y):=by
   intro h0
   have hL:L ≠ 0:=fun e=>h0 (p3.1 e)
   rw [x4,y4,z4,hA]
   cases D.neg <;> cases b <;> simp [h0] <;> omega
  have hdiff:∃ V,subD Y X=(V,0)/\(lowN D ≠ 0->V=intD 1):=by
   have hs:=Zmi (K:=1000) (a:=Y) (b:=negD X) (by omega) (by show -1000<=X.e;omega)
   rw [Zo9] at hs
   unfold subD
   have hle : -1000<=(plusD Y (negD X)).e:=by rw [Zoy];show -1000<=min Y.e X.e;omega
   by_cases h0:lowN D=0
   ·refine ⟨zeroD,?_,fun h=>absurd h0 h⟩
    obtain ⟨g1,g2,_⟩:=f2 h0
    have:sc 1000 (plusD Y (negD X))=sc 1000 zeroD:=by
     rw [hs,Ze8.2 (show zeroD.n=0 from rfl)];omega
    rw [Zh3 hle (by decide) this];decide
   ·refine ⟨intD 1,?_,fun _=>rfl⟩
    obtain ⟨_,g2,_⟩:=f3 h0
    have h1:settleD ⟨false,1,0⟩=(intD 1,0):=by decide +kernel
    rw [<- h1]
    refine Zh3 (K:=1000) hle (by show (-1000:Int)<=0;omega) ?_
    rw [hs,Zsv,show ((0:Int)+1000).toNat=1000 from rfl,hTe,Nat.one_mul]
    omega
  obtain ⟨V,v1,v2⟩:=hdiff
  have okV:OkD V:=by have := Zke (plusD Y (negD X));unfold subD at v1;rw [v1] at this;exact this
  have qS:=RSub Y X y2 x2
  rw [v1] at qS
  have oX:¬ cmpD X D > 0:=by
   rw [Zn3 (K:=1000) (by omega) (by omega)]
   by_cases h:sc 1000 X < sc 1000 D
   ·rw [if_pos h];decide
   ·rw [if_neg h,if_neg (by omega)];decide
  have oY:¬ cmpD Y D < 0:=by
   rw [Zn3 (K:=1000) (by omega) (by omega),if_neg (by omega)]
   split <;> decide
  have i1:X=D->Y=D:=fun h=>by
   by_cases h0:lowN D=0
   ·exact Zkb y2 hD (Int.le_refl _) (f2 h0).2.1
   ·exact absurd (by rw [h]) (f3 h0).1
  have i2:X ≠ D->V=intD 1:=fun h=>by
   by_cases h0:lowN D=0
   ·exact absurd (Zkb x2 hD (Int.le_refl _) (f2 h0).1) h
   ·exact v2 h0
  have i3:Z=X\/Z=Y:=by
   by_cases h0:lowN D=0
   ·obtain ⟨g1,g2,g3⟩:=f2 h0
    exact .inl (Zkb z2 x2 (Int.le_refl _) (g3.trans g1.symm))
   ·rcases (f3 h0).2.2 with h|h
    ·exact .inl (Zkb z2 x2 (Int.le_refl _) h)
    ·exact .inr (Zkb z2 y2 (Int.le_refl _) h)
  refine qF.bind (qC.bind (hR.bind ((RCheck D hD).bind (Tells.ifp rfl ((Tells.pure _).bind ((Tells.pure _).bind ((Tells.pure _).bind (Tells.succ ?_))))))))
  simp only [Zg.j0]
  refine Tells.ifn (by decide +kernel) (qS.bind (Tells.ifp rfl ((Rorder x2 hD).bind (Tells.ifn oX ((Rorder y2 hD).bind (Tells.ifn oY (Tells.ifn (by show ¬ X.e < 0;omega) ?_)))))))
  have e0:decide (Y.e < 0)=false:=decide_eq_false (by omega)
  show Tells (fun k=>Zg.j1 k (decide (Y.e < 0)) D.neg (limbs D.n) D.e X.neg (limbs X.n) X.e Y.neg (limbs Y.n) Y.e Z.neg (limbs Z.n) Z.e V.neg (limbs V.n) V.e) true
  rw [e0]
  exact hj1 hD x2 y2 z2 okV i1 i2 i3
 ·have e9:Tells (fun k=>Zdr.f k a l e) (false,[],0,9):=by
   unfold Zdr.f
   exact (Zi8 hl hc).bind (Tells.pure _)
  have e8:Tells (fun k=>Zd2.f k a l e) (false,[],0,9):=by
   unfold Zd2.f
   exact (Zi8 hl hc).bind (Tells.pure _)
  have e7:Tells (fun k=>Zds.f k a l e) (false,[],0,9):=by
   unfold Zds.f
   exact (Zi8 hl hc).bind (Tells.pure _)
  refine e9.bind (e8.bind (e7.bind ((Zea a l e hl.dg hl.len).bind (Tells.ifn hc (Tells.succ ?_)))))
  simp only [Zg.j0]
  exact Tells.ifp trivial ((Zea a l e hl.dg hl.len).bind (Tells.ifn hc ((Tells.pure _).bind ((Tells.pure _).val (by decide)))))
end YtjbjkmccfocikaaGreatDoor.P.Nm
end
section
namespace YtjbjkmccfocikaaGreatDoor.R
open Go.ChangeShapes Go.WideShapes Go.ChangeAt Go.RowKit Go.Joins YtjbjkmccfocikaaGreatDoorW.PrintWords YtjbjkmccfocikaaGreatDoor.P.Nm
theorem laidOut:laidOutB Tryz.prog=true:=by kernel_rfl
theorem cellsD:Tryz.prog.cellsOf 24=3:=by kernel_rfl
theorem cellsU:Tryz.prog.cellsOf 85=1:=by kernel_rfl
theorem wf32 {n:Int} (h:(Lit.int .u32 n).wf=true):0<=n/\n < 4294967296:=by
 have e1:IntKind.u32.min=0:=by decide
 have e2:IntKind.u32.max=4294967295:=by decide
 simp only [Lit.wf,e1,e2,Bool.and_eq_true,decide_eq_true_eq] at h
 omega
theorem Zm3 {H:Type} {enc:TypeId × Value->H} {W:World} {v:Value} {fuel:Nat} {x:DataW H × List MemPlace}
  (hf:DataW.trod enc Tryz.prog W 0 (fun _=>true) true fuel 22 [v]=some x) :
  ∃ (A:Option Addr) (c:Nat) (l:List Int),v=.slice A l.length c/\l.length<=c/\Kd.C (Kd.int .u32) W A l.length l/\RawD l/\((x.1=.nil/\l=[]) \/ ∃ spare,x.1=.slice (lits .u32 l) spare):=by
 rcases open_ints Tryz.underlying22 Tryz.underlying85 cellsU hf with ⟨hcs,hx⟩|⟨a,len,cap,zs,hcs,_,hl,hm,hz,hx,hcell,hwf⟩
 ·simp at hcs
  subst hcs hx
  exact ⟨none,0,[],rfl,Nat.le_refl _,Kd.Zgk (enc:=Value.int .u32) (d:=0) ⟨rfl,by simp,fun h=>absurd h (by simp)⟩,RawD.nil,.inl ⟨rfl,rfl⟩⟩
 ·simp at hcs
  subst hcs hx
  simp only [if_true] at hz
  have hlen:(zs.take len).length=len:=by simp;omega
  refine ⟨some a,cap,zs.take len,by rw [hlen],by omega,Kd.Zgk (enc:=Value.int .u32) (d:=0) ⟨rfl,by unfold maxLen at hm;simp;omega,fun _=>⟨a,rfl,fun j hj=>?_⟩⟩,⟨fun y hy=>wf32 (hwf y (List.mem_of_mem_take hy)),by unfold maxLen at hm;omega⟩,.inr ⟨_,rfl⟩⟩
  have hj':j < len:=by simp at hj;omega
  rw [hcell j (by omega)]
  simp [List.getD,List.getElem?_take_of_lt hj']
theorem bytesU:Tryz.prog.bytesOf 85=4:=by kernel_rfl
theorem Zkz {H:Type} {x:DataW H} {l:List Int} (h:(x=.nil/\l=[]) \/ ∃ spare,x=.slice (lits .u32 l) spare) (hw:(x.weights Tryz.prog 22).all (· <= reachBytes)=true):l.length<=35184372087808:=by
 rcases h with ⟨rfl,rfl⟩|⟨sp,rfl⟩
 ·simp
 ·have := List.all_eq_true.1 hw (((lits .u32 l:List (DataW H)).length+sp.length)*Tryz.prog.bytesOf 85) (by simp [DataW.weights,Tryz.underlying22])
  rw [bytesU] at this
  have hl:(lits .u32 l:List (DataW H)).length=l.length:=by simp [lits]
  rw [hl] at this
  have hb:reachBytes=140737488351232:=by decide
  rw [decide_eq_true_eq,hb] at this
  omega
theorem Zp7 {H:Type} {enc:TypeId × Value->H} {W:World} {base:Nat} {v:Value} {d:DataW H} {p:List MemPlace} (hv:Value.okWide Tryz.prog W .any base 24 v)
  (h:DataW.Trod enc Tryz.prog W 0 (fun _=>true) true 24 v d p) :
  ∃ (n:Bool) (A:Option Addr) (c:Nat) (l:List Int) (e:Int),v=.agg #[.bool n,.slice A l.length c,.int .i64 e]/\l.length<=c/\Kd.C (Kd.int .u32) W A l.length l/\RawD l/\(Lit.int .i64 e).wf=true /\
   ((d.weights Tryz.prog 24).all (· <= reachBytes)=true->l.length<=35184372087808):=by
 obtain ⟨c0,c1,c2,y0,y1,y2,m,rfl,rfl,rfl,hy0,hy1,hy2⟩:=open_agg3 Tryz.underlying24 (by kernel_rfl) cellsD hv h
 obtain ⟨n,e0,_⟩:=DataW.trod_bool Tryz.underlying4 hy0
 obtain ⟨A,c,l,e1,h1,h2,h3,h4⟩:=Zm3 hy1
 obtain ⟨e,e2,_,we⟩:=DataW.trod_int Tryz.underlying3 hy2
 simp at e0 e2
 subst e0 e1 e2
 refine ⟨n,A,c,l,e,rfl,h1,h2,h3,we,fun hw=>Zkz h4 (List.all_eq_true.2 fun z hz=>List.all_eq_true.1 hw z ?_)⟩
 simp only [DataW.weights,Tryz.underlying24,List.map_cons,List.map_nil,DataW.weightsEach,List.mem_append]
 exact .inr (.inl hz)
end YtjbjkmccfocikaaGreatDoor.R
end
end Go.Proofs
