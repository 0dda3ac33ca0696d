/- QuotNear, part 2 of 8 of its proof (no condition); names with a low line are shortened throughout. -/
import Derived.Test.YtjbjkmccfocikaaGreatDoorZQuotNear0
import Derived.RangeFuncWrites
import Derived.RangeFuncBox
import Derived.Test.YtjbjkmccfocikaaGreatDoorProg
import Derived.OrdersIn
import Derived.StillTail
import Derived.StillTactics
import Derived.Deep.Quiet
import Derived.Deep.QuietTactic
import Derived.BigQuiet
import Derived.OwnWalkIn
import Derived.RangeFuncCalls
import Derived.OrdersHeld
import Derived.Deep.RegionHeld3
import Derived.RangeFuncNested
import Derived.RangeFuncBound
import Derived.RangeFuncLeaves
import Derived.Shelf.Abstract
import Derived.Shelf.RegionOpen
import Derived.WalkKit
import Derived.TacticsInMore
import Derived.LoopNIn
import Derived.LoopIn
import Derived.Outline
import Derived.Deep.RegionHeld
import Derived.Lib.Hide
import Derived.Laws.BitsAllLaws
import Derived.WalkSpells
set_option linter.unusedVariables false
set_option linter.unusedSimpArgs false
set_option maxRecDepth 100000
set_option maxHeartbeats 8000000
namespace Go.Proofs
section
namespace YtjbjkmccfocikaaGreatDoor.B
open Go.RowKit YtjbjkmccfocikaaGreatDoorW.PrintWords YtjbjkmccfocikaaGreatDoorW.PrintLast YtjbjkmccfocikaaGreatDoorW.PrintMore
attribute [local go_sem] Zb7 Zb9 Zcr Zcs Zbp Zbq Zb8 Zca
mutual
def Zt.l0:Nat->List Int->List Int->List Int->Int->Option (List Int)
 | 0,_,_,_,_=>none
 | k+1,x0,x1,x5,x6=>if x6 < (x0.length:Int) then (Zt.j1 k x0 x1 x5 x6 true) else (Zt.j1 k x0 x1 x5 x6 (decide (x6 < (x1.length:Int))))
def Zt.j1:Nat->List Int->List Int->List Int->Int->Bool->Option (List Int)
 | 0,_,_,_,_,_=>none
 | k+1,x0,x1,x5,x6,x17=>if x17=true then (if x6 < (x0.length:Int) then (if 0<=x6 then (if x6 < (x1.length:Int) then (if x5.length < 17592186044416 then (Zt.l0 k x0 x1 (x5 ++ [wrap64 ((wrap64 (rd x0 x6))+(rd x1 x6))]) (wrap64 (x6+1))) else (none)) else (if x5.length < 17592186044416 then (Zt.l0 k x0 x1 (x5 ++ [wrap64 (rd x0 x6)]) (wrap64 (x6+1))) else (none))) else (none)) else (if x6 < (x1.length:Int) then (if 0<=x6 then (if x5.length < 17592186044416 then (Zt.l0 k x0 x1 (x5 ++ [wrap64 (rd x1 x6)]) (wrap64 (x6+1))) else (none)) else (none)) else (if x5.length < 17592186044416 then (Zt.l0 k x0 x1 (x5 ++ [0]) (wrap64 (x6+1))) else (none)))) else ((Zx.f k x5).bind fun qo=>(some qo))
end
def Zt.f (k:Nat) (l0:List Int) (l1:List Int):Option (List Int):=Zt.l0 k l0 l1 ([]:List Int) 0
theorem Zt.calls (k:Nat) (A0:Option Addr) (c0:Nat) (l0:List Int) (A1:Option Addr) (c1:Nat) (l1:List Int) (r:List Int) (w:World) (hr0:Kd.C (Kd.int .i64) w A0 l0.length l0) (hc0:l0.length<=c0) (hr1:Kd.C (Kd.int .i64) w A1 l1.length l1) (hc1:l1.length<=c1) (h:Zt.f k l0 l1=some r) :
  Calls Tryz.prog 85 #[.slice A0 l0.length c0,.slice A1 l1.length c1] w fun e w' => ∃ v0_:Value,e=.returned (v0_)/\Kd.R (Kd.int .i64) 3 w' w.heap.size (fun _=>True) v0_ r/\Below w.heap.size w w':=by
 have HR0:=am hr0
 have HC0:=am hc0
 clear hr0 hc0
 have HR1:=am hr1
 have HC1:=am hc1
 clear hr1 hc1
 have HB:=am (Below.refl w.heap.size w)
 have H:(Zt.l0 k l0 l1 ([]:List Int) 0)=some r:=h
 clear h
 have H':=am H
 clear H
 go_enter Tryz.func85,Tryz.ntmps85
 go_wp2
 go_loopg [5,6] k (fun kq v5 v6 w' => ∃ (x5_1:List Int) (x6_1:Int),v6=.int .i64 x6_1/\Aside0 (Zt.l0 kq l0 l1 x5_1 x6_1=some r)/\Aside0 (kq<=k)/\Aside0 (Kd.R (Kd.int .i64) 3 w' w.heap.size (fun _=>True) v5 x5_1)/\Aside0 (Below w.heap.size w w'))
 case atStart=>exact ⟨(([]:List Int)),(0),pR,H',⟨Nat.le_refl _⟩,⟨pN⟩,⟨pB⟩⟩
 case round =>
  clear H'
  obtain ⟨x5_1,x6_1,rfl,HA,HK1,HO_5,HB⟩:=hrel
  cases gk with
  | zero=>exact absurd HA.out (by simp [Zt.l0])
  | succ k1 =>
   have H:=HA.out
   clear HA
   simp only [Zt.l0] at H
   have HC3:=am H
   clear H
   go_upto_region 3 with (fail)
   go_cut [17] (fun v17 wc => ∃ (kq:Nat) (x17_2:Bool),v17=.bool x17_2/\Aside0 (Zt.j1 kq l0 l1 x5_1 x6_1 x17_2=some r)/\Aside0 (kq<=k1)/\Aside0 (Kd.R (Kd.int .i64) 3 wc w.heap.size (fun _=>True) u5 x5_1)/\Aside0 (Below w.heap.size w wc))
   case first =>
    have H:=HC3.o
    clear HC3
    by_cases c4:x6_1 < (l0.length:Int)
    ·rw [if_pos c4] at H
     have c4b0:decide (x6_1 < (l0.length:Int))=true:=decide_eq_true c4
     clear c4
     (first|rw [c4b0]|(simp only [Zcd,Zdb];rw [c4b0])|skip)
     have H':=am H
     clear H
     go_wp2
     go_meet
     case rel=>exact ⟨_,(true),pR,H',⟨by have := HK1.out;first|omega|exact Nat.le_refl _⟩,⟨by refine rp ?_;exact HO_5.o⟩,⟨pB⟩⟩
    ·rw [if_neg c4] at H
     have c4b0:decide (x6_1 < (l0.length:Int))=false:=decide_eq_false c4
     clear c4
     (first|rw [c4b0]|(simp only [Zcd,Zdb];rw [c4b0])|skip)
     have H':=am H
     clear H
     go_wp2
     go_meet
     case rel=>exact ⟨_,(decide (x6_1 < (l1.length:Int))),pR,H',⟨by have := HK1.out;first|omega|exact Nat.le_refl _⟩,⟨by refine rp ?_;exact HO_5.o⟩,⟨pB⟩⟩
   case rest =>
    clear HC3
    obtain ⟨kq,x17_2,rfl,HA,HJ2,HO_5,HB⟩:=hcut
    cases kq with
    | zero=>exact absurd HA.out (by simp [Zt.j1])
    | succ kj2 =>
     have H:=HA.out
     clear HA
     simp only [Zt.j1] at H
     by_cases c5:x17_2=true
     ·subst c5
      rw [if_pos rfl] at H
      by_cases c6:x6_1 < (l0.length:Int)
      ·rw [if_pos c6] at H
       have c6b0:decide (x6_1 < (l0.length:Int))=true:=decide_eq_true c6
       clear c6
       by_cases c7:0<=x6_1
       ·rw [if_pos c7] at H
        have c7b0:decide (0<=x6_1)=true:=decide_eq_true c7
        clear c7
        by_cases c8:x6_1 < (l1.length:Int)
        ·rw [if_pos c8] at H
         have c8b0:decide (x6_1 < (l1.length:Int))=true:=decide_eq_true c8
         clear c8
         by_cases c9:x5_1.length < 17592186044416
         ·rw [if_pos c9] at H
          have LMc9:=am c9
          clear c9
          obtain ⟨qz,qf⟩:∃ y_:List Int,y_=(x5_1 ++ [wrap64 ((wrap64 (rd l0 x6_1))+(rd l1 x6_1))]):=⟨_,rfl⟩
          replace H:(Zt.l0 kj2 l0 l1 qz (wrap64 (x6_1+1)))=some r:=by have hy_:=qf;exact pH
          have qu:=am qf
          clear qf
          have H':=am H
          clear H
          have qd:0<=(x6_1:Int):=of_decide_eq_true pQ
          have qe:x6_1 < (l0.length:Int):=of_decide_eq_true pQ
          obtain ⟨qy,qj,qa⟩:=Kd.Za5 HR0.o x6_1 qd qe
          cases qj
          replace qa:=(HB.o.cell (World.block_lt_of_cell? w _ qa)).trans qa
          replace qd:=eq_true qd
          replace qe:=eq_true qe
          have qk:0<=(x6_1:Int):=of_decide_eq_true pQ
          have qm:x6_1 < (l1.length:Int):=of_decide_eq_true pQ
          obtain ⟨q8,q5,qb⟩:=Kd.Za5 HR1.o x6_1 qk qm
          cases q5
          replace qb:=(HB.o.cell (World.block_lt_of_cell? w _ qb)).trans qb
          replace qk:=eq_true qk
          replace qm:=eq_true qm
          go_wp2_with (first|((with_reducible refine Zam (b:=.append) (xs:=#[.tmp 40,.tmp 42]) rfl ?_);(try (refine Zau (by rfl) ?_;dsimp only));at_builtin;refine Kd.Zb1 (Kd.int .i64) (w0:=w) w.heap.size rfl (.tmp 40) (.tmp 42) 28 3 (.int .i64 0) 8 rfl Tryz.underlying28 info3 rfl (by decide) (by omega) u5 x5_1 (wrap64 ((wrap64 (rd l0 x6_1))+(rd l1 x6_1))) [.int .i64 (wrap64 ((wrap64 (rd l0 x6_1))+(rd l1 x6_1)))] (fun _=>True) (fun _=>False) rfl rfl ?aP (fun _ hk=>hk.elim) ?aF ?aO ?aB ?aS ?aL ?_;(case aP=>exact rfl);(case aB=>exact pB);(case aF=>exact (fun _ _=>trivial));(case aO=>exact (Kd.Za HO_5.o pl));(case aS=>exact (Zd pB));(case aL=>have := LMc9.o;omega);intro jb w10 ho hb hg hat;rw [<- qu.out] at ho;have qq:=am ho;replace HB:=am hb;clear HO_5 ho hb hg hat))
          go_roundg kj2
          case measure=>have := HK1.out;have := HJ2.o;omega
          case rel=>exact ⟨(qz),(wrap64 (x6_1+1)),pR,H',⟨by have := HK1.out;have := HJ2.o;omega⟩,⟨by refine rp ?_;exact qq.o⟩,⟨pB⟩⟩
         ·rw [if_neg c9] at H
          exact absurd H (by simp)
        ·rw [if_neg c8] at H
         have c8b0:decide (x6_1 < (l1.length:Int))=false:=decide_eq_false c8
         clear c8
         by_cases c11:x5_1.length < 17592186044416
         ·rw [if_pos c11] at H
          have LMc11:=am c11
          clear c11
          obtain ⟨q0,qg⟩:∃ y_:List Int,y_=(x5_1 ++ [wrap64 (rd l0 x6_1)]):=⟨_,rfl⟩
          replace H:(Zt.l0 kj2 l0 l1 q0 (wrap64 (x6_1+1)))=some r:=by have hy_:=qg;exact pH
          have qv:=am qg
          clear qg
          have H':=am H
          clear H
          have qd:0<=(x6_1:Int):=of_decide_eq_true pQ
          have qe:x6_1 < (l0.length:Int):=of_decide_eq_true pQ
          obtain ⟨qy,qj,qa⟩:=Kd.Za5 HR0.o x6_1 qd qe
          cases qj
          replace qa:=(HB.o.cell (World.block_lt_of_cell? w _ qa)).trans qa
          replace qd:=eq_true qd
          replace qe:=eq_true qe
          go_wp2_with (first|((with_reducible refine Zam (b:=.append) (xs:=#[.tmp 40,.tmp 42]) rfl ?_);(try (refine Zau (by rfl) ?_;dsimp only));at_builtin;refine Kd.Zb1 (Kd.int .i64) (w0:=w) w.heap.size rfl (.tmp 40) (.tmp 42) 28 3 (.int .i64 0) 8 rfl Tryz.underlying28 info3 rfl (by decide) (by omega) u5 x5_1 (wrap64 (rd l0 x6_1)) [.int .i64 (wrap64 (rd l0 x6_1))] (fun _=>True) (fun _=>False) rfl rfl ?aP (fun _ hk=>hk.elim) ?aF ?aO ?aB ?aS ?aL ?_;(case aP=>exact rfl);(case aB=>exact pB);(case aF=>exact (fun _ _=>trivial));(case aO=>exact (Kd.Za HO_5.o pl));(case aS=>exact (Zd pB));(case aL=>have := LMc11.o;omega);intro jc w12 ho hb hg hat;rw [<- qv.out] at ho;have qr:=am ho;replace HB:=am hb;clear HO_5 ho hb hg hat))
          go_roundg kj2
          case measure=>have := HK1.out;have := HJ2.o;omega
          case rel=>exact ⟨(q0),(wrap64 (x6_1+1)),pR,H',⟨by have := HK1.out;have := HJ2.o;omega⟩,⟨by refine rp ?_;exact qr.o⟩,⟨pB⟩⟩
         ·rw [if_neg c11] at H
          exact absurd H (by simp)
       ·rw [if_neg c7] at H
        exact absurd H (by simp)
      ·rw [if_neg c6] at H
       have c6b0:decide (x6_1 < (l0.length:Int))=false:=decide_eq_false c6
       clear c6
       by_cases c13:x6_1 < (l1.length:Int)
       ·rw [if_pos c13] at H
        have c13b0:decide (x6_1 < (l1.length:Int))=true:=decide_eq_true c13
        clear c13
        by_cases c14:0<=x6_1
        ·rw [if_pos c14] at H
         have c14b0:decide (0<=x6_1)=true:=decide_eq_true c14
         clear c14
         by_cases c15:x5_1.length < 17592186044416
         ·rw [if_pos c15] at H
          have LMc15:=am c15
          clear c15
          obtain ⟨q1,qh⟩:∃ y_:List Int,y_=(x5_1 ++ [wrap64 (rd l1 x6_1)]):=⟨_,rfl⟩
          replace H:(Zt.l0 kj2 l0 l1 q1 (wrap64 (x6_1+1)))=some r:=by have hy_:=qh;exact pH
          have qw:=am qh
          clear qh
          have H':=am H
          clear H
          have ql:0<=(x6_1:Int):=of_decide_eq_true pQ
          have qn:x6_1 < (l1.length:Int):=of_decide_eq_true pQ
          obtain ⟨q9,q6,qc⟩:=Kd.Za5 HR1.o x6_1 ql qn
          cases q6
          replace qc:=(HB.o.cell (World.block_lt_of_cell? w _ qc)).trans qc
          replace ql:=eq_true ql
          replace qn:=eq_true qn
          go_wp2_with (first|((with_reducible refine Zam (b:=.append) (xs:=#[.tmp 40,.tmp 42]) rfl ?_);(try (refine Zau (by rfl) ?_;dsimp only));at_builtin;refine Kd.Zb1 (Kd.int .i64) (w0:=w) w.heap.size rfl (.tmp 40) (.tmp 42) 28 3 (.int .i64 0) 8 rfl Tryz.underlying28 info3 rfl (by decide) (by omega) u5 x5_1 (wrap64 (rd l1 x6_1)) [.int .i64 (wrap64 (rd l1 x6_1))] (fun _=>True) (fun _=>False) rfl rfl ?aP (fun _ hk=>hk.elim) ?aF ?aO ?aB ?aS ?aL ?_;(case aP=>exact rfl);(case aB=>exact pB);(case aF=>exact (fun _ _=>trivial));(case aO=>exact (Kd.Za HO_5.o pl));(case aS=>exact (Zd pB));(case aL=>have := LMc15.o;omega);intro jd w16 ho hb hg hat;rw [<- qw.out] at ho;have qs:=am ho;replace HB:=am hb;clear HO_5 ho hb hg hat))
          go_roundg kj2
          case measure=>have := HK1.out;have := HJ2.o;omega
          case rel=>exact ⟨(q1),(wrap64 (x6_1+1)),pR,H',⟨by have := HK1.out;have := HJ2.o;omega⟩,⟨by refine rp ?_;exact qs.o⟩,⟨pB⟩⟩
         ·rw [if_neg c15] at H
          exact absurd H (by simp)
        ·rw [if_neg c14] at H
         exact absurd H (by simp)
       ·rw [if_neg c13] at H
        have c13b0:decide (x6_1 < (l1.length:Int))=false:=decide_eq_false c13
        clear c13
        by_cases c17:x5_1.length < 17592186044416
        ·rw [if_pos c17] at H
         have LMc17:=am c17
         clear c17
         obtain ⟨q2,qi⟩:∃ y_:List Int,y_=(x5_1 ++ [0]):=⟨_,rfl⟩
         replace H:(Zt.l0 kj2 l0 l1 q2 (wrap64 (x6_1+1)))=some r:=by have hy_:=qi;exact pH
         have qx:=am qi
         clear qi
         have H':=am H
         clear H
         go_wp2_with (first|((with_reducible refine Zam (b:=.append) (xs:=#[.tmp 40,.tmp 42]) rfl ?_);(try (refine Zau (by rfl) ?_;dsimp only));at_builtin;refine Kd.Zb1 (Kd.int .i64) (w0:=w) w.heap.size rfl (.tmp 40) (.tmp 42) 28 3 (.int .i64 0) 8 rfl Tryz.underlying28 info3 rfl (by decide) (by omega) u5 x5_1 0 [.int .i64 0] (fun _=>True) (fun _=>False) rfl rfl ?aP (fun _ hk=>hk.elim) ?aF ?aO ?aB ?aS ?aL ?_;(case aP=>exact rfl);(case aB=>exact pB);(case aF=>exact (fun _ _=>trivial));(case aO=>exact (Kd.Za HO_5.o pl));(case aS=>exact (Zd pB));(case aL=>have := LMc17.o;omega);intro je w18 ho hb hg hat;rw [<- qx.out] at ho;have qt:=am ho;replace HB:=am hb;clear HO_5 ho hb hg hat))
         go_roundg kj2
         case measure=>have := HK1.out;have := HJ2.o;omega
         case rel=>exact ⟨(q2),(wrap64 (x6_1+1)),pR,H',⟨by have := HK1.out;have := HJ2.o;omega⟩,⟨by refine rp ?_;exact qt.o⟩,⟨pB⟩⟩
        ·rw [if_neg c17] at H
         exact absurd H (by simp)
     ·replace c5:=Bool.eq_false_iff.mpr c5
      subst c5
      rw [if_neg (show ¬ (false=true) by decide)] at H
      obtain ⟨qo,A19,H⟩:=ob H
      obtain rfl:=Option.some.inj H
      obtain ⟨q3,q4,q7⟩:=Kd.Zj HO_5.o
      subst q7
      go_wp2_with (first|(refine gL (some 45) Tryz.func121 #[.slice q3 x5_1.length q4] (h:=?_);(with_reducible refine (Zx.calls kj2 _ _ x5_1 qo _ ?side1 ?side2 A19.o).mono ?_);(case side1=>exact Kd.Zn (Kd.Zc HO_5.o).2.2 pl);(case side2=>exact (Kd.Zc HO_5.o).2.1);rintro e w21 ⟨ja,rfl,ho0,hb⟩;refine ⟨_,rfl,?_⟩;have qp:=am (Kd.Zo (Kd.Zs ho0 (Kd.R_lt (Kd.Za HO_5.o pl))) (Zd pB));replace HO_5:=reR HO_5 ho0 hb;replace HB:=bS hb))
      go_ret
      exact ⟨_,pE,by refine rp ?_;exact Kd.Zh qp.o (fun _ hk=>trivial),pB⟩
def Zas.l0:Nat->List Int->List Int->Int->Option (Int)
 | 0,_,_,_=>none
 | k+1,x0,x1,x5=>if x5 >= 0 then (if 0<=x5 then (if x5 < (x0.length:Int) then (if x5 < (x1.length:Int) then (if (rd x0 x5) < (rd x1 x5) then (some (-1)) else (if (rd x0 x5) > (rd x1 x5) then (some 1) else (Zas.l0 k x0 x1 (wrap64 (x5 - 1))))) else (none)) else (none)) else (none)) else (some 0)
def Zas.f (k:Nat) (l0:List Int) (l1:List Int):Option (Int):=if (l0.length:Int) < (l1.length:Int) then (some (-1)) else (if (l0.length:Int) > (l1.length:Int) then (some 1) else (Zas.l0 k l0 l1 (wrap64 ((l0.length:Int) - 1))))
theorem Zas.calls (k:Nat) (A0:Option Addr) (c0:Nat) (l0:List Int) (A1:Option Addr) (c1:Nat) (l1:List Int) (r:Int) (w:World) (hr0:Kd.C (Kd.int .i64) w A0 l0.length l0) (hc0:l0.length<=c0) (hr1:Kd.C (Kd.int .i64) w A1 l1.length l1) (hc1:l1.length<=c1) (h:Zas.f k l0 l1=some r) :
  Calls Tryz.prog 94 #[.slice A0 l0.length c0,.slice A1 l1.length c1] w fun e w'=>e=.returned (.int .i64 r)/\Drawn0 w w':=by
 have HR0:=am hr0
 have HC0:=am hc0
 clear hr0 hc0
 have HR1:=am hr1
 have HC1:=am hc1
 clear hr1 hc1
 have H:(if (l0.length:Int) < (l1.length:Int) then (some (-1)) else (if (l0.length:Int) > (l1.length:Int) then (some 1) else (Zas.l0 k l0 l1 (wrap64 ((l0.length:Int) - 1)))))=some r:=h
 clear h
 by_cases c3:(l0.length:Int) < (l1.length:Int)
 ·rw [if_pos c3] at H
  have c3b0:decide ((l0.length:Int) < (l1.length:Int))=true:=decide_eq_true c3
  have c3b1:decide (l0.length < l1.length)=true:=decide_eq_true (Int.ofNat_lt.mp c3)
  clear c3
  obtain rfl:=Option.some.inj H
  go_enter Tryz.func94,Tryz.ntmps94
  go_wp2
  repeat (go_quiet (fail);try go_wp2)
  go_ret
  exact ⟨pR,pD⟩
 ·rw [if_neg c3] at H
  have c3b0:decide ((l0.length:Int) < (l1.length:Int))=false:=decide_eq_false c3
  have c3b1:decide (l0.length < l1.length)=false:=decide_eq_false (fun h=>c3 (Int.ofNat_lt.mpr h))
  clear c3
  by_cases c4:(l0.length:Int) > (l1.length:Int)
  ·rw [if_pos c4] at H
   have c4b0:decide ((l1.length:Int) < (l0.length:Int))=true:=decide_eq_true c4
   have c4b1:decide (l1.length < l0.length)=true:=decide_eq_true (Int.ofNat_lt.mp c4)
   clear c4
   obtain rfl:=Option.some.inj H
   go_enter Tryz.func94,Tryz.ntmps94
   go_wp2
   repeat (go_quiet (fail);try go_wp2)
   go_ret
   exact ⟨pR,pD⟩
  ·rw [if_neg c4] at H
   have c4b0:decide ((l1.length:Int) < (l0.length:Int))=false:=decide_eq_false c4
   have c4b1:decide (l1.length < l0.length)=false:=decide_eq_false (fun h=>c4 (Int.ofNat_lt.mpr h))
   clear c4
   have H':=am H
   clear H
   go_enter Tryz.func94,Tryz.ntmps94
   go_wp2
   repeat (go_quiet (fail);try go_wp2)
   go_loopg [5] k (fun kq v5 w' => ∃ (x5_1:Int),v5=.int .i64 x5_1/\Aside0 (Zas.l0 kq l0 l1 x5_1=some r)/\Aside0 (kq<=k)/\Drawn0 w w')
   case atStart=>exact ⟨(wrap64 ((l0.length:Int) - 1)),pR,H',⟨Nat.le_refl _⟩,pD⟩
   case round =>
    clear H'
    obtain ⟨x5_1,rfl,HA,HK1,⟨m1,rfl⟩⟩:=hrel
    cases gk with
    | zero=>exact absurd HA.out (by simp [Zas.l0])
    | succ k1 =>
     have H:=HA.out
     clear HA
     simp only [Zas.l0] at H
     by_cases c5:x5_1 >= 0
     ·rw [if_pos c5] at H
      have c5b0:decide (0<=x5_1)=true:=decide_eq_true c5
      clear c5
      by_cases c6:0<=x5_1
      ·rw [if_pos c6] at H
       have c6b0:decide (0<=x5_1)=true:=decide_eq_true c6
       clear c6
       by_cases c7:x5_1 < (l0.length:Int)
       ·rw [if_pos c7] at H
        have c7b0:decide (x5_1 < (l0.length:Int))=true:=decide_eq_true c7
        clear c7
        by_cases c8:x5_1 < (l1.length:Int)
        ·rw [if_pos c8] at H
         have c8b0:decide (x5_1 < (l1.length:Int))=true:=decide_eq_true c8
         clear c8
         by_cases c9:(rd l0 x5_1) < (rd l1 x5_1)
         ·rw [if_pos c9] at H
          have c9b0:decide ((rd l0 x5_1) < (rd l1 x5_1))=true:=decide_eq_true c9
          clear c9
          obtain rfl:=Option.some.inj H
          have qa:0<=(x5_1:Int):=of_decide_eq_true pQ
          have qc:x5_1 < (l0.length:Int):=of_decide_eq_true pQ
          obtain ⟨qi,qo,qk⟩:=Kd.Za5 HR0.o x5_1 qa qc
          cases qo
          replace qa:=eq_true qa
          replace qc:=eq_true qc
          have qb:0<=(x5_1:Int):=of_decide_eq_true pQ
          have qd:x5_1 < (l1.length:Int):=of_decide_eq_true pQ
          obtain ⟨qj,qp,ql⟩:=Kd.Za5 HR1.o x5_1 qb qd
          cases qp
          replace qb:=eq_true qb
          replace qd:=eq_true qd
          go_wp2
          repeat (go_quiet (fail);try go_wp2)
          go_ret
          exact ⟨pR,pD⟩
         ·rw [if_neg c9] at H
          have c9b0:decide ((rd l0 x5_1) < (rd l1 x5_1))=false:=decide_eq_false c9
          clear c9
          by_cases c10:(rd l0 x5_1) > (rd l1 x5_1)
          ·rw [if_pos c10] at H
           have c10b0:decide ((rd l1 x5_1) < (rd l0 x5_1))=true:=decide_eq_true c10
           clear c10
           obtain rfl:=Option.some.inj H
           have qa:0<=(x5_1:Int):=of_decide_eq_true pQ
           have qc:x5_1 < (l0.length:Int):=of_decide_eq_true pQ
           obtain ⟨qi,qo,qk⟩:=Kd.Za5 HR0.o x5_1 qa qc
           cases qo
           replace qa:=eq_true qa
           replace qc:=eq_true qc
           have qb:0<=(x5_1:Int):=of_decide_eq_true pQ
           have qd:x5_1 < (l1.length:Int):=of_decide_eq_true pQ
           obtain ⟨qj,qp,ql⟩:=Kd.Za5 HR1.o x5_1 qb qd
           cases qp
           replace qb:=eq_true qb
           replace qd:=eq_true qd
           have qe:0<=(x5_1:Int):=of_decide_eq_true pQ
           have qg:x5_1 < (l0.length:Int):=of_decide_eq_true pQ
           obtain ⟨qm,qs,qq⟩:=Kd.Za5 HR0.o x5_1 qe qg
           obtain rfl:qi=qm:=(by injection qs)
           replace qe:=eq_true qe
           replace qg:=eq_true qg
           have qf:0<=(x5_1:Int):=of_decide_eq_true pQ
           have qh:x5_1 < (l1.length:Int):=of_decide_eq_true pQ
           obtain ⟨qn,qt,qr⟩:=Kd.Za5 HR1.o x5_1 qf qh
           obtain rfl:qj=qn:=(by injection qt)
           replace qf:=eq_true qf
           replace qh:=eq_true qh
           go_wp2
           repeat (go_quiet (fail);try go_wp2)
           go_ret
           exact ⟨pR,pD⟩
          ·rw [if_neg c10] at H
           have c10b0:decide ((rd l1 x5_1) < (rd l0 x5_1))=false:=decide_eq_false c10
           clear c10
           have H':=am H
           clear H
           have qa:0<=(x5_1:Int):=of_decide_eq_true pQ
           have qc:x5_1 < (l0.length:Int):=of_decide_eq_true pQ
           obtain ⟨qi,qo,qk⟩:=Kd.Za5 HR0.o x5_1 qa qc
           cases qo
           replace qa:=eq_true qa
           replace qc:=eq_true qc
           have qb:0<=(x5_1:Int):=of_decide_eq_true pQ
           have qd:x5_1 < (l1.length:Int):=of_decide_eq_true pQ
           obtain ⟨qj,qp,ql⟩:=Kd.Za5 HR1.o x5_1 qb qd
           cases qp
           replace qb:=eq_true qb
           replace qd:=eq_true qd
           have qe:0<=(x5_1:Int):=of_decide_eq_true pQ
           have qg:x5_1 < (l0.length:Int):=of_decide_eq_true pQ
           obtain ⟨qm,qs,qq⟩:=Kd.Za5 HR0.o x5_1 qe qg
           obtain rfl:qi=qm:=(by injection qs)
           replace qe:=eq_true qe
           replace qg:=eq_true qg
           have qf:0<=(x5_1:Int):=of_decide_eq_true pQ
           have qh:x5_1 < (l1.length:Int):=of_decide_eq_true pQ
           obtain ⟨qn,qt,qr⟩:=Kd.Za5 HR1.o x5_1 qf qh
           obtain rfl:qj=qn:=(by injection qt)
           replace qf:=eq_true qf
           replace qh:=eq_true qh
           go_wp2
           repeat (go_quiet (fail);try go_wp2)
           go_roundg k1
           case measure=>have := HK1.out;omega
           case rel=>exact ⟨(wrap64 (x5_1 - 1)),pR,H',⟨by have := HK1.out;omega⟩,pD⟩
        ·rw [if_neg c8] at H
         exact absurd H (by simp)
       ·rw [if_neg c7] at H
        exact absurd H (by simp)
      ·rw [if_neg c6] at H
       exact absurd H (by simp)
     ·rw [if_neg c5] at H
      have c5b0:decide (0<=x5_1)=false:=decide_eq_false c5
      clear c5
      obtain rfl:=Option.some.inj H
      go_wp2
      repeat (go_quiet (fail);try go_wp2)
      go_ret
      exact ⟨pR,pD⟩
def Zbc.f (l0:List Int) (a1:Int):Option (List Int):=if (l0.length:Int)=0 then (some ([]:List Int)) else (if 0<=a1 then (if (a1:Int).toNat<=35184372088832 then ((some (List.replicate (a1:Int).toNat 0:List Int)).bind fun qa=>(if qa.length+l0.length < 17592186044416 then (some (qa++l0)) else (none))) else (none)) else (none))
theorem Zbc.calls (A0:Option Addr) (c0:Nat) (l0:List Int) (a1:Int) (r:List Int) (w:World) (hr0:Kd.C (Kd.int .i64) w A0 l0.length l0) (hc0:l0.length<=c0) (h:Zbc.f l0 a1=some r) :
  Calls Tryz.prog 93 #[.slice A0 l0.length c0,.int .i64 a1] w fun e w' => ∃ v0_:Value,e=.returned (v0_)/\Kd.R (Kd.int .i64) 3 w' w.heap.size (fun _=>True) v0_ r/\Below w.heap.size w w':=by
 have HR0:=am hr0
 have HC0:=am hc0
 clear hr0 hc0
 have HB:=am (Below.refl w.heap.size w)
 have H:(if (l0.length:Int)=0 then (some ([]:List Int)) else (if 0<=a1 then (if (a1:Int).toNat<=35184372088832 then ((some (List.replicate (a1:Int).toNat 0:List Int)).bind fun qa=>(if qa.length+l0.length < 17592186044416 then (some (qa++l0)) else (none))) else (none)) else (none)))=some r:=h
 clear h
 by_cases c3:(l0.length:Int)=0
 ·rw [if_pos c3] at H
  have c3b0:((l0.length:Int) == 0)=true:=beq_iff_eq.mpr c3
  have c3b1:((l0.length:Int) != 0)=false:=bne_eq_false_iff_eq.mpr c3
  clear c3
  obtain rfl:=Option.some.inj H
  go_enter Tryz.func93,Tryz.ntmps93
  go_wp2
  go_ret
  exact ⟨_,pE,pN,pB⟩
 ·rw [if_neg c3] at H
  have c3b0:((l0.length:Int) == 0)=false:=beq_eq_false_iff_ne.mpr c3
  have c3b1:((l0.length:Int) != 0)=true:=bne_iff_ne.mpr c3
  have c3b2:¬ (l0=[]):=fun h_=>c3 (by rw [h_];rfl)
  by_cases c4:0<=a1
  ·rw [if_pos c4] at H
   have c4b0:=eq_true c4
   have c4b1:decide (0<=a1)=true:=decide_eq_true c4
   clear c4
   by_cases c5:(a1:Int).toNat<=35184372088832
   ·rw [if_pos c5] at H
    have c5b0:=eq_true c5
    have c5b1:decide ((a1:Int).toNat<=35184372088832)=true:=decide_eq_true c5
    clear c5
    obtain ⟨qa,qb⟩:∃ y_:List Int,y_=(List.replicate (a1:Int).toNat 0):=⟨_,rfl⟩
    replace H:(if qa.length+l0.length < 17592186044416 then (some (qa++l0)) else (none))=some r:=by have hy_:=qb;exact pH
    have qe:=am qb
    clear qb
    by_cases c6:qa.length+l0.length < 17592186044416
    ·rw [if_pos c6] at H
     have LMc6:=am c6
     clear c6
     obtain ⟨qi,qc⟩:∃ y_:List Int,y_=(qa++l0):=⟨_,rfl⟩
     replace H:(some qi)=some r:=by have hy_:=qc;exact pH
     have qg:=am qc
     clear qc
     obtain rfl:=Option.some.inj H
     go_enter Tryz.func93,Tryz.ntmps93
     go_wp2_with (first|((with_reducible refine gd 10 ?_);refine Kd.Zlr (Kd.int .i64) _ 3 rfl (N:=10) rfl 28 _ _ rfl a1 rfl rfl Tryz.underlying28 (.int .i64 0) 8 info3 rfl (by decide) (by omega) 0 (ok:=fun _=>True) (okp:=fun _=>True) rfl (fun _ hk=>hk) trivial (of_decide_eq_true pQ) (Nat.le_trans (Nat.mul_le_mul_right _ (of_decide_eq_true pQ:a1.toNat<=35184372088832)) (by omega)) (Below.refl _ _) (Nat.le_refl _) ?_;intro qh w7 ho8 hb hg_ hnew_;clear hg_ hnew_;(first|rw [<- qe.out] at ho8|(simp only [Int.reduceToNat] at ho8;rw [<- qe.out] at ho8));have qd:=am (Kd.Zo ho8 (Zd pB));replace HB:=bS hb;clear hb ho8)|((with_reducible refine Zam (b:=.append) (xs:=#[.tmp 11,.tmp 12]) rfl ?_);at_builtin;refine Kd.Zeg (Kd.int .i64) (w0:=w) w.heap.size rfl (.tmp 11) (.tmp 12) 28 3 (.int .i64 0) 8 rfl Tryz.underlying28 info3 rfl (by decide) (by omega) qh qa l0 _ _ _ (fun _=>True) (fun _=>False) rfl rfl ?aO ?aR (fun _ _ h=>h) (fun _ h=>h.elim) ?aF ?aB ?aS ?aL ?_;(case aR=>exact cB HR0 HB);(case aB=>exact pB);(case aF=>exact (fun _ _=>trivial));(case aO=>exact (Kd.Za qd.o pl));(case aS=>exact (Zd pB));(case aL=>have := LMc6.o;omega);intro qj w9 ho hb hg hat;rw [<- qg.out] at ho;have qf:=am ho;replace HB:=am hb;clear qd ho hb hg hat))
     go_ret
     exact ⟨_,pE,by refine rp ?_;exact qf.o,pB⟩
    ·rw [if_neg c6] at H
     exact absurd H (by simp)
   ·rw [if_neg c5] at H
    exact absurd H (by simp)
  ·rw [if_neg c4] at H
   exact absurd H (by simp)
def Zy.l0:Nat->List Int->List Int->List Int->Int->Int->Option (List Int)
 | 0,_,_,_,_,_=>none
 | k+1,x0,x1,x5,x6,x7=>if x7 < (x0.length:Int) then (if 0<=x7 then (if x7 < (x1.length:Int) then (if (wrap64 ((wrap64 ((rd x0 x7) - x6)) - (rd x1 x7))) < 0 then (if x5.length < 17592186044416 then (Zy.l0 k x0 x1 (x5 ++ [wrap64 ((wrap64 ((wrap64 ((rd x0 x7) - x6)) - (rd x1 x7)))+10)]) 1 (wrap64 (x7+1))) else (none)) else (if x5.length < 17592186044416 then (Zy.l0 k x0 x1 (x5 ++ [wrap64 ((wrap64 ((rd x0 x7) - x6)) - (rd x1 x7))]) 0 (wrap64 (x7+1))) else (none))) else (if (wrap64 ((rd x0 x7) - x6)) < 0 then (if x5.length < 17592186044416 then (Zy.l0 k x0 x1 (x5 ++ [wrap64 ((wrap64 ((rd x0 x7) - x6))+10)]) 1 (wrap64 (x7+1))) else (none)) else (if x5.length < 17592186044416 then (Zy.l0 k x0 x1 (x5 ++ [wrap64 ((rd x0 x7) - x6)]) 0 (wrap64 (x7+1))) else (none)))) else (none)) else ((Zah.f k x5).bind fun qp=>(some qp))
def Zy.f (k:Nat) (l0:List Int) (l1:List Int):Option (List Int):=Zy.l0 k l0 l1 ([]:List Int) 0 0
theorem Zy.calls (k:Nat) (A0:Option Addr) (c0:Nat) (l0:List Int) (A1:Option Addr) (c1:Nat) (l1:List Int) (r:List Int) (w:World) (hr0:Kd.C (Kd.int .i64) w A0 l0.length l0) (hc0:l0.length<=c0) (hr1:Kd.C (Kd.int .i64) w A1 l1.length l1) (hc1:l1.length<=c1) (h:Zy.f k l0 l1=some r) :
  Calls Tryz.prog 134 #[.slice A0 l0.length c0,.slice A1 l1.length c1] w fun e w' => ∃ v0_:Value,e=.returned (v0_)/\Kd.R (Kd.int .i64) 3 w' w.heap.size (fun _=>True) v0_ r/\Below w.heap.size w w':=by
 have HR0:=am hr0
 have HC0:=am hc0
 clear hr0 hc0
 have HR1:=am hr1
 have HC1:=am hc1
 clear hr1 hc1
 have HB:=am (Below.refl w.heap.size w)
 have H:(Zy.l0 k l0 l1 ([]:List Int) 0 0)=some r:=h
 clear h
 have H':=am H
 clear H
 go_enter Tryz.func134,Tryz.ntmps134
 go_wp2
 go_loopg [5,6,7] k (fun kq v5 v6 v7 w' => ∃ (x5_1:List Int) (x6_1:Int) (x7_1:Int),v6=.int .i64 x6_1/\v7=.int .i64 x7_1/\Aside0 (Zy.l0 kq l0 l1 x5_1 x6_1 x7_1=some r)/\Aside0 (kq<=k)/\Aside0 (Kd.R (Kd.int .i64) 3 w' w.heap.size (fun _=>True) v5 x5_1)/\Aside0 (Below w.heap.size w w'))
 case atStart=>exact ⟨(([]:List Int)),(0),(0),pR,pR,H',⟨Nat.le_refl _⟩,⟨pN⟩,⟨pB⟩⟩
 case round =>
  clear H'
  obtain ⟨x5_1,x6_1,x7_1,rfl,rfl,HA,HK1,HO_5,HB⟩:=hrel
  cases gk with
  | zero=>exact absurd HA.out (by simp [Zy.l0])
  | succ k1 =>
   have H:=HA.out
   clear HA
   simp only [Zy.l0] at H
   by_cases c3:x7_1 < (l0.length:Int)
   ·rw [if_pos c3] at H
    have c3b0:decide (x7_1 < (l0.length:Int))=true:=decide_eq_true c3
    clear c3
    by_cases c4:0<=x7_1
    ·rw [if_pos c4] at H
     have c4b0:decide (0<=x7_1)=true:=decide_eq_true c4
     clear c4
     by_cases c5:x7_1 < (l1.length:Int)
     ·rw [if_pos c5] at H
      have c5b0:decide (x7_1 < (l1.length:Int))=true:=decide_eq_true c5
      clear c5
      by_cases c6:(wrap64 ((wrap64 ((rd l0 x7_1) - x6_1)) - (rd l1 x7_1))) < 0
      ·rw [if_pos c6] at H
       have c6b0:decide ((wrap64 ((wrap64 ((rd l0 x7_1) - x6_1)) - (rd l1 x7_1))) < 0)=true:=decide_eq_true c6
       clear c6
       by_cases c7:x5_1.length < 17592186044416
       ·rw [if_pos c7] at H
        have LMc7:=am c7
        clear c7
        obtain ⟨q0,qi⟩:∃ y_:List Int,y_=(x5_1 ++ [wrap64 ((wrap64 ((wrap64 ((rd l0 x7_1) - x6_1)) - (rd l1 x7_1)))+10)]):=⟨_,rfl⟩
        replace H:(Zy.l0 k1 l0 l1 q0 1 (wrap64 (x7_1+1)))=some r:=by have hy_:=qi;exact pH
        have qv:=am qi
        clear qi
        have H':=am H
        clear H
        have qc:0<=(x7_1:Int):=of_decide_eq_true pQ
        have qd:x7_1 < (l0.length:Int):=of_decide_eq_true pQ
        obtain ⟨qh,qe,qa⟩:=Kd.Za5 HR0.o x7_1 qc qd
        cases qe
        replace qa:=(HB.o.cell (World.block_lt_of_cell? w _ qa)).trans qa
        replace qc:=eq_true qc
        replace qd:=eq_true qd
        have qf:0<=(x7_1:Int):=of_decide_eq_true pQ
        have qg:x7_1 < (l1.length:Int):=of_decide_eq_true pQ
        obtain ⟨qz,qo,qb⟩:=Kd.Za5 HR1.o x7_1 qf qg
        cases qo
        replace qb:=(HB.o.cell (World.block_lt_of_cell? w _ qb)).trans qb
        replace qf:=eq_true qf
        replace qg:=eq_true qg
        go_wp2_with (first|((with_reducible refine Zam (b:=.append) (xs:=#[.tmp 35,.tmp 37]) rfl ?_);at_builtin;refine Kd.Zb1 (Kd.int .i64) (w0:=w) w.heap.size rfl (.tmp 35) (.tmp 37) 28 3 (.int .i64 0) 8 rfl Tryz.underlying28 info3 rfl (by decide) (by omega) u5 x5_1 (wrap64 ((wrap64 ((wrap64 ((rd l0 x7_1) - x6_1)) - (rd l1 x7_1)))+10)) [.int .i64 (wrap64 ((wrap64 ((wrap64 ((rd l0 x7_1) - x6_1)) - (rd l1 x7_1)))+10))] (fun _=>True) (fun _=>False) rfl rfl ?aP (fun _ hk=>hk.elim) ?aF ?aO ?aB ?aS ?aL ?_;(case aP=>exact rfl);(case aB=>exact pB);(case aF=>exact (fun _ _=>trivial));(case aO=>exact (Kd.Za HO_5.o pl));(case aS=>exact (Zd pB));(case aL=>have := LMc7.o;omega);intro q6 w8 ho hb hg hat;rw [<- qv.out] at ho;have qr:=am ho;replace HB:=am hb;clear HO_5 ho hb hg hat))
        go_roundg k1
        case measure=>have := HK1.out;omega
        case rel=>exact ⟨(q0),(1),(wrap64 (x7_1+1)),pR,pR,H',⟨by have := HK1.out;omega⟩,⟨by refine rp ?_;exact qr.o⟩,⟨pB⟩⟩
       ·rw [if_neg c7] at H
        exact absurd H (by simp)
      ·rw [if_neg c6] at H
       have c6b0:decide ((wrap64 ((wrap64 ((rd l0 x7_1) - x6_1)) - (rd l1 x7_1))) < 0)=false:=decide_eq_false c6
       clear c6
       by_cases c9:x5_1.length < 17592186044416
       ·rw [if_pos c9] at H
        have LMc9:=am c9
        clear c9
        obtain ⟨q1,qj⟩:∃ y_:List Int,y_=(x5_1 ++ [wrap64 ((wrap64 ((rd l0 x7_1) - x6_1)) - (rd l1 x7_1))]):=⟨_,rfl⟩
        replace H:(Zy.l0 k1 l0 l1 q1 0 (wrap64 (x7_1+1)))=some r:=by have hy_:=qj;exact pH
        have qw:=am qj
        clear qj
        have H':=am H
        clear H
        have qc:0<=(x7_1:Int):=of_decide_eq_true pQ
        have qd:x7_1 < (l0.length:Int):=of_decide_eq_true pQ
        obtain ⟨qh,qe,qa⟩:=Kd.Za5 HR0.o x7_1 qc qd
        cases qe
        replace qa:=(HB.o.cell (World.block_lt_of_cell? w _ qa)).trans qa
        replace qc:=eq_true qc
        replace qd:=eq_true qd
        have qf:0<=(x7_1:Int):=of_decide_eq_true pQ
        have qg:x7_1 < (l1.length:Int):=of_decide_eq_true pQ
        obtain ⟨qz,qo,qb⟩:=Kd.Za5 HR1.o x7_1 qf qg
        cases qo
        replace qb:=(HB.o.cell (World.block_lt_of_cell? w _ qb)).trans qb
        replace qf:=eq_true qf
        replace qg:=eq_true qg
        go_wp2_with (first|((with_reducible refine Zam (b:=.append) (xs:=#[.tmp 35,.tmp 37]) rfl ?_);at_builtin;refine Kd.Zb1 (Kd.int .i64) (w0:=w) w.heap.size rfl (.tmp 35) (.tmp 37) 28 3 (.int .i64 0) 8 rfl Tryz.underlying28 info3 rfl (by decide) (by omega) u5 x5_1 (wrap64 ((wrap64 ((rd l0 x7_1) - x6_1)) - (rd l1 x7_1))) [.int .i64 (wrap64 ((wrap64 ((rd l0 x7_1) - x6_1)) - (rd l1 x7_1)))] (fun _=>True) (fun _=>False) rfl rfl ?aP (fun _ hk=>hk.elim) ?aF ?aO ?aB ?aS ?aL ?_;(case aP=>exact rfl);(case aB=>exact pB);(case aF=>exact (fun _ _=>trivial));(case aO=>exact (Kd.Za HO_5.o pl));(case aS=>exact (Zd pB));(case aL=>have := LMc9.o;omega);intro q7 w10 ho hb hg hat;rw [<- qw.out] at ho;have qs:=am ho;replace HB:=am hb;clear HO_5 ho hb hg hat))
        go_roundg k1
        case measure=>have := HK1.out;omega
        case rel=>exact ⟨(q1),(0),(wrap64 (x7_1+1)),pR,pR,H',⟨by have := HK1.out;omega⟩,⟨by refine rp ?_;exact qs.o⟩,⟨pB⟩⟩
       ·rw [if_neg c9] at H
        exact absurd H (by simp)
     ·rw [if_neg c5] at H
      have c5b0:decide (x7_1 < (l1.length:Int))=false:=decide_eq_false c5
      clear c5
      by_cases c11:(wrap64 ((rd l0 x7_1) - x6_1)) < 0
      ·rw [if_pos c11] at H
       have c11b0:decide ((wrap64 ((rd l0 x7_1) - x6_1)) < 0)=true:=decide_eq_true c11
       clear c11
       by_cases c12:x5_1.length < 17592186044416
       ·rw [if_pos c12] at H
        have LMc12:=am c12
        clear c12
        obtain ⟨q2,qk⟩:∃ y_:List Int,y_=(x5_1 ++ [wrap64 ((wrap64 ((rd l0 x7_1) - x6_1))+10)]):=⟨_,rfl⟩
        replace H:(Zy.l0 k1 l0 l1 q2 1 (wrap64 (x7_1+1)))=some r:=by have hy_:=qk;exact pH
        have qx:=am qk
        clear qk
        have H':=am H
        clear H
        have qc:0<=(x7_1:Int):=of_decide_eq_true pQ
        have qd:x7_1 < (l0.length:Int):=of_decide_eq_true pQ
        obtain ⟨qh,qe,qa⟩:=Kd.Za5 HR0.o x7_1 qc qd
        cases qe
        replace qa:=(HB.o.cell (World.block_lt_of_cell? w _ qa)).trans qa
        replace qc:=eq_true qc
        replace qd:=eq_true qd
        go_wp2_with (first|((with_reducible refine Zam (b:=.append) (xs:=#[.tmp 35,.tmp 37]) rfl ?_);at_builtin;refine Kd.Zb1 (Kd.int .i64) (w0:=w) w.heap.size rfl (.tmp 35) (.tmp 37) 28 3 (.int .i64 0) 8 rfl Tryz.underlying28 info3 rfl (by decide) (by omega) u5 x5_1 (wrap64 ((wrap64 ((rd l0 x7_1) - x6_1))+10)) [.int .i64 (wrap64 ((wrap64 ((rd l0 x7_1) - x6_1))+10))] (fun _=>True) (fun _=>False) rfl rfl ?aP (fun _ hk=>hk.elim) ?aF ?aO ?aB ?aS ?aL ?_;(case aP=>exact rfl);(case aB=>exact pB);(case aF=>exact (fun _ _=>trivial));(case aO=>exact (Kd.Za HO_5.o pl));(case aS=>exact (Zd pB));(case aL=>have := LMc12.o;omega);intro q8 w13 ho hb hg hat;rw [<- qx.out] at ho;have qt:=am ho;replace HB:=am hb;clear HO_5 ho hb hg hat))
        go_roundg k1
        case measure=>have := HK1.out;omega
        case rel=>exact ⟨(q2),(1),(wrap64 (x7_1+1)),pR,pR,H',⟨by have := HK1.out;omega⟩,⟨by refine rp ?_;exact qt.o⟩,⟨pB⟩⟩
       ·rw [if_neg c12] at H
        exact absurd H (by simp)
      ·rw [if_neg c11] at H
       have c11b0:decide ((wrap64 ((rd l0 x7_1) - x6_1)) < 0)=false:=decide_eq_false c11
       clear c11
       by_cases c14:x5_1.length < 17592186044416
       ·rw [if_pos c14] at H
        have LMc14:=am c14
        clear c14
        obtain ⟨q3,ql⟩:∃ y_:List Int,y_=(x5_1 ++ [wrap64 ((rd l0 x7_1) - x6_1)]):=⟨_,rfl⟩
        replace H:(Zy.l0 k1 l0 l1 q3 0 (wrap64 (x7_1+1)))=some r:=by have hy_:=ql;exact pH
        have qy:=am ql
        clear ql
        have H':=am H
        clear H
        have qc:0<=(x7_1:Int):=of_decide_eq_true pQ
        have qd:x7_1 < (l0.length:Int):=of_decide_eq_true pQ
        obtain ⟨qh,qe,qa⟩:=Kd.Za5 HR0.o x7_1 qc qd
        cases qe
        replace qa:=(HB.o.cell (World.block_lt_of_cell? w _ qa)).trans qa
        replace qc:=eq_true qc
        replace qd:=eq_true qd
        go_wp2_with (first|((with_reducible refine Zam (b:=.append) (xs:=#[.tmp 35,.tmp 37]) rfl ?_);at_builtin;refine Kd.Zb1 (Kd.int .i64) (w0:=w) w.heap.size rfl (.tmp 35) (.tmp 37) 28 3 (.int .i64 0) 8 rfl Tryz.underlying28 info3 rfl (by decide) (by omega) u5 x5_1 (wrap64 ((rd l0 x7_1) - x6_1)) [.int .i64 (wrap64 ((rd l0 x7_1) - x6_1))] (fun _=>True) (fun _=>False) rfl rfl ?aP (fun _ hk=>hk.elim) ?aF ?aO ?aB ?aS ?aL ?_;(case aP=>exact rfl);(case aB=>exact pB);(case aF=>exact (fun _ _=>trivial));(case aO=>exact (Kd.Za HO_5.o pl));(case aS=>exact (Zd pB));(case aL=>have := LMc14.o;omega);intro q9 w15 ho hb hg hat;rw [<- qy.out] at ho;have qu:=am ho;replace HB:=am hb;clear HO_5 ho hb hg hat))
        go_roundg k1
        case measure=>have := HK1.out;omega
        case rel=>exact ⟨(q3),(0),(wrap64 (x7_1+1)),pR,pR,H',⟨by have := HK1.out;omega⟩,⟨by refine rp ?_;exact qu.o⟩,⟨pB⟩⟩
       ·rw [if_neg c14] at H
        exact absurd H (by simp)
    ·rw [if_neg c4] at H
     exact absurd H (by simp)
   ·rw [if_neg c3] at H
    have c3b0:decide (x7_1 < (l0.length:Int))=false:=decide_eq_false c3
    clear c3
    obtain ⟨qp,A16,H⟩:=ob H
    obtain rfl:=Option.some.inj H
    obtain ⟨qm,qn,q4⟩:=Kd.Zj HO_5.o
    subst q4
    go_wp2_with (first|(refine gL (some 40) Tryz.func79 #[.slice qm x5_1.length qn] (h:=?_);(with_reducible refine (Zah.calls k1 (fun k_=>some k_=(.slice qm x5_1.length qn:Value).ownBlock) (.slice qm x5_1.length qn) x5_1 qp w _ ?side1 ?side2 A16.o).mono ?_);(case side1=>exact pB);(case side2=>exact Kd.Zbj rfl HO_5.o);rintro e w18 ⟨q5,rfl,ho0,hb,hkp⟩;refine ⟨_,rfl,?_⟩;have qq:=am (Kd.Zh (ok':=fun k_=>True) ho0 (fun k_ hk_=>trivial));replace HB:=am hb;clear HO_5))
    go_ret
    exact ⟨_,pE,by refine rp ?_;exact qq.o,pB⟩
end YtjbjkmccfocikaaGreatDoor.B
end
section
namespace YtjbjkmccfocikaaGreatDoor.P
open Go.RowKit YtjbjkmccfocikaaGreatDoor.B YtjbjkmccfocikaaGreatDoorW.PrintWords YtjbjkmccfocikaaGreatDoor.P.Nm
def cmpN (a b:Nat):Int:=if a < b then -1 else if b < a then 1 else 0
theorem Zh7 {b:Int} (l:List Int) (j:Nat) (h:j<=l.length):val b l=val b (l.take j)+pw b j*val b (l.drop j):=by
 conv=>lhs;rw [<- List.take_append_drop j l]
 rw [Zfz,List.length_take,Nat.min_eq_left h]
theorem Zl0 {a b:List Int} (ha:Dg 10 a) (hb:Dg 10 b) (hl:a.length=b.length) {j:Nat} (hj:j < a.length) (hd:a.drop (j+1)=b.drop (j+1)) (h:a.getD j 0 < b.getD j 0):val 10 a < val 10 b:=by
 rw [Zh7 a j (by omega),Zh7 b j (by omega),Zf8 hj,Zf8 (show j < b.length by omega),hd,Zb3,Zb3]
 have h1:=Zdz (b:=10) (by omega) (ha.take j)
 have h2:=Zbt (b:=10) (by omega) (hb.take j)
 rw [List.length_take,Nat.min_eq_left (by omega)] at h1
 have hp:=Zer (b:=10) (by omega) j
 have h3:=Int.mul_le_mul_of_nonneg_left (show a.getD j 0+10*val 10 (b.drop (j+1))+1<=b.getD j 0+10*val 10 (b.drop (j+1)) by omega) (Int.le_of_lt hp)
 rw [Int.mul_add (pw 10 j) (_+_) 1] at h3
 omega
theorem Zln (x y:List Int) (hx:Dg 10 x) (hy:Dg 10 y) (hl:x.length=y.length) (hb:x.length<=1000000) (m n:Nat) (hm:val 10 x=m) (hn:val 10 y=n):∀ j:Nat,j<=x.length->x.drop j=y.drop j->Tells (fun k=>Zas.l0 k x y ((j:Int) - 1)) (cmpN m n)
 | 0,h,hd=>by
  refine Tells.succ ?_
  simp only [Zas.l0]
  refine Tells.ifn (by omega) ((Tells.pure _).val ?_)
  rw [List.drop_zero,List.drop_zero] at hd
  rw [hd] at hm
  unfold cmpN
  rw [if_neg (by omega),if_neg (by omega)]
 | j+1,h,hd=>by
  have hj:j < x.length:=by omega
  have hj2:j < y.length:=by omega
  have c0:(j:Int) >= 0:=by omega
  have c1:(0:Int)<=(j:Int):=by omega
  have c2:(j:Int) < (x.length:Int):=by omega
  have c3:(j:Int) < (y.length:Int):=by omega
  refine Tells.succ ?_
  simp only [Zas.l0]
  rw [Zhr,rd_n,rd_n,w64d (by omega)]
  refine Tells.ifp c0 (Tells.ifp c1 (Tells.ifp c2 (Tells.ifp c3 ?_)))
  by_cases h1:x.getD j 0 < y.getD j 0
  ·refine Tells.ifp h1 ((Tells.pure _).val ?_)
   have := Zl0 hx hy hl hj hd h1
   unfold cmpN;rw [if_pos (by omega)]
  ·refine Tells.ifn h1 ?_
   by_cases h2:y.getD j 0 < x.getD j 0
   ·refine Tells.ifp h2 ((Tells.pure _).val ?_)
    have := Zl0 hy hx hl.symm hj2 hd.symm h2
    unfold cmpN;rw [if_neg (by omega),if_pos (by omega)]
   ·refine Tells.ifn h2 (Zln x y hx hy hl hb m n hm hn j (by omega) ?_)
    rw [Zf8 hj,Zf8 hj2,hd]
    congr 1
    omega
theorem Zkn (m n:Nat) (hm:nd m<=1000000):Tells (fun k=>Zas.f k (digs m) (digs n)) (cmpN m n):=by
 unfold Zas.f
 have hm':(digs m).length<=1000000:=hm
 by_cases h1:(digs m).length < (digs n).length
 ·refine Tells.ifp (by omega) ((Tells.pure _).val ?_)
  have := Zel (b:=10) (by omega) (Zdk m) (Zdk n) (Zi3 n) h1
  rw [Zdc,Zdc] at this
  unfold cmpN;rw [if_pos (by omega)]
 ·refine Tells.ifn (by omega) ?_
  by_cases h2:(digs n).length < (digs m).length
  ·refine Tells.ifp (by omega) ((Tells.pure _).val ?_)
   have := Zel (b:=10) (by omega) (Zdk n) (Zdk m) (Zi3 m) h2
   rw [Zdc,Zdc] at this
   unfold cmpN;rw [if_neg (by omega),if_pos (by omega)]
  ·refine Tells.ifn (by omega) ?_
   have h3:(digs m).length=(digs n).length:=by omega
   have := Zln (digs m) (digs n) (Zdk m) (Zdk n) h3 hm m n (Zdc m) (Zdc n) (digs m).length (Nat.le_refl _) (by rw [List.drop_length,h3,List.drop_length])
   rw [w64d (by omega)]
   exact this
theorem Zck {b:Int} (l:List Int) (k:Nat):val b (l.take (k+1))=val b (l.take k)+pw b k*l.getD k 0:=by
 by_cases h:k < l.length
 ·rw [Zh4 h,Zdm,List.length_take,Nat.min_eq_left (by omega)]
 ·rw [List.take_of_length_le (by omega),List.take_of_length_le (by omega),List.getD,List.getElem?_eq_none (by omega)]
  simp
theorem Zi2 {b:Int} (hb:0 < b) {l:List Int} (h:Dg b l) (i:Nat):0<=l.getD i 0/\l.getD i 0 < b:=by
 by_cases hk:i < l.length
 ·exact Zn8 h hk
 ·rw [List.getD,List.getElem?_eq_none (by omega)];exact ⟨Int.le_refl _,hb⟩
theorem Ze5 {l:List Int} {i:Nat} (h:l.length<=i):l.getD i 0=0:=by rw [List.getD,List.getElem?_eq_none h];rfl
theorem Zni (x y:List Int) (hx:Dg 10 x) (hy:Dg 10 y) (hxl:x.length<=500000) (hyl:y.length<=500000):∀ (d i:Nat) (o:List Int),max x.length y.length - i=d->i<=max x.length y.length->o.length=i->(∀ z ∈ o,0<=z/\z<=18)->val 10 o=val 10 (x.take i)+val 10 (y.take i) ->
  Tells (fun k=>Zt.l0 k x y o (i:Int)) (digs (val 10 x+val 10 y).toNat)
 | 0,i,o,hd,hi,ho,hz,hv=>by
  have c1:¬ ((i:Int) < (x.length:Int)):=by omega
  have c2:¬ ((i:Int) < (y.length:Int)):=by omega
  have hc:=Zhq o (fun z h=>by have := hz z h;omega) (by omega)
  rw [hv,List.take_of_length_le (by omega),List.take_of_length_le (by omega)] at hc
  refine Tells.succ ?_
  simp only [Zt.l0]
  refine Tells.ifn c1 (Tells.succ ?_)
  simp only [Zt.j1]
  refine Tells.ifn (by rw [decide_eq_false c2];simp) (hc.bind (Tells.pure _))
 | d+1,i,o,hd,hi,ho,hz,hv=>by
  have hxi:=Zi2 (by omega) hx i
  have hyi:=Zi2 (by omega) hy i
  obtain ⟨u,hu⟩:∃ u:Nat,x.getD i 0=(u:Int):=⟨(x.getD i 0).toNat,by omega⟩
  obtain ⟨v,hvv⟩:∃ v:Nat,y.getD i 0=(v:Int):=⟨(y.getD i 0).toNat,by omega⟩
  have ih:=Zni x y hx hy hxl hyl d (i+1) (o ++ [((u+v:Nat):Int)]) (by omega) (by omega) (by simp [ho]) (fun z h=>by
   rcases List.mem_append.1 h with h|h
   ·exact hz z h
   ·rw [List.mem_singleton.1 h];omega) (by rw [Zck,Zck,Zdm,ho,hv,hu,hvv,Int.natCast_add,Int.mul_add];omega)
  have c4:o.length < 17592186044416:=by omega
  have c3:(0:Int)<=(i:Int):=by omega
  have c5:i < 9223372036854775807:=by omega
  have b1:u+v<=9223372036854775807:=by omega
  have b2:u<=9223372036854775807:=by omega
  have b3:v<=9223372036854775807:=by omega
  by_cases h1:i < x.length
  ·have c1:(i:Int) < (x.length:Int):=by omega
   refine Tells.succ ?_
   simp only [Zt.l0]
   refine Tells.ifp c1 (Tells.succ ?_)
   simp only [Zt.j1]
   refine Tells.ifp trivial (Tells.ifp c1 (Tells.ifp c3 ?_))
   rw [rd_n,rd_n,hu,hvv,w64c b2,w64p b1,w64s c5]
   by_cases h2:i < y.length
   ·refine Tells.ifp (by omega) (Tells.ifp c4 ih)
   ·have h0:v=0:=by have := Ze5 (l:=y) (i:=i) (by omega);omega
    rw [h0,Nat.add_zero] at ih
    refine Tells.ifn (by omega) (Tells.ifp c4 ih)
  ·have c1:¬ ((i:Int) < (x.length:Int)):=by omega
   have c2:(i:Int) < (y.length:Int):=by omega
   have h0:u=0:=by have := Ze5 (l:=x) (i:=i) (by omega);omega
   rw [h0,Nat.zero_add] at ih
   refine Tells.succ ?_
   simp only [Zt.l0]
   refine Tells.ifn c1 (Tells.succ ?_)
   simp only [Zt.j1]
   refine Tells.ifp (by rw [decide_eq_true c2]) (Tells.ifn c1 (Tells.ifp c2 (Tells.ifp c3 ?_)))
   rw [rd_n,hvv,w64c b3,w64s c5]
   exact Tells.ifp c4 ih
theorem Zie (m n:Nat) (hm:nd m<=500000) (hn:nd n<=500000):Tells (fun k=>Zt.f k (digs m) (digs n)) (digs (m+n)):=by
 have := Zni (digs m) (digs n) (Zdk m) (Zdk n) hm hn _ 0 [] rfl (by omega) rfl (fun z h=>by cases h) (by simp [val])
 refine this.val ?_
 rw [Zdc,Zdc]
 congr 1
theorem Zll (x y:List Int) (hx:Dg 10 x) (hy:Dg 10 y) (hxl:x.length<=1000000) (hyx:y.length<=x.length) (n:Nat) (hn:val 10 x - val 10 y=n):∀ (d i:Nat) (o:List Int) (c:Nat),x.length - i=d->i<=x.length->o.length=i->Dg 10 o->c<=1->val 10 o=val 10 (x.take i) - val 10 (y.take i)+pw 10 i*c ->
  Tells (fun k=>Zy.l0 k x y o (c:Int) (i:Int)) (digs n)
 | 0,i,o,c,hd,hi,ho,hD,hc,hv=>by
  obtain rfl:i=x.length:=by omega
  have c1:¬ ((x.length:Int) < (x.length:Int)):=by omega
  refine Tells.succ ?_
  simp only [Zy.l0]
  refine Tells.ifn c1 ((Zgn o (by omega)).bind ((Tells.pure _).val ?_))
  rw [List.take_length,List.take_of_length_le hyx,hn] at hv
  have h2:=Zdz (b:=10) (by omega) hD
  rw [ho] at h2
  have hp:=Zer (b:=10) (by omega) x.length
  have hc0:c=0:=by
   rcases Nat.eq_zero_or_pos c with h|h
   ·exact h
   ·obtain rfl:c=1:=by omega
    omega
  rw [hc0] at hv
  exact Zf7 hD (by omega)
 | d+1,i,o,c,hd,hi,ho,hD,hc,hv=>by
  have hil:i < x.length:=by omega
  have hxi:=Zn8 hx hil
  have hyi:=Zi2 (by omega) hy i
  obtain ⟨u,hu⟩:∃ u:Nat,x.getD i 0=(u:Int):=⟨(x.getD i 0).toNat,by omega⟩
  obtain ⟨v,hvv⟩:∃ v:Nat,y.getD i 0=(v:Int):=⟨(y.getD i 0).toNat,by omega⟩
  have c1:(i:Int) < (x.length:Int):=by omega
  have c3:(0:Int)<=(i:Int):=by omega
  have c4:o.length < 17592186044416:=by omega
  have c5:i < 9223372036854775807:=by omega
  rw [hu] at hxi
  rw [hvv] at hyi
  have step:∀ (z:Int) (c':Nat),0<=z->z < 10->c'<=1->z=(u:Int) - c - v+10*c'->Tells (fun k=>Zy.l0 k x y (o ++ [z]) (c':Int) ((i+1:Nat):Int)) (digs n):=fun z c' z0 z1 hc' hz =>
   Zll x y hx hy hxl hyx n hn d (i+1) (o ++ [z]) c' (by omega) (by omega) (by simp [ho]) (hD.app (Dg.one z0 z1)) hc' (by
    rw [Zck,Zck,Zdm,ho,hv,hu,hvv,hz,Zd8]
    generalize pw 10 i=M
    have e:M*((u:Int) - c - v+10*c')=M*u - M*c - M*v+10*(M*c'):=by rw [Int.mul_add,Int.mul_sub,Int.mul_sub,Int.mul_left_comm M 10]
    have e2:10*M*(c':Int)=10*(M*c'):=Int.mul_assoc _ _ _
    omega)
  have b1 : -9223372036854775808<=(u:Int) - c:=by omega
  have b2:(u:Int) - c<=9223372036854775807:=by omega
  have b3 : -9223372036854775808<=(u:Int) - c - v:=by omega
  have b4:(u:Int) - c - v<=9223372036854775807:=by omega
  have b5 : -9223372036854775808<=(u:Int) - c - v+10:=by omega
  have b6:(u:Int) - c - v+10<=9223372036854775807:=by omega
  have b7 : -9223372036854775808<=(u:Int) - c+10:=by omega
  have b8:(u:Int) - c+10<=9223372036854775807:=by omega
  refine Tells.succ ?_
  simp only [Zy.l0]
  rw [rd_n,rd_n,hu,hvv,w64n b1 b2,w64n b3 b4,w64n b5 b6,w64n b7 b8,w64s c5]
  refine Tells.ifp c1 (Tells.ifp c3 ?_)
  by_cases h2:i < y.length
  ·refine Tells.ifp (by omega) ?_
   by_cases h3:(u:Int) - c - v < 0
   ·exact Tells.ifp h3 (Tells.ifp c4 (step _ 1 (by omega) (by omega) (by omega) (by omega)))
   ·exact Tells.ifn h3 (Tells.ifp c4 (step _ 0 (by omega) (by omega) (by omega) (by omega)))
  ·have h0:v=0:=by have := Ze5 (l:=y) (i:=i) (by omega);omega
   refine Tells.ifn (by omega) ?_
   by_cases h3:(u:Int) - c < 0
   ·exact Tells.ifp h3 (Tells.ifp c4 (step _ 1 (by omega) (by omega) (by omega) (by omega)))
   ·exact Tells.ifn h3 (Tells.ifp c4 (step _ 0 (by omega) (by omega) (by omega) (by omega)))
theorem Zhf (m n:Nat) (h:n<=m) (hm:nd m<=1000000):Tells (fun k=>Zy.f k (digs m) (digs n)) (digs (m - n)):=by
 have hl:(digs n).length<=(digs m).length:=Zev h
 have := Zll (digs m) (digs n) (Zdk m) (Zdk n) hm hl (m - n) (by rw [Zdc,Zdc];omega) _ 0 [] 0 rfl (by omega) rfl (Dg.nil _) (by omega) (by simp [val])
 exact this
theorem Zhl (n:Nat) (k:Nat) (hn:nd n<=1000000) (hk:k<=1000000):Zbc.f (digs n) (k:Int)=some (digs (n*10 ^ k)):=by
 have hl:(digs n).length<=1000000:=hn
 unfold Zbc.f
 by_cases h:n=0
 ·subst h;rw [Nat.zero_mul];rfl
 ·have h1:(digs n).length ≠ 0:=fun e=>Zkt h (List.eq_nil_of_length_eq_zero e)
  rw [if_neg (by omega),if_pos (by omega),if_pos (by omega),Option.bind_some,if_pos (by rw [List.length_replicate,Int.toNat_natCast];omega),Int.toNat_natCast,Zgq h]
theorem getD_set_ne {l:List Int} {i j:Nat} (x:Int) (h:i ≠ j):(l.set i x).getD j 0=l.getD j 0:=by
 simp [List.getD,List.getElem?_set_ne h]
theorem Zew {b:Int}:∀ {l:List Int} {j:Nat} (x:Int),j < l.length->val b (l.set j x)=val b l+pw b j*(x - l.getD j 0)
 | y :: l,0,x,h=>by simp [val,pw];omega
 | y :: l,j+1,x,h=>by
  have ih:=Zew (b:=b) (l:=l) (j:=j) x (by simpa using h)
  simp only [List.set_cons_succ,val,List.getD_cons_succ,pw]
  rw [ih,Int.mul_add,Int.mul_assoc,Int.add_assoc]
end YtjbjkmccfocikaaGreatDoor.P
end
section
namespace YtjbjkmccfocikaaGreatDoor.B
open Go.RowKit YtjbjkmccfocikaaGreatDoorW.PrintWords YtjbjkmccfocikaaGreatDoorW.PrintLast YtjbjkmccfocikaaGreatDoorW.PrintMore
attribute [local go_sem] Zb7 Zb9 Zcr Zcs Zbp Zbq Zb8 Zca
def Zbd.l0:Nat->List Int->List Int->Int->Option (ByteArray)
 | 0,_,_,_=>none
 | k+1,x0,x3,x4=>if x4 >= 0 then (if 0<=x4 then (if x4 < (x0.length:Int) then (if x3.length < 140737488355328 then (Zbd.l0 k x0 (x3 ++ [(wrap64 (48+(rd x0 x4))) % 256]) (wrap64 (x4 - 1))) else (none)) else (none)) else (none)) else (if (x3.length:Int)=0 then (some (⟨#[48]⟩:ByteArray)) else (some (strOfNums x3)))
def Zbd.f (k:Nat) (l0:List Int):Option (ByteArray):=Zbd.l0 k l0 ([]:List Int) (wrap64 ((l0.length:Int) - 1))
theorem Zbd.calls (k:Nat) (A0:Option Addr) (c0:Nat) (l0:List Int) (r:ByteArray) (w:World) (hr0:Kd.C (Kd.int .i64) w A0 l0.length l0) (hc0:l0.length<=c0) (h:Zbd.f k l0=some r) :
  Calls Tryz.prog 118 #[.slice A0 l0.length c0] w fun e w'=>e=.returned (.string r)/\Below w.heap.size w w':=by
 have HR0:=am hr0
 have HC0:=am hc0
 clear hr0 hc0
 have HB:=am (Below.refl w.heap.size w)
 have H:(Zbd.l0 k l0 ([]:List Int) (wrap64 ((l0.length:Int) - 1)))=some r:=h
 clear h
 have H':=am H
 clear H
 go_enter Tryz.func118,Tryz.ntmps118
 go_wp2
 go_loopg [3,4] k (fun kq v3 v4 w' => ∃ (x3_1:List Int) (x4_1:Int),v4=.int .i64 x4_1/\Aside0 (Zbd.l0 kq l0 x3_1 x4_1=some r)/\Aside0 (kq<=k)/\Aside0 (Kd.R (Kd.int .u8) 5 w' w.heap.size (fun _=>True) v3 x3_1)/\Aside0 (Below w.heap.size w w'))
 case atStart=>exact ⟨(([]:List Int)),(wrap64 ((l0.length:Int) - 1)),pR,H',⟨Nat.le_refl _⟩,⟨pN⟩,⟨pB⟩⟩
 case round =>
  clear H'
  obtain ⟨x3_1,x4_1,rfl,HA,HK1,HO_3,HB⟩:=hrel
  cases gk with
  | zero=>exact absurd HA.out (by simp [Zbd.l0])
  | succ k1 =>
   have H:=HA.out
   clear HA
   simp only [Zbd.l0] at H
   by_cases c2:x4_1 >= 0
   ·rw [if_pos c2] at H
    have c2b0:decide (0<=x4_1)=true:=decide_eq_true c2
    clear c2
    by_cases c3:0<=x4_1
    ·rw [if_pos c3] at H
     have c3b0:decide (0<=x4_1)=true:=decide_eq_true c3
     clear c3
     by_cases c4:x4_1 < (l0.length:Int)
     ·rw [if_pos c4] at H
      have c4b0:decide (x4_1 < (l0.length:Int))=true:=decide_eq_true c4
      clear c4
      by_cases c5:x3_1.length < 140737488355328
      ·rw [if_pos c5] at H
       have LMc5:=am c5
       clear c5
       obtain ⟨qg,qb⟩:∃ y_:List Int,y_=(x3_1 ++ [(wrap64 (48+(rd l0 x4_1))) % 256]):=⟨_,rfl⟩
       replace H:(Zbd.l0 k1 l0 qg (wrap64 (x4_1 - 1)))=some r:=by have hy_:=qb;exact pH
       have qf:=am qb
       clear qb
       have H':=am H
       clear H
       have qc:0<=(x4_1:Int):=of_decide_eq_true pQ
       have qd:x4_1 < (l0.length:Int):=of_decide_eq_true pQ
       obtain ⟨qi,qh,qa⟩:=Kd.Za5 HR0.o x4_1 qc qd
       cases qh
       replace qa:=(HB.o.cell (World.block_lt_of_cell? w _ qa)).trans qa
       replace qc:=eq_true qc
       replace qd:=eq_true qd
       go_wp2_with (first|((with_reducible refine Zam (b:=.append) (xs:=#[.tmp 12,.tmp 19]) rfl ?_);at_builtin;refine Kd.Zb1 (Kd.int .u8) (w0:=w) w.heap.size rfl (.tmp 12) (.tmp 19) 146 5 (.int .u8 0) 1 rfl Tryz.underlying146 info5 rfl (by decide) (by omega) u3 x3_1 ((wrap64 (48+(rd l0 x4_1))) % 256) [.int .u8 ((wrap64 (48+(rd l0 x4_1))) % 256)] (fun _=>True) (fun _=>False) rfl rfl ?aP (fun _ hk=>hk.elim) ?aF ?aO ?aB ?aS ?aL ?_;(case aP=>exact rfl);(case aB=>exact pB);(case aF=>exact (fun _ _=>trivial));(case aO=>exact (Kd.Za HO_3.o pl));(case aS=>exact (Zd pB));(case aL=>have := LMc5.o;omega);intro qj w6 ho hb hg hat;rw [<- qf.out] at ho;have qe:=am ho;replace HB:=am hb;clear HO_3 ho hb hg hat))
       go_roundg k1
       case measure=>have := HK1.out;omega
       case rel=>exact ⟨(qg),(wrap64 (x4_1 - 1)),pR,H',⟨by have := HK1.out;omega⟩,⟨by refine rp ?_;exact qe.o⟩,⟨pB⟩⟩
      ·rw [if_neg c5] at H
       exact absurd H (by simp)
     ·rw [if_neg c4] at H
      exact absurd H (by simp)
    ·rw [if_neg c3] at H
     exact absurd H (by simp)
   ·rw [if_neg c2] at H
    have c2b0:decide (0<=x4_1)=false:=decide_eq_false c2
    clear c2
    by_cases c7:(x3_1.length:Int)=0
    ·rw [if_pos c7] at H
     have c7b0:((x3_1.length:Int) == 0)=true:=beq_iff_eq.mpr c7
     have c7b1:((x3_1.length:Int) != 0)=false:=bne_eq_false_iff_eq.mpr c7
     clear c7
     obtain rfl:=Option.some.inj H
     obtain ⟨Ao8,co8,eo8⟩:=Kd.Zj HO_3.o
     subst eo8
     go_wp2
     go_ret
     exact ⟨pE,pB⟩
    ·rw [if_neg c7] at H
     have c7b0:((x3_1.length:Int) == 0)=false:=beq_eq_false_iff_ne.mpr c7
     have c7b1:((x3_1.length:Int) != 0)=true:=bne_iff_ne.mpr c7
     have c7b2:¬ (x3_1=[]):=fun h_=>c7 (by rw [h_];rfl)
     obtain rfl:=Option.some.inj H
     obtain ⟨Ao9,co9,eo9⟩:=Kd.Zj HO_3.o
     subst eo9
     have hcv10:=Zgw (P:=Tryz.prog) Tryz.underlying146 Tryz.underlying5 Tryz.underlying9 (Kd.Zdx HO_3.o)
     go_wp2
     go_ret
     exact ⟨pE,pB⟩
def Zb4.f (l0:List Int):Option (Int):=if (l0.length:Int) > 256 then (some 5) else (if (l0.length:Int) > 0 then (if 0<=(wrap64 ((l0.length:Int) - 1)) then (if (wrap64 ((l0.length:Int) - 1)) < (l0.length:Int) then (if (rd l0 (wrap64 ((l0.length:Int) - 1)))=0 then (some 9) else (some 0)) else (none)) else (none)) else (some 0))
theorem Zb4.calls (A0:Option Addr) (c0:Nat) (l0:List Int) (r:Int) (w:World) (hr0:Kd.C (Kd.int .u32) w A0 l0.length l0) (hc0:l0.length<=c0) (h:Zb4.f l0=some r) :
  Calls Tryz.prog 91 #[.slice A0 l0.length c0] w fun e w'=>e=.returned (.int .i64 r)/\Drawn0 w w':=by
 have HR0:=am hr0
 have HC0:=am hc0
 clear hr0 hc0
 have H:(if (l0.length:Int) > 256 then (some 5) else (if (l0.length:Int) > 0 then (if 0<=(wrap64 ((l0.length:Int) - 1)) then (if (wrap64 ((l0.length:Int) - 1)) < (l0.length:Int) then (if (rd l0 (wrap64 ((l0.length:Int) - 1)))=0 then (some 9) else (some 0)) else (none)) else (none)) else (some 0)))=some r:=h
 clear h
 by_cases c2:(l0.length:Int) > 256
 ·rw [if_pos c2] at H
  have c2b0:decide (256 < (l0.length:Int))=true:=decide_eq_true c2
  have c2b1:decide (256 < l0.length)=true:=decide_eq_true (by omega)
  clear c2
  obtain rfl:=Option.some.inj H
  go_enter Tryz.func91,Tryz.ntmps91
  go_wp2
  go_ret
  exact ⟨pR,pD⟩
 ·rw [if_neg c2] at H
  have c2b0:decide (256 < (l0.length:Int))=false:=decide_eq_false c2
  have c2b1:decide (256 < l0.length)=false:=decide_eq_false (by omega)
  clear c2
  by_cases c3:(l0.length:Int) > 0
  ·rw [if_pos c3] at H
   have c3b0:decide (0 < (l0.length:Int))=true:=decide_eq_true c3
   have c3b1:decide (0 < l0.length)=true:=decide_eq_true (by omega)
   clear c3
   obtain ⟨ji4,hji4⟩:∃ j_:Int,(wrap64 ((l0.length:Int) - 1))=j_:=⟨_,rfl⟩
   replace H:(if 0<=(ji4) then (if (ji4) < (l0.length:Int) then (if (rd l0 (ji4))=0 then (some 9) else (some 0)) else (none)) else (none))=some r:=by first|(rw [hji4] at H;exact H)|(simp only [hji4] at H ⊢;exact H)
   have hji4w:(IntKind.i64.wrap ((l0.length:Int) - 1))=ji4:=(Zcd _).trans hji4
   by_cases c5:0<=(ji4)
   ·rw [if_pos c5] at H
    have c5b0:decide (0<=(ji4))=true:=decide_eq_true c5
    clear c5
    by_cases c6:(ji4) < (l0.length:Int)
    ·rw [if_pos c6] at H
     have c6b0:decide ((ji4) < (l0.length:Int))=true:=decide_eq_true c6
     clear c6
     by_cases c7:(rd l0 (ji4))=0
     ·rw [if_pos c7] at H
      have c7b0:((rd l0 (ji4)) == 0)=true:=beq_iff_eq.mpr c7
      have c7b1:((rd l0 (ji4)) != 0)=false:=bne_eq_false_iff_eq.mpr c7
      clear c7
      obtain rfl:=Option.some.inj H
      have qa:0<=((ji4):Int):=of_decide_eq_true pQ
      have qb:(ji4) < (l0.length:Int):=of_decide_eq_true pQ
      obtain ⟨qe,qd,qc⟩:=Kd.Za5 HR0.o (ji4) qa qb
      cases qd
      replace qa:=eq_true qa
      replace qb:=eq_true qb
      go_enter Tryz.func91,Tryz.ntmps91
      go_wp2
      go_ret
      exact ⟨by first|rfl|(simp;done)|(simp only [<- hji4] <;> (first|rfl|simp))|(simp [*];done),pD⟩
     ·rw [if_neg c7] at H
      have c7b0:((rd l0 (ji4)) == 0)=false:=beq_eq_false_iff_ne.mpr c7
      have c7b1:((rd l0 (ji4)) != 0)=true:=bne_iff_ne.mpr c7
      obtain rfl:=Option.some.inj H
      have qa:0<=((ji4):Int):=of_decide_eq_true pQ
      have qb:(ji4) < (l0.length:Int):=of_decide_eq_true pQ
      obtain ⟨qe,qd,qc⟩:=Kd.Za5 HR0.o (ji4) qa qb
      cases qd
      replace qa:=eq_true qa
      replace qb:=eq_true qb
      go_enter Tryz.func91,Tryz.ntmps91
      go_wp2
      go_ret
      exact ⟨by first|rfl|(simp;done)|(simp only [<- hji4] <;> (first|rfl|simp))|(simp [*];done),pD⟩
    ·rw [if_neg c6] at H
     exact absurd H (by simp)
   ·rw [if_neg c5] at H
    exact absurd H (by simp)
  ·rw [if_neg c3] at H
   have c3b0:decide (0 < (l0.length:Int))=false:=decide_eq_false c3
   have c3b1:decide (0 < l0.length)=false:=decide_eq_false (by omega)
   clear c3
   obtain rfl:=Option.some.inj H
   go_enter Tryz.func91,Tryz.ntmps91
   go_wp2
   go_ret
   exact ⟨pR,pD⟩
def Zcn.f (a0:Int):Option (List Int):=if a0=0 then (some ([]:List Int)) else (if a0 < 4294967296 then (some (([(a0) % 4294967296]:List Int))) else (some (([(a0) % 4294967296,(a0 / 4294967296) % 4294967296]:List Int))))
theorem Zcn.calls (a0:Int) (r:List Int) (w:World) (h:Zcn.f a0=some r) :
  Calls Tryz.prog 136 #[.int .u64 a0] w fun e w' => ∃ v0_:Value,e=.returned (v0_)/\Kd.R (Kd.int .u32) 85 w' w.heap.size (fun _=>True) v0_ r/\Below w.heap.size w w':=by
 have HB:=am (Below.refl w.heap.size w)
 have H:(if a0=0 then (some ([]:List Int)) else (if a0 < 4294967296 then (some (([(a0) % 4294967296]:List Int))) else (some (([(a0) % 4294967296,(a0 / 4294967296) % 4294967296]:List Int)))))=some r:=h
 clear h
 by_cases c2:a0=0
 ·rw [if_pos c2] at H
  have c2b0:(a0 == 0)=true:=beq_iff_eq.mpr c2
  have c2b1:(a0 != 0)=false:=bne_eq_false_iff_eq.mpr c2
  clear c2
  obtain rfl:=Option.some.inj H
  go_enter Tryz.func136,Tryz.ntmps136
  go_wp2
  go_ret
  exact ⟨_,pE,pN,pB⟩
 ·rw [if_neg c2] at H
  have c2b0:(a0 == 0)=false:=beq_eq_false_iff_ne.mpr c2
  have c2b1:(a0 != 0)=true:=bne_iff_ne.mpr c2
  by_cases c3:a0 < 4294967296
  ·rw [if_pos c3] at H
   have c3b0:decide (a0 < 4294967296)=true:=decide_eq_true c3
   clear c3
   obtain ⟨qg,qa⟩:∃ y_:List Int,y_=(([(a0) % 4294967296]:List Int)):=⟨_,rfl⟩
   replace H:(some qg)=some r:=by have hy_:=qa;exact pH
   have qc:=am qa
   clear qa
   obtain rfl:=Option.some.inj H
   go_enter Tryz.func136,Tryz.ntmps136
   go_wp2_with (first|((with_reducible refine gd 11 ?_);refine Kd.Zf1 (Kd.int .u32) _ 85 ?hg (N:=11) ?hd (xs:=([(a0) % 4294967296]:List Int)) (inner:=[.int .u32 ((a0) % 4294967296)]) (ok:=fun _=>True) (okp:=fun _=>True) ?hr ?hp (fun _ hk=>hk) trivial (Below.refl _ _) (Nat.le_refl _) (by simp) ?_;(case hd=>rfl);(case hg=>rfl);(case hr=>first|(go_simp;done)|(go_simp;rfl));(case hp=>exact (Reps.one (show Kd.M (Kd.int .u32) _ _ _ ((a0) % 4294967296) [.int .u32 ((a0) % 4294967296)] from rfl) (Reps.none _ _)));intro qi w4 ho5 hb hg_ hnew_;clear hg_ hnew_;(first|rw [<- qc.out] at ho5|(simp only [Int.reduceToNat] at ho5;rw [<- qc.out] at ho5));have qe:=am (Kd.Zo ho5 (Zd pB));replace HB:=bS hb;clear hb ho5))
   go_ret
   exact ⟨_,pE,by refine rp ?_;exact qe.o,pB⟩
  ·rw [if_neg c3] at H
   have c3b0:decide (a0 < 4294967296)=false:=decide_eq_false c3
   clear c3
   obtain ⟨qh,qb⟩:∃ y_:List Int,y_=(([(a0) % 4294967296,(a0 / 4294967296) % 4294967296]:List Int)):=⟨_,rfl⟩
   replace H:(some qh)=some r:=by have hy_:=qb;exact pH
   have qd:=am qb
   clear qb
   obtain rfl:=Option.some.inj H
   go_enter Tryz.func136,Tryz.ntmps136
   go_wp2_with (first|((with_reducible refine gd 17 ?_);refine Kd.Zf1 (Kd.int .u32) _ 85 ?hg (N:=17) ?hd (xs:=([(a0) % 4294967296,(a0 / 4294967296) % 4294967296]:List Int)) (inner:=[.int .u32 ((a0) % 4294967296),.int .u32 ((a0 / 4294967296) % 4294967296)]) (ok:=fun _=>True) (okp:=fun _=>True) ?hr ?hp (fun _ hk=>hk) trivial (Below.refl _ _) (Nat.le_refl _) (by simp) ?_;(case hd=>rfl);(case hg=>rfl);(case hr=>first|(go_simp;done)|(go_simp;rfl));(case hp=>exact (Reps.one (show Kd.M (Kd.int .u32) _ _ _ ((a0) % 4294967296) [.int .u32 ((a0) % 4294967296)] from rfl) (Reps.one (show Kd.M (Kd.int .u32) _ _ _ ((a0 / 4294967296) % 4294967296) [.int .u32 ((a0 / 4294967296) % 4294967296)] from rfl) (Reps.none _ _))));intro qj w6 ho7 hb hg_ hnew_;clear hg_ hnew_;(first|rw [<- qd.out] at ho7|(simp only [Int.reduceToNat] at ho7;rw [<- qd.out] at ho7));have qf:=am (Kd.Zo ho7 (Zd pB));replace HB:=bS hb;clear hb ho7))
   go_ret
   exact ⟨_,pE,by refine rp ?_;exact qf.o,pB⟩
end YtjbjkmccfocikaaGreatDoor.B
end
section
namespace YtjbjkmccfocikaaGreatDoor.P
open Go.RowKit YtjbjkmccfocikaaGreatDoor.B YtjbjkmccfocikaaGreatDoorW.PrintWords YtjbjkmccfocikaaGreatDoor.P.Nm
theorem Zm7 (n:Nat) (h:n ≠ 0):strOfNums ((digs n).reverse.map fun d=>48+d)=decT n:=by
 unfold decT strOfNums
 rw [if_neg h,List.map_map]
 congr 2
 refine List.map_congr_left (fun d hd=>?_)
 have := Zdk n d (List.mem_reverse.1 hd)
 show UInt8.ofNat ((48+d).toNat)=UInt8.ofNat (48+d.toNat)
 congr 1;omega
theorem Zez:limbs 0=[]:=rfl
theorem Zjg (n:Nat) (h:n < 18446744073709551616):Zcn.f (n:Int)=some (limbs n):=by
 unfold Zcn.f
 by_cases h0:n=0
 ·subst h0;rfl
 ·rw [if_neg (by omega)]
  by_cases h1:n < 4294967296
  ·rw [if_pos (by omega),Zfp h0,Nat.div_eq_of_lt h1,Zez];rfl
  ·rw [if_neg (by omega),Zfp h0,Zfp (show n / 4294967296 ≠ 0 by omega),Nat.div_eq_of_lt (show n / 4294967296 < 4294967296 by omega),Zez];rfl
def chkL (l:List Int):Int:=if 256 < l.length then 5 else if l.getLast? = some 0 then 9 else 0
theorem Zrj {l:List Int} (h:0 < l.length):l.getLast? = some (l.getD (l.length - 1) 0):=by
 rw [List.getLast?_eq_getElem?,getD_in (by omega),List.getElem?_eq_getElem (by omega)]
theorem Zju (l:List Int) (hl:l.length<=9223372036854775807):(if (l.length:Int) > 256 then (some 5) else (if (l.length:Int) > 0 then (if 0<=(wrap64 ((l.length:Int) - 1)) then (if (wrap64 ((l.length:Int) - 1)) < (l.length:Int) then (if (rd l (wrap64 ((l.length:Int) - 1)))=0 then (some 9) else (some 0)) else (none)) else (none)) else (some 0)):Option Int)=some (chkL l):=by
 unfold chkL
 by_cases h:256 < l.length
 ·rw [if_pos (by omega),if_pos h]
 ·rw [if_neg (by omega),if_neg h]
  by_cases h0:0 < l.length
  ·have e:(l.length:Int) - 1=((l.length - 1:Nat):Int):=by omega
   rw [if_pos (by omega),w64d hl,e,if_pos (by omega),if_pos (by omega),rd_n,Zrj h0]
   by_cases h1:l.getD (l.length - 1) 0=0
   ·rw [if_pos h1,if_pos (by rw [h1])]
   ·rw [if_neg h1,if_neg (by simpa using h1)]
  ·rw [if_neg (by omega)]
   obtain rfl:l=[]:=List.eq_nil_of_length_eq_zero (by omega)
   rfl
theorem Zir (l:List Int) (hl:l.length<=9223372036854775807):Zb4.f l=some (chkL l):=by
 unfold Zb4.f;exact Zju l hl
theorem Zkr {l:List Int} (hd:Dg 4294967296 l):chkL l=0 ↔ Ok l:=by
 unfold chkL
 constructor
 ·intro h
  by_cases h1:256 < l.length
  ·rw [if_pos h1] at h;cases h
  ·rw [if_neg h1] at h
   by_cases h2:l.getLast? = some 0
   ·rw [if_pos h2] at h;cases h
   ·exact ⟨by omega,hd,h2⟩
 ·intro h
  rw [if_neg (by have := h.len;omega),if_neg h.nz]
end YtjbjkmccfocikaaGreatDoor.P
end
section
namespace YtjbjkmccfocikaaGreatDoor.P.Nm
theorem Zoc {U V P u3 v2 q:Int} (hP:0 < P) (hU:U < (u3+1)*P) (hV:v2*P<=V) (hq0:0<=q) (hq:q*V<=U):q*v2<=u3:=by
 have h1:q*(v2*P)<=q*V:=Int.mul_le_mul_of_nonneg_left hV hq0
 have h2:(q*v2)*P < (u3+1)*P:=by rw [Int.mul_assoc];omega
 have := Int.lt_of_mul_lt_mul_right h2 (by omega)
 omega
theorem Zm1 {U V P u3 v2 q g:Int} (hP:0 < P) (hU:u3*P<=U) (hV:V < (v2+1)*P) (hg:g*v2<=u3) (hq:U < (q+1)*V) (hq0:0<=q) (hv:q+1<=v2):g<=q+1:=by
 refine Int.not_lt.1 (fun h=>?_)
 have h1:(q+2)*v2<=g*v2:=Int.mul_le_mul_of_nonneg_right (by omega) (by omega)
 have h2:(q+2)*v2*P<=u3*P:=Int.mul_le_mul_of_nonneg_right (by omega) (by omega)
 have h3:(q+1)*V<=(q+1)*((v2+1)*P):=Int.mul_le_mul_of_nonneg_left (by omega) (by omega)
 have h4:(q+2)*v2*P < (q+1)*(v2+1)*P:=by rw [Int.mul_assoc (q+1)];omega
 have h5:=Int.lt_of_mul_lt_mul_right h4 (by omega)
 have e1:(q+2)*v2=q*v2+2*v2:=Int.add_mul _ _ _
 have e2:(q+1)*(v2+1)=q*v2+q+v2+1:=by rw [Int.add_mul,Int.mul_add];omega
 omega
end YtjbjkmccfocikaaGreatDoor.P.Nm
end
section
namespace YtjbjkmccfocikaaGreatDoor.B
open Go.RowKit YtjbjkmccfocikaaGreatDoorW.PrintWords YtjbjkmccfocikaaGreatDoorW.PrintLast YtjbjkmccfocikaaGreatDoorW.PrintMore
attribute [local go_sem] Zb7 Zb9 Zcr Zcs Zbp Zbq Zb8 Zca
def Zv.l0:Nat->List Int->Option (List Int)
 | 0,_=>none
 | k+1,x0=>if (x0.length:Int) > 0 then (if 0<=(wrap64 ((x0.length:Int) - 1)) then (if (wrap64 ((x0.length:Int) - 1)) < (x0.length:Int) then (if (rd x0 (wrap64 ((x0.length:Int) - 1)))=0 then (if (wrap64 ((x0.length:Int) - 1))<=(x0.length:Int) then (Zv.l0 k (x0.take ((wrap64 ((x0.length:Int) - 1)):Int).toNat)) else (none)) else (if (x0.length:Int)=0 then (some ([]:List Int)) else (some x0))) else (none)) else (none)) else (if (x0.length:Int)=0 then (some ([]:List Int)) else (some x0))
def Zv.f (k:Nat) (l0:List Int):Option (List Int):=Zv.l0 k l0
theorem Zv.calls (k:Nat) (P0_:Nat->Prop) (u9000_:Value) (l0:List Int) (r:List Int) (w0 w:World) (hB:Below w0.heap.size w0 w) (ho0:Kd.R (Kd.int .u32) 85 w w0.heap.size P0_ u9000_ l0) (h:Zv.f k l0=some r) :
  Calls Tryz.prog 132 #[u9000_] w fun e w' => ∃ v0_:Value,e=.returned (v0_)/\Kd.R (Kd.int .u32) 85 w' w0.heap.size (fun k_=>(P0_ k_\/w.heap.size<=k_)) v0_ r/\Below w0.heap.size w0 w'/\Kept w w' (fun k_=>P0_ k_):=by
 have HO0:=am (show Kd.R (Kd.int .u32) 85 w w0.heap.size (fun k_=>(P0_ k_\/w.heap.size<=k_)) u9000_ l0 from Kd.Zh ho0 (fun k_ hk=>(.inl hk)))
 have HK:=am (Kept.refl w (fun k_=>P0_ k_))
 have HW0:=am hB.size
 have HB:=am hB
 clear hB
 have H:(Zv.l0 k l0)=some r:=h
 clear h
 have H':=am H
 clear H
 go_enter Tryz.func132,Tryz.ntmps132
 go_wp2
 go_loopg [0] k (fun kq v0 w' => ∃ (x0_1:List Int),Aside0 (Zv.l0 kq x0_1=some r)/\Aside0 (kq<=k)/\Aside0 (Kd.R (Kd.int .u32) 85 w' w0.heap.size (fun k_=>(P0_ k_\/w.heap.size<=k_)) v0 x0_1)/\Aside0 (Kept w w' (fun k_=>P0_ k_))/\Aside0 (Below w0.heap.size w0 w'))
 case atStart=>exact ⟨(l0),H',⟨Nat.le_refl _⟩,⟨by refine rp ?_;exact HO0.o⟩,⟨by repeat (first|(with_reducible first|exact HK.out|apply Kept.alloc|apply Kept.drewN|apply Kept.drew)|exact HK.out)⟩,⟨pB⟩⟩
 case round =>
  clear H'
  obtain ⟨x0_1,HA,HK1,HO_0,HK,HB⟩:=hrel
  cases gk with
  | zero=>exact absurd HA.out (by simp [Zv.l0])
  | succ k1 =>
   have H:=HA.out
   clear HA
   simp only [Zv.l0] at H
   by_cases c2:(x0_1.length:Int) > 0
   ·rw [if_pos c2] at H
    have c2b0:decide (0 < (x0_1.length:Int))=true:=decide_eq_true c2
    have c2b1:decide (0 < x0_1.length)=true:=decide_eq_true (by omega)
    clear c2
    obtain ⟨ji3,hji3⟩:∃ j_:Int,(wrap64 ((x0_1.length:Int) - 1))=j_:=⟨_,rfl⟩
    replace H:(if 0<=(ji3) then (if (ji3) < (x0_1.length:Int) then (if (rd x0_1 (ji3))=0 then (if (ji3)<=(x0_1.length:Int) then (Zv.l0 k1 (x0_1.take ((ji3):Int).toNat)) else (none)) else (if (x0_1.length:Int)=0 then (some ([]:List Int)) else (some x0_1))) else (none)) else (none))=some r:=by first|(rw [hji3] at H;exact H)|(simp only [hji3] at H ⊢;exact H)
    have hji3w:(IntKind.i64.wrap ((x0_1.length:Int) - 1))=ji3:=(Zcd _).trans hji3
    by_cases c4:0<=(ji3)
    ·rw [if_pos c4] at H
     have c4b0:decide (0<=(ji3))=true:=decide_eq_true c4
     clear c4
     by_cases c5:(ji3) < (x0_1.length:Int)
     ·rw [if_pos c5] at H
      have c5b0:decide ((ji3) < (x0_1.length:Int))=true:=decide_eq_true c5
      clear c5
      by_cases c6:(rd x0_1 (ji3))=0
      ·rw [if_pos c6] at H
       have c6b0:((rd x0_1 (ji3)) == 0)=true:=beq_iff_eq.mpr c6
       have c6b1:((rd x0_1 (ji3)) != 0)=false:=bne_eq_false_iff_eq.mpr c6
       clear c6
       by_cases c7:(ji3)<=(x0_1.length:Int)
       ·rw [if_pos c7] at H
        have c7b0:=eq_true c7
        have c7b1:decide ((ji3)<=(x0_1.length:Int))=true:=decide_eq_true c7
        clear c7
        obtain ⟨qh,qf⟩:∃ y_:List Int,y_=(x0_1.take ((ji3):Int).toNat):=⟨_,rfl⟩
        replace H:(Zv.l0 k1 qh)=some r:=by have hy_:=qf;exact pH
        have qg:=am qf
        clear qf
        have H':=am H
        clear H
        obtain ⟨Ao8,co8,eo8⟩:=Kd.Zj HO_0.o
        subst eo8
        have qa:0<=((ji3):Int):=of_decide_eq_true pQ
        have qb:(ji3) < (x0_1.length:Int):=of_decide_eq_true pQ
        obtain ⟨qd,qe,qc⟩:=Kd.Za5 (Kd.Zc HO_0.o).2.2 (ji3) qa qb
        cases qe
        replace qa:=eq_true qa
        replace qb:=eq_true qb
        have q9:((ji3):Int)<=((x0_1.length:Int):Int):=of_decide_eq_true pQ
        obtain ⟨i09,hi09,_,hsz9,_⟩:=info_parts info85
        have hcut9:=Zn7 (P:=Tryz.prog) 134 85 .i64 Tryz.underlying134 hi09 (some qd) x0_1.length co8 (ji3) (of_decide_eq_true pQ) q9 (Kd.Zc HO_0.o).2.1
        have hr9:=Kd.Znr (m:=((ji3):Int).toNat) HO_0.o (by omega)
        have hy9:qh.length=((ji3):Int).toNat:=(by rw [qg.out,List.length_take];omega)
        rw [<- qg.out] at hr9
        rw [<- hy9] at hr9 hcut9
        clear hy9 hi09 hsz9 HO_0
        have qi:=am hr9
        clear hr9
        replace q9:=eq_true q9
        go_wp2
        go_roundg k1
        case measure=>have := HK1.out;omega
        case rel=>exact ⟨(qh),(by first|exact H'|(have H_:=H'.out;simp only [<- hji3] at H_;exact ⟨H_⟩)|(refine ⟨?_⟩;have H_:=H'.out;simp only [<- hji3] at H_ ⊢;exact H_)),⟨by have := HK1.out;omega⟩,⟨by refine rp ?_;exact qi.o⟩,⟨by repeat (first|(with_reducible first|exact HK.out|apply Kept.alloc|apply Kept.drewN|apply Kept.drew)|exact HK.out)⟩,⟨pB⟩⟩
       ·rw [if_neg c7] at H
        exact absurd H (by simp)
      ·rw [if_neg c6] at H
       have c6b0:((rd x0_1 (ji3)) == 0)=false:=beq_eq_false_iff_ne.mpr c6
       have c6b1:((rd x0_1 (ji3)) != 0)=true:=bne_iff_ne.mpr c6
       by_cases c10:(x0_1.length:Int)=0
       ·rw [if_pos c10] at H
        have c10b0:((x0_1.length:Int) == 0)=true:=beq_iff_eq.mpr c10
        have c10b1:((x0_1.length:Int) != 0)=false:=bne_eq_false_iff_eq.mpr c10
        clear c10
        obtain rfl:=Option.some.inj H
        obtain ⟨qn,qr,qj⟩:=Kd.Zj HO_0.o
        subst qj
        have qa:0<=((ji3):Int):=of_decide_eq_true pQ
        have qb:(ji3) < (x0_1.length:Int):=of_decide_eq_true pQ
        obtain ⟨qd,qe,qc⟩:=Kd.Za5 (Kd.Zc HO_0.o).2.2 (ji3) qa qb
        cases qe
        replace qa:=eq_true qa
        replace qb:=eq_true qb
        go_wp2
        go_ret
        exact ⟨_,by first|rfl|(simp [Zak,Zal] <;> rfl)|(simp only [<- hji3];first|rfl|(simp [Zak,Zal] <;> rfl))|(simp [*,Zak,Zal] <;> rfl),pN,pB,by repeat (first|(with_reducible first|exact HK.out|apply Kept.alloc|apply Kept.drewN|apply Kept.drew)|exact HK.out)⟩
       ·rw [if_neg c10] at H
        have c10b0:((x0_1.length:Int) == 0)=false:=beq_eq_false_iff_ne.mpr c10
        have c10b1:((x0_1.length:Int) != 0)=true:=bne_iff_ne.mpr c10
        have c10b2:¬ (x0_1=[]):=fun h_=>c10 (by rw [h_];rfl)
        obtain rfl:=Option.some.inj H
        obtain ⟨qo,qs,qk⟩:=Kd.Zj HO_0.o
        subst qk
        have qa:0<=((ji3):Int):=of_decide_eq_true pQ
        have qb:(ji3) < (x0_1.length:Int):=of_decide_eq_true pQ
        obtain ⟨qd,qe,qc⟩:=Kd.Za5 (Kd.Zc HO_0.o).2.2 (ji3) qa qb
        cases qe
        replace qa:=eq_true qa
        replace qb:=eq_true qb
        go_wp2
        go_ret
        exact ⟨_,by first|rfl|(simp [Zak,Zal] <;> rfl)|(simp only [<- hji3];first|rfl|(simp [Zak,Zal] <;> rfl))|(simp [*,Zak,Zal] <;> rfl),by refine rp ?_;exact HO_0.o,pB,by repeat (first|(with_reducible first|exact HK.out|apply Kept.alloc|apply Kept.drewN|apply Kept.drew)|exact HK.out)⟩
     ·rw [if_neg c5] at H
      exact absurd H (by simp)
    ·rw [if_neg c4] at H
     exact absurd H (by simp)
   ·rw [if_neg c2] at H
    have c2b0:decide (0 < (x0_1.length:Int))=false:=decide_eq_false c2
    have c2b1:decide (0 < x0_1.length)=false:=decide_eq_false (by omega)
    clear c2
    by_cases c13:(x0_1.length:Int)=0
    ·rw [if_pos c13] at H
     have c13b0:((x0_1.length:Int) == 0)=true:=beq_iff_eq.mpr c13
     have c13b1:((x0_1.length:Int) != 0)=false:=bne_eq_false_iff_eq.mpr c13
     clear c13
     obtain rfl:=Option.some.inj H
     obtain ⟨qp,qt,ql⟩:=Kd.Zj HO_0.o
     subst ql
     go_wp2
     go_ret
     exact ⟨_,pE,pN,pB,by repeat (first|(with_reducible first|exact HK.out|apply Kept.alloc|apply Kept.drewN|apply Kept.drew)|exact HK.out)⟩
    ·rw [if_neg c13] at H
     have c13b0:((x0_1.length:Int) == 0)=false:=beq_eq_false_iff_ne.mpr c13
     have c13b1:((x0_1.length:Int) != 0)=true:=bne_iff_ne.mpr c13
     have c13b2:¬ (x0_1=[]):=fun h_=>c13 (by rw [h_];rfl)
     obtain rfl:=Option.some.inj H
     obtain ⟨qq,qu,qm⟩:=Kd.Zj HO_0.o
     subst qm
     go_wp2
     go_ret
     exact ⟨_,pE,by refine rp ?_;exact HO_0.o,pB,by repeat (first|(with_reducible first|exact HK.out|apply Kept.alloc|apply Kept.drewN|apply Kept.drew)|exact HK.out)⟩
end YtjbjkmccfocikaaGreatDoor.B
end
section
namespace YtjbjkmccfocikaaGreatDoor.B
open Go.RowKit
def Minds {β:Type} (b:Nat) (J:β->World->Prop):Prop:=∀ s W v,J s W->J s (W.setCell ⟨b,0,none⟩ v)
def SeqCell {α:Type} (F:Fence) (n:Nat) (P:Program) (g:Nat) (lb:Array Value) (encs:α->Array Value) (Kp:World->World->Prop) (S Sp:List α->Prop) (N b:Nat) (w:World):Prop :=
 ∀ (l:Nat) (J Jx:List α->World->Prop) (W:World),Below w.heap.size w W->AbidesFrom W.heap.size J->AbidesFrom W.heap.size Jx->Minds b J ->
  (∀ pre x W1,J pre W1->pre.length < N->Sp (pre ++ [x])->YieldAt F (n - 1) P l (encs x) W1 fun e W' =>
   (e=.returned (.bool true)/\J (pre ++ [x]) W'/\Kp W1 W')\/(e=.returned (.bool false)/\Jx (pre ++ [x]) W')) ->
  J [] W ->
  CallsIn F n P g (#[.func (.yield l) #[] #[]]++lb) W fun e W'=>(∃ v,e=.returned v)/\((∃ xs,S xs/\J xs W')\/(∃ pre,Sp pre/\Jx pre W'))
theorem Zbn (w:World) (b:Nat) (v:Value) (k:Nat) (h:k ≠ b):(w.setCell ⟨b,0,none⟩ v).heap[k]? = w.heap[k]?:=Below.heap_setCell _ _ _ _ h
def Recs (at_:Nat) (L:Loop) (W:World):Prop:=W.heap[at_+1]? = some (.loop L)/\W.heap[at_]? = some (.deferred (some []))
theorem Recs.grown {at_:Nat} {L:Loop} {A B:World} {row:Option Nat} (h:Recs at_ L A) (hg:A.grownBy B row) (hr:∀ r,row=some r -> ∃ o:Obj,A.heap[r]? = some o/\o.isWalk=true):Recs at_ L B :=
 ⟨(grownBy_keeps hg hr h.1 rfl).trans h.1,(grownBy_keeps hg hr h.2 rfl).trans h.2⟩
theorem Recs.set {at_ b:Nat} {L:Loop} {W:World} (h:Recs at_ L W) (hb:b < at_) (v:Value):Recs at_ L (W.setCell ⟨b,0,none⟩ v) :=
 ⟨(Zbn W b v _ (by omega)).trans h.1,(Zbn W b v _ (by omega)).trans h.2⟩
theorem Recs.lt {at_:Nat} {L:Loop} {W:World} (h:Recs at_ L W):at_+1 < W.heap.size:=(Array.getElem?_eq_some_iff.1 h.1).1
theorem Recs.put {at_:Nat} {L:Loop} {W:World} (h:Recs at_ L W) (L':Loop):Recs at_ L' (W.putObj (at_+1) (.loop L')) :=
 ⟨World.putObj_heap_same h.lt,(World.putObj_heap_other (by omega)).trans h.2⟩
theorem Recs.keeps {at_:Nat} {L:Loop} {A B:World} (h:Recs at_ L A) (k:KeepsFrom at_ A B):Recs at_ L B :=
 ⟨k.same _ _ (by omega) h.1 rfl,k.same _ _ (Nat.le_refl _) h.2 rfl⟩
variable {F:Fence} {n:Nat} {P:Program}
theorem Zdy {α:Type} {g:Operand} {ps:Array Tmp} {assign body:Code} {Q:Exit->Act->World->Prop} {a:Act} {w:World}
  (hro:F.round=none) (h1:1<=n) {gf:Nat} {lb:Array Value} (hg:a.eval g=.func (.func gf) #[] lb) (hFg:F.fn gf) (eg:∀ args w,(callFunc gf args).run P w=.ok (.enter gf args) w)
  {encs:α->Array Value} {Kp:World->World->Prop} {S Sp:List α->Prop} {N b:Nat} {w0:World} (hseq:SeqCell F (n - 1) P gf lb encs Kp S Sp N b w0) (hb:b < w.heap.size)
  (hKt:∀ {A B C:World},Kp A B->Kp B C->Kp A C) (hKb:∀ (W:World) (l:Nat) (o o':Obj),w.heap.size<=l->W.heap[l]? = some o->o.isCells=false->o.isWalk=false->Kp W (W.putObj l o')) (hb0:Below w0.heap.size w0 w) (hps:∀ x,(encs x).size=ps.size)
  (I:List α->World->Prop) (Ix:Code->List α->World->Prop) (hI:OwnFrom w.heap.size I) (hIx:∀ c,OwnFrom w.heap.size (Ix c)) (hIm:Minds b I) (h0:I [] w) (a₁:α->Act)
  (hassign:∀ (l:Nat) (x:α) (W:World) (K:Act->World->Prop),K (a₁ x) W ->
   assign.wpIn (F.inRound l) (n - 1 - 1) P (Exit.then K (fun _ _ _=>False)) { tmps:=(ps.zip (encs x)).foldl (fun t (p,v)=>t.setIfInBounds p v) a.tmps,defers:=[] } W)
  (hbody:∀ (l:Nat) (pre:List α) (x:α) (W:World),I pre W->pre.length < N->Sp (pre ++ [x])->body.wpIn (F.inRound l) (n - 1 - 1) P (ownPostG w.heap.size Kp I Ix (pre ++ [x]) W) (a₁ x) W)
  (hdone:∀ (D:Nat) (xs:List α) (W:World),w.heap.size<=D->S xs->I xs W->W.heap[D]? = some (.deferred (some []))->Q .normal { a with defers:={ target:=.collected D,args:=#[] } :: a.defers } W)
  (hstop:∀ (D:Nat) (c:Code) (pre:List α) (W:World),w.heap.size<=D->Sp pre->Ix c pre W->W.heap[D]? = some (.deferred (some []))->c.wpIn F n P Q { a with defers:={ target:=.collected D,args:=#[] } :: a.defers } W) :
  (Code.rangeFunc g ps assign body).wpIn F n P Q a w:=by
 refine wpIn_rangeFunc fun fn hfn=>?_
 rw [hro]
 let R:LoopState->Option Code->Loop:=fun st pe=>{ state:=st,pending:=pe,fn,tmps:=a.tmps,params:=ps,assign,body,defers:=w.heap.size }
 have key:∃ W1,(w.alloc (.deferred (some []))).alloc (.loop (R .ready none))=W1/\Recs w.heap.size (R .ready none) W1/\I [] W1/\Below w0.heap.size w0 W1/\w.heap.size<=W1.heap.size:=by
  refine ⟨_,rfl,⟨?_,?_⟩,hI.alloc _ (hI.alloc _ h0),?_,by simp;omega⟩
  ·have := World.alloc_heap_new (w.alloc (.deferred (some []))) (.loop (R .ready none))
   rwa [World.size_alloc] at this
  ·exact (Below.heap_alloc _ _ _ (by simp)).trans (World.alloc_heap_new w _)
  ·exact hb0.trans ((((Below.refl _ w).alloc (Nat.le_refl _) _).alloc (by simp) _).mono hb0.size)
 obtain ⟨W1,e1,r1,i1,b1,z1⟩:=key
 have walks:∀ {A:World} {row:Option Nat},(∀ r,row=some r->W1.heap.size<=r /\ ∃ o:Obj,A.heap[r]? = some o/\o.isWalk=true) -> ∀ r,row=some r->w.heap.size<=r /\ ∃ o:Obj,A.heap[r]? = some o/\o.isCells=false :=
  fun hr r e=>by obtain ⟨h,o,ho,hw⟩:=hr r e;exact ⟨Nat.le_trans z1 h,o,ho,Obj.not_cells_of_walk hw⟩
 refine ⟨w.heap.size+1,[{ target:=.collected w.heap.size,args:=#[] }],W1,{ target:=.fn (.func gf) lb,args:=#[.func (.yield (w.heap.size+1)) #[] #[]] },W1,gf,
  #[.func (.yield (w.heap.size+1)) #[] #[]]++lb,W1,by rw [<- e1];exact run_enterLoop_outer _ _ _ _ _,by simp only [resolve,hg];simp [go_sem],fun f' hf'=>by simp [Target.leads] at hf';subst hf';exact hFg,by simp [invoke,go_sem,eg],fun _=>h1,?_⟩
 refine (hseq (w.heap.size+1) (fun pre W=>I pre W/\Recs w.heap.size (R .ready none) W) (fun pre W => ∃ c,Ix c pre W/\Recs w.heap.size (R .done (some c)) W) W1 b1
  (fun s A B row hs hg' hr=>⟨hI s A B row hs.1 hg' (walks hr),hs.2.grown hg' (fun r e=>(hr r e).2)⟩)
  (fun s A B row hs hg' hr=>by obtain ⟨c,hc,hl⟩:=hs;exact ⟨c,hIx c s A B row hc hg' (walks hr),hl.grown hg' (fun r e=>(hr r e).2)⟩)
  (fun s W v hs=>⟨hIm s W v hs.1,hs.2.set hb v⟩) ?round ⟨i1,r1⟩).mono ?behind
 case round =>
  rintro pre x W ⟨hi,hr⟩ hlen hsp
  refine ⟨fn,_,assign,body,run_yield (P:=P) (args:=encs x) hr.1 (hps x),roundIn_of_wpIn hfn (hassign _ x W _ ⟨_,run_beginRound hr.1 rfl,?_⟩)⟩
  have hr2:Recs w.heap.size { R .ready none with state:=.busy } (W.putObj (w.heap.size+1) (.loop { R .ready none with state:=.busy })):=hr.put _
  have hw2:Kp W (W.putObj (w.heap.size+1) (.loop { R .ready none with state:=.busy })):=hKb _ _ _ _ (by omega) hr.1 rfl rfl
  refine wpIn_mono (hbody _ pre x _ (hI.putObj _ hi (by omega) hr.1 rfl) hlen hsp) ?_
  rintro e a3 W3 hp
  have left:∀ (c:Code),KeepsFrom w.heap.size (W.putObj (w.heap.size+1) (.loop { R .ready none with state:=.busy })) W3->Ix c (pre ++ [x]) W3 ->
    ∃ v W',(Instr.endRound (w.heap.size+1) (some c)).run P W3=.ok v W'/\(v=.bool false /\ ∃ c',Ix c' (pre ++ [x]) W'/\Recs w.heap.size (R .done (some c')) W'):=fun c hk hx =>
   ⟨_,_,run_endRound (P:=P) (some c) (hr2.keeps hk).1,rfl,c,(hIx c).putObj _ hx (by omega) (hr2.keeps hk).1 rfl,(hr2.keeps hk).put _⟩
  cases e with
  | normal =>
   obtain ⟨hk,hkp,hi3⟩:=hp
   exact ⟨_,_,run_endRound (P:=P) none (hr2.keeps hk).1,.inl ⟨rfl,⟨hI.putObj _ hi3 (by omega) (hr2.keeps hk).1 rfl,(hr2.keeps hk).put _⟩,hKt (hKt hw2 hkp) (hKb _ _ _ _ (by omega) (hr2.keeps hk).1 rfl rfl)⟩⟩
  | ret=>obtain ⟨v,W',q,rfl,h⟩:=left .ret hp.1 hp.2;exact ⟨_,_,q,.inr ⟨rfl,h⟩⟩
  | exit id=>obtain ⟨v,W',q,rfl,h⟩:=left (.exit id) hp.1 hp.2;exact ⟨_,_,q,.inr ⟨rfl,h⟩⟩
  | goto t=>obtain ⟨v,W',q,rfl,h⟩:=left (.goto t) hp.1 hp.2;exact ⟨_,_,q,.inr ⟨rfl,h⟩⟩
  | panic ch=>exact hp.elim
  | outgrown=>exact hp.elim
 case behind =>
  rintro e W2 ⟨⟨v,rfl⟩,(⟨xs,hS,hi,hr⟩|⟨pre,hSp,c,hi,hr⟩)⟩
  ·exact ⟨none,_,run_endLoop (P:=P) hr.1 (by simp [R]),hdone _ xs _ (Nat.le_refl _) hS (hI.putObj _ hi (by omega) hr.1 rfl) (hr.put _).2⟩
  ·exact ⟨some c,_,run_endLoop (P:=P) hr.1 (by simp [R]),hstop _ c pre _ (Nat.le_refl _) hSp ((hIx c).putObj _ hi (by omega) hr.1 rfl) (hr.put _).2⟩
def noDefer (ops:Array Oper):Bool:=ops.all fun o=>match o.op with | .defer _=>false|_=>true
theorem Zj4 {ops:Array Oper} (h:noDefer ops=true) {i:Nat} {o:Oper} (ho:ops[i]? = some o):∀ c,o.op ≠ .defer c:=by
 intro c hc
 unfold noDefer at h
 rw [Array.all_eq_true_iff_forall_mem] at h
 have := h o (Array.mem_of_getElem? ho)
 rw [hc] at this
 cases this
variable {P:Program} {ops:Array Oper} {Q:Exit->Act->World->Prop} {md:Region.Mode}
theorem Zkj {r n i:Nat} {K K':Act->World->Prop} {a:Act} {w:World} (hd:noDefer ops=true) (hL:¬ LetsOut Q) (hK:∀ a w,K a w->K' a w) (h:wpOp P ops Q i K a w) :
  wpOpIn (Fence.wide.inRound r) n P ops Q i K' a w:=by
 unfold wpOp at h
 unfold wpOpIn
 cases ho:ops[i]? with
 | none=>simp only [ho] at h ⊢;exact hK _ _ h
 | some o =>
  simp only [ho] at h ⊢
  split
  ·rename_i hw
   simp only [hw,if_true] at h
   have h:=h.resolve_right (fun hx=>hL hx.2)
   refine ⟨fun _ _=>trivial,?_⟩
   rw [Oper.semAt_plain _ _ _ (Zj4 hd ho)]
   unfold Oper.wp at h
   generalize (execOp a.eval o).run P w=x at *
   cases x with
   | ok v w' =>
    cases v <;> simp only [Oper.upon] at h <;> simp only [Oper.uponIn]
    case value u=>exact hK _ _ h
    case skip=>exact hK _ _ h
    case defer d=>exact hK _ _ h
    case enter f args =>
     refine ⟨fun e=>(by cases e),?_⟩
     refine CallsIn.inRound r (callsIn_wide.2 (h.mono fun e w'' he=>?_))
     cases e with
     | returned v=>exact hK _ _ he
     | panicked c=>exact he
     | outgrown=>exact he
    case row row args =>
     refine ⟨fun e=>(by cases e),fun c cs _=>?_⟩
     obtain ⟨v,w'',hr,hs⟩:=h c cs
     exact ⟨v,w'',hK _ _ hr,stepsIn_wide.2 hs⟩
   | halt x w'=>cases x <;> simp only [Oper.upon] at h <;> simp only [Oper.uponIn] <;> exact h
  ·rename_i hw
   simp only [hw] at h
   exact ⟨fun _ _=>trivial,hK _ _ h⟩
theorem Zei {r n:Nat} (hd:noDefer ops=true) (hL:¬ LetsOut Q):∀ (fuel:Nat) (listed:Array Bool) (a:Act) (w:World),wpAny P md ops Q fuel listed a w->wpAnyIn (Fence.wide.inRound r) n P md ops Q fuel listed a w
 | 0,_,_,_,h=>h
 | fuel+1,_,_,_,h=>⟨h.1,fun i hi=>Zkj hd hL (fun a w=>Zei hd hL fuel _ a w) (h.2 i hi)⟩
theorem Zfk {r m id:Nat} {a:Act} {w:World} {l:List Oper} (n:Nat) (hm:P.follows .mixedOrders=true) (hd:noDefer l.toArray=true) (hL:¬ LetsOut Q) (hB:Region.lexTailB .any l.toArray n=true)
  (h:wpStill P l.toArray { w with drawn:=w.drawn+1 } (fun a'=>wpList P l.toArray Q (l.drop n) a' { w with drawn:=w.drawn+1 }) (l.take n) a):(Code.region id l.toArray true).wpIn (Fence.wide.inRound r) m P Q a w:=by
 simp only [Region.lexTailB,Bool.and_eq_true,decide_eq_true_eq] at hB
 obtain ⟨⟨⟨⟨hsel,hn⟩,hs⟩,hc⟩,hlex⟩:=hB
 have hn':n < l.length:=by simpa using hn
 have htl:(l.take n).length=n:=by simp;omega
 have hdl:(l.drop n).length=l.toArray.size - n:=by simp
 have inv0:HeadInv .any l.toArray n (Array.replicate l.toArray.size false) :=
  ⟨by simp,fun j oj _ hl=>(by rw [getD_replicate_false] at hl;cases hl),fun t _ ht=>getD_in (by simpa using ht) (getD_replicate_false _ _)⟩
 have H:=wpAnyL_lex (md:=.any) (g:=l.toArray.size - n) hsel hs hc hn (l.take n) 0 _ a (fun j hj=>by
  have hj':j < n:=by rw [htl] at hj;exact hj
  simp [hj']) (by simpa using htl) inv0 (by rw [htl];exact hlex) h
 refine wpIn_region_any hm (Zei hd hL _ _ _ _ ?_)
 have := wpAny_of_head (Q':=Q) (g:=l.toArray.size - n) (fun listed a' hL=>by
  have := wpAny_of_seq (md:=.any) (Q':=Q) (l.drop n) n listed a' { w with drawn:=w.drawn+1 } (fun j=>by simp [List.getElem?_drop]) (by rw [hdl];exact hL.1) hL.2
  rwa [hdl] at this) _ _ _ H
 rw [htl,show n+(l.toArray.size - n)=l.toArray.size by omega] at this
 exact this
theorem Zef {r m id:Nat} {a:Act} {w:World} {l:List Oper} (hm:P.follows .mixedOrders=true) (hd:noDefer l.toArray=true) (hL:¬ LetsOut Q) (hB:Region.lexB .any l.toArray=true)
  (h:wpQuiet P l.toArray (fun w' => ∃ n,w'=w.drewN n) (fun a' => ∀ w',(∃ n,w'=w.drewN n)->Q .normal a' w') l a):(Code.region id l.toArray true).wpIn (Fence.wide.inRound r) m P Q a w:=by
 simp only [Region.lexB,Bool.and_eq_true] at hB
 refine wpIn_region_any hm (Zei hd hL _ _ _ _ (wpAny_of_quiet (C:=fun w' => ∃ n,w'=w.drewN n) (Q:=fun a' => ∀ w',(∃ n,w'=w.drewN n)->Q .normal a' w') (fun _ w' hw' h=>h w' hw') _ _ _ _ ⟨1,rfl⟩ ?_))
 have := wpAnyQ_lex (C:=fun w' => ∃ n,w'=w.drewN n) (md:=.any) hB.1 l 0 (Array.replicate l.length false) a (by simp) (by simpa using hB.2) h
 simpa using this
section
variable {C:World->Prop}
end
section
variable {S:World->Prop}
theorem Zou {i fuel:Nat} {o:Oper} {v:Value} {listed:Array Bool} {a:Act} {w w':World} (hr:Region.ready md ops listed=[i]) (ho:ops[i]? = some o) (hw:Region.wanted o (yielded ops a.tmps)=true)
  (hrun:(execOp a.eval o).run P w=.ok (.value v) w') (hS:S w') (h:wpAnyH P md ops Q S fuel (listed.setIfInBounds i true) (a.put o.dst v) w'):wpAnyH P md ops Q S (fuel+1) listed a w :=
 wpAnyH_all hr (by simp) fun j hj=>by
  obtain rfl:=List.mem_singleton.1 hj
  unfold wpOp
  simp only [ho,hw,if_true]
  refine .inl ?_
  unfold Oper.wp
  rw [hrun]
  exact ⟨hS,h⟩
theorem Zmb {i fuel:Nat} {o:Oper} {listed:Array Bool} {a:Act} {w w':World} (hr:Region.ready md ops listed=[i]) (ho:ops[i]? = some o) (hw:Region.wanted o (yielded ops a.tmps)=true)
  (hrun:(execOp a.eval o).run P w=.ok .skip w') (hS:S w') (h:wpAnyH P md ops Q S fuel (listed.setIfInBounds i true) (a.put o.dst undef) w'):wpAnyH P md ops Q S (fuel+1) listed a w :=
 wpAnyH_all hr (by simp) fun j hj=>by
  obtain rfl:=List.mem_singleton.1 hj
  unfold wpOp
  simp only [ho,hw,if_true]
  refine .inl ?_
  unfold Oper.wp
  rw [hrun]
  exact ⟨hS,h⟩
theorem Zgc {i fuel:Nat} {o:Oper} {f:FuncId} {args:Array Value} {listed:Array Bool} {a:Act} {w:World} (hr:Region.ready md ops listed=[i]) (ho:ops[i]? = some o) (hw:Region.wanted o (yielded ops a.tmps)=true)
  (hrun:(execOp a.eval o).run P w=.ok (.enter f args) w) {R:Ending->World->Prop} (hc:Calls P f args w R) (h:∀ e w',R e w' -> ∃ v,e=.returned v/\S w'/\wpAnyH P md ops Q S fuel (listed.setIfInBounds i true) (a.put o.dst v) w'):wpAnyH P md ops Q S (fuel+1) listed a w :=
 wpAnyH_all hr (by simp) fun j hj=>by
  obtain rfl:=List.mem_singleton.1 hj
  unfold wpOp
  simp only [ho,hw,if_true]
  refine .inl ?_
  unfold Oper.wp
  rw [hrun]
  exact hc.mono fun e w' he=>by obtain ⟨v,rfl,hh⟩:=h e w' he;exact hh
theorem Zfw {m id:Nat} {a:Act} {w:World} {l:List Oper} (S:World->Prop) (hm:P.follows .mixedOrders=true)
  (h:wpAnyH P .any l.toArray (NoPanic Q) S l.length (Array.replicate l.length false) a { w with drawn:=w.drawn+1 }):(Code.region id l.toArray true).wpIn Fence.wide m P Q a w :=
 wpIn_wide.2 (wp_region_noPanic (wp_region_any hm (wpAny_of_held (S:=S) _ _ _ _ (by simpa using h))))
end
end YtjbjkmccfocikaaGreatDoor.B
end
section
namespace YtjbjkmccfocikaaGreatDoor.B
open Go.RowKit Go.Shelf YtjbjkmccfocikaaGreatDoorW.PrintWords
attribute [local go_sem] Oper.semAt_some
theorem Zfx {P:Program} {f:FuncId} {args:Array Value} {w:World} {n:Nat} {v:Value} (h:Calls P f args (w.drewN n) fun e w'=>e=.returned v/\Drawn0 (w.drewN n) w'):Calls P f args (w.drewN n) fun e w''=>e=.returned v /\ ∃ m,w''=w.drewN m :=
 h.mono fun _ _ ⟨he,hd⟩=>⟨he,by obtain ⟨m,hm⟩:=hd.out;exact ⟨n+m,by rw [hm,World.drewN_drewN]⟩⟩
theorem Zpn {W:World} {b t:Nat} {v:Value} (h:Boxed W b t v) (n:Nat):Boxed (W.drewN n) b t v:=h
theorem Zle (W:World) (n:Nat):(W.drewN n).heap.size=W.heap.size:=rfl
theorem Zsf (b o j:Nat):(⟨b,o,none⟩:Addr).add j=⟨b,o+j,none⟩:=by unfold Addr.add;split <;> simp_all
theorem Ziz {w:World} {ad:Addr} {v:Value} (h:w.cell? ad=some v):∃ b o,ad=⟨b,o,none⟩:=by
 obtain ⟨b,o,s⟩:=ad
 cases s with
 | none=>exact ⟨b,o,rfl⟩
 | some s =>
  unfold World.cell? at h
  split at h
  ·simp at h
  ·cases h
abbrev bkEnc (p:Nat × Int):Array Value:=#[.int .i64 p.1,.int .u32 p.2]
def RdW (A:Option Addr) (m:Nat) (Rd:Nat->Int->Prop) (W:World):Prop:=m=0 \/ ∃ b o,A=some ⟨b,o,none⟩ /\ ∀ j,j < m -> ∃ x,W.cell? ⟨b,o+j,none⟩=some (.int .u32 x)/\Rd j x
def BkP (Rd:Nat->Int->Prop) (m:Nat) (ys:List (Nat × Int)):Prop:=ys.length<=m /\ ∀ k x,ys[k]? = some x->x.1=m - 1 - k/\Rd x.1 x.2
def KpB (Bs:Nat) (A:Option Addr) (m:Nat) (Rd:Nat->Int->Prop) (W W':World):Prop:=W'.heap[Bs]? = W.heap[Bs]? /\ (RdW A m Rd W->RdW A m Rd W')
theorem RdW.below {A:Option Addr} {m:Nat} {Rd:Nat->Int->Prop} {W W':World} (h:RdW A m Rd W) (hb:Below W.heap.size W W'):RdW A m Rd W':=by
 rcases h with h|⟨b,o,hA,h⟩
 ·exact .inl h
 ·refine .inr ⟨b,o,hA,fun j hj=>?_⟩
  obtain ⟨x,hx,hr⟩:=h j hj
  exact ⟨x,Zc8 hb hx,hr⟩
theorem RdW.at {A:Option Addr} {m:Nat} {Rd:Nat->Int->Prop} {W:World} (h:RdW A m Rd W) {j:Nat} (hj:j < m):∃ b o x,A=some ⟨b,o,none⟩/\W.cell? ⟨b,o+j,none⟩=some (.int .u32 x)/\Rd j x:=by
 obtain ⟨b,o,hA,h⟩:=h.resolve_left (by omega)
 obtain ⟨x,hx,hr⟩:=h j hj
 exact ⟨b,o,x,hA,hx,hr⟩
theorem RdW.grown {A:Option Addr} {m:Nat} {Rd:Nat->Int->Prop} {W W':World} {row:Option Nat} (h:RdW A m Rd W) (hg:W.grownBy W' row) (hr:∀ r,row=some r -> ∃ o:Obj,W.heap[r]? = some o/\o.isCells=false):RdW A m Rd W':=by
 rcases h with h|⟨b,o,hA,h⟩
 ·exact .inl h
 ·refine .inr ⟨b,o,hA,fun j hj=>?_⟩
  obtain ⟨x,hx,hrd⟩:=h j hj
  exact ⟨x,cell_kept hx hg hr,hrd⟩
theorem KpB.trans {Bs:Nat} {A:Option Addr} {m:Nat} {Rd:Nat->Int->Prop} {X Y Z:World} (h:KpB Bs A m Rd X Y) (k:KpB Bs A m Rd Y Z):KpB Bs A m Rd X Z:=⟨k.1.trans h.1,fun x=>k.2 (h.2 x)⟩
theorem KpB.put {Bs:Nat} {A:Option Addr} {m:Nat} {Rd:Nat->Int->Prop} {W:World} {l:Nat} {o o':Obj} (hl:Bs ≠ l) (ho:W.heap[l]? = some o) (hc:o.isCells=false):KpB Bs A m Rd W (W.putObj l o') :=
 ⟨World.putObj_heap_other hl,fun h=>h.grown (grownBy_putObj' W l o') (fun r e=>by cases e;exact ⟨o,ho,hc⟩)⟩
theorem BkP.snoc {Rd:Nat->Int->Prop} {m:Nat} {pre:List (Nat × Int)} {x:Int} (h:BkP Rd m pre) (hl:pre.length < m) (hx:Rd (m - 1 - pre.length) x):BkP Rd m (pre ++ [(m - 1 - pre.length,x)]):=by
 refine ⟨by simp;omega,fun k y hy=>?_⟩
 rcases Nat.lt_trichotomy k pre.length with h1|h1|h1
 ·rw [List.getElem?_append_left h1] at hy;exact h.2 k y hy
 ·subst h1
  rw [List.getElem?_append_right (Nat.le_refl _),Nat.sub_self] at hy
  obtain rfl:=Option.some.inj hy
  exact ⟨rfl,hx⟩
 ·rw [List.getElem?_eq_none (by simp;omega)] at hy;cases hy
theorem Zkq (w:World) (A:Option Addr) (m c:Nat) (n:Nat) :
  CallsIn Fence.wide n Tryz.prog 158 #[.slice A m c] w fun e w'=>e=.returned (.func (.func 184) #[] #[.pointer (some ⟨w.heap.size,0,none⟩)])/\w'=w.alloc (.cells #[.slice A m c] 134):=by
 refine callsIn_of_wp Tryz.func158 rfl trivial ?_ rfl
 simp only [Tryz.ntmps158,List.size_toArray,List.length_cons,List.length_nil,Nat.reduceAdd,Nat.reduceSub,Array.replicate_succ,Array.replicate_zero,List.push_toArray,List.append_toArray,List.nil_append,List.cons_append]
 gi_wp2
 go_ret
 exact ⟨rfl,rfl⟩
theorem Zpm (n:Nat) (hn:1<=n) (l Bs:Nat) (A:Option Addr) (m c:Nat) (Rd:Nat->Int->Prop) (hm:m<=9223372036854775807) (J Jx:List (Nat × Int)->World->Prop)
  (W:World) (hJ:AbidesFrom W.heap.size J)
  (hY:∀ pre x W1,J pre W1->pre.length < m->BkP Rd m (pre ++ [x])->YieldAt Fence.wide (n - 1) Tryz.prog l (bkEnc x) W1 fun e W' =>
   (e=.returned (.bool true)/\J (pre ++ [x]) W'/\KpB Bs A m Rd W1 W')\/(e=.returned (.bool false)/\Jx (pre ++ [x]) W'))
  (hBs:Boxed W Bs 134 (.slice A m c)) (hR:RdW A m Rd W) (h0:J [] W) :
  CallsIn Fence.wide n Tryz.prog 184 #[.func (.yield l) #[] #[],.pointer (some ⟨Bs,0,none⟩)] W fun e W'=>(∃ v,e=.returned v) /\
   ((∃ ys,(BkP Rd m ys/\ys.length=m)/\J ys W')\/(∃ pre,BkP Rd m pre/\Jx pre W')):=by
 have hc0:=hBs.cell
 have HBs:=Lib.hid hBs
 have HJ:=Lib.hid hJ
 have HY:=Lib.hid hY
 clear hBs hJ hY
 refine callsIn_of_wp Tryz.func184 rfl trivial ?_ rfl
 simp only [Tryz.ntmps184,List.size_toArray,List.length_cons,List.length_nil,Nat.reduceAdd,Nat.reduceSub,Array.replicate_succ,Array.replicate_zero,List.push_toArray,List.append_toArray,List.nil_append,List.cons_append]
 gi_wp2
 gi_loopw [3] (fun i wr => ∃ pre:List (Nat × Int),i=.int .i64 ((m:Int) - 1 - (pre.length:Int))/\BkP Rd m pre/\Boxed wr Bs 134 (.slice A m c)/\RdW A m Rd wr/\J pre wr)
  (fun i _=>(intOf i+1).toNat)
 case atStart=>exact ⟨[],by simp,⟨Nat.zero_le _,fun k x h=>by simp at h⟩,HBs.out,hR,h0⟩
 case round =>
  obtain ⟨pre,rfl,hp,hb,hr,hj⟩:=hrel
  have hle:=hp.1
  have hc1:=hb.cell
  have HP:=Lib.hid hp
  have HB:=Lib.hid hb
  clear hp hb hc0 hR
  obtain ⟨k,hk⟩:∃ k,pre.length=k:=⟨_,rfl⟩
  rw [hk] at hle ⊢
  by_cases hlt:k < m
  ·have hlt':(0:Int)<=(m:Int) - 1 - (k:Int):=by omega
   obtain ⟨b,o,rfl,hcs⟩:∃ b o,A=some ⟨b,o,none⟩ /\ ∀ j,j < m -> ∃ x,wr.cell? ⟨b,o+j,none⟩=some (.int .u32 x)/\Rd j x:=hr.resolve_left (by omega)
   obtain ⟨x,hx,hrd⟩:=hcs (m - 1 - k) (by omega)
   have hsn:=HP.out.snoc (by omega) (by rw [hk];exact hrd)
   rw [hk] at hsn
   obtain ⟨fn,tmps,assign,body,hy,hRr⟩:=HY.out pre (m - 1 - k,x) wr hj (by omega) hsn
   obtain ⟨i,hi⟩:∃ i:Nat,m - 1 - k=i:=⟨_,rfl⟩
   have hi':(m:Int) - 1 - (k:Int)=(i:Int):=by omega
   rw [hi] at hx hy hsn hRr
   rw [hi']
   have hx0:(0:Int)<=(i:Int):=by omega
   have hx1:(i:Int) < (m:Int):=by omega
   have HI:=Lib.hid hi'
   have HK:=Lib.hid hk
   have HSn:=Lib.hid hsn
   have HRr:=Lib.hid hr
   clear hi' hi hk hlt' hsn hr hcs hrd
   dsimp only [bkEnc] at hy
   gi_wp2
   refine hRr.mono ?_
   rintro e W3 (⟨rfl,hJ3,hk1,hk2⟩|⟨rfl,hJx3⟩)
   ·have hb3:Boxed W3 Bs 134 (.slice (some ⟨b,o,none⟩) m c):=hk1.trans HB.out
    have hr3:=hk2 HRr.out
    gi_wp2
    go_roundw
    case rel=>exact ⟨pre ++ [(i,x)],by have := HI.out;have := HK.out;rw [List.length_append];simp only [List.length_cons,List.length_nil];exact congrArg (Value.int .i64) (by omega),HSn.out,hb3,hr3,hJ3⟩
    case measure=>simp [intOf]
   ·gi_wp2
    refine bodyPost_ret (results_none rfl _ _ _) rfl ?_
    exact ⟨⟨_,rfl⟩,.inr ⟨_,HSn.out,hJx3⟩⟩
  ·have hge:¬ (0:Int)<=(m:Int) - 1 - (k:Int):=by omega
   have HK:=Lib.hid hk
   clear hk
   gi_wp2
   go_end0
   exact ⟨⟨_,rfl⟩,.inl ⟨pre,⟨HP.out,by have := HK.out;omega⟩,hj⟩⟩
theorem Zgo (n:Nat) (hn:1<=n) (Bs:Nat) (A:Option Addr) (m c:Nat) (Rd:Nat->Int->Prop) (hm:m<=9223372036854775807) (w:World)
  (hBs:Boxed w Bs 134 (.slice A m c)) (hR:RdW A m Rd w) :
  SeqCell Fence.wide n Tryz.prog 184 #[.pointer (some ⟨Bs,0,none⟩)] bkEnc (KpB Bs A m Rd) (fun ys=>BkP Rd m ys/\ys.length=m) (BkP Rd m) m Bs w :=
 fun l J Jx W hW hJ _ _ hY h0=>Zpm n hn l Bs A m c Rd hm J Jx W hJ hY ((hW.block Bs hBs.lt).trans hBs) (hR.below hW) h0
end YtjbjkmccfocikaaGreatDoor.B
end
section
namespace YtjbjkmccfocikaaGreatDoor.B
open Go.RowKit YtjbjkmccfocikaaGreatDoorW.PrintWords YtjbjkmccfocikaaGreatDoor.P.Nm
theorem Zmy (A B C D:Nat) (hA:A < 4294967296) (hB:B < 4294967296) (hC:C<=1) (hD:D < 4294967296) (h:(D:Int)=((A:Int) - B - C) % 4294967296) :
  (((4294967295 ^^^ A) &&& B) ||| ((4294967295 ^^^ (A ^^^ B)) &&& D)) / 2147483648=if A < B+C then 1 else 0:=by
 rw [show (2147483648:Nat)=2 ^ 31 by rfl,<- Nat.shiftRight_eq_div_pow,Nat.shiftRight_or_distrib,Nat.shiftRight_and_distrib,Nat.shiftRight_and_distrib,Nat.shiftRight_xor_distrib,Nat.shiftRight_xor_distrib,Nat.shiftRight_xor_distrib]
 rw [show (4294967295 >>> 31:Nat)=1 by rfl]
 simp only [Nat.shiftRight_eq_div_pow]
 rw [show (2 ^ 31:Nat)=2147483648 by rfl]
 obtain ⟨a,ha⟩:∃ a,A / 2147483648=a:=⟨_,rfl⟩
 obtain ⟨b,hb⟩:∃ b,B / 2147483648=b:=⟨_,rfl⟩
 obtain ⟨d,hd⟩:∃ d,D / 2147483648=d:=⟨_,rfl⟩
 rw [ha,hb,hd]
 have ha1:a=0\/a=1:=by omega
 have hb1:b=0\/b=1:=by omega
 have hd1:d=0\/d=1:=by omega
 obtain rfl|rfl:=ha1 <;> obtain rfl|rfl:=hb1 <;> obtain rfl|rfl:=hd1 <;> (split <;> first|rfl|(exfalso;omega))
theorem Zmz (a0 a1 a2:Int) (h1:0<=a0) (h2:a0 < 4294967296) (h3:0<=a1) (h4:a1 < 4294967296) (h5:0<=a2) (h6:a2<=1) :
  bits .or .u32 (bits .and .u32 (bits .xor .u32 IntKind.u32.max a0) a1) (bits .and .u32 (bits .xor .u32 IntKind.u32.max (bits .xor .u32 a0 a1)) ((a0 - a1 - a2) % 4294967296)) / 2147483648=if a0 < a1+a2 then 1 else 0:=by
 obtain ⟨D,hD⟩:=Int.eq_ofNat_of_zero_le (show 0<=(a0 - a1 - a2) % 4294967296 by omega)
 obtain ⟨A,rfl⟩:=Int.eq_ofNat_of_zero_le h1
 obtain ⟨B,rfl⟩:=Int.eq_ofNat_of_zero_le h3
 obtain ⟨C,rfl⟩:=Int.eq_ofNat_of_zero_le h5
 have key:=Zmy A B C D (by omega) (by omega) (by omega) (by omega) hD.symm
 have e1:bits .xor .u32 IntKind.u32.max (A:Int)=((4294967295 ^^^ A:Nat):Int):=u32_xor_nat 4294967295 A (by omega) (by omega)
 have e2:bits .xor .u32 (A:Int) (B:Int)=((A ^^^ B:Nat):Int):=u32_xor_nat A B (by omega) (by omega)
 have x2:A ^^^ B < 2 ^ 32:=Nat.xor_lt_two_pow (by omega) (by omega)
 have e3:bits .xor .u32 IntKind.u32.max ((A ^^^ B:Nat):Int)=((4294967295 ^^^ (A ^^^ B):Nat):Int):=u32_xor_nat 4294967295 _ (by omega) (by omega)
 have x1:4294967295 ^^^ A < 2 ^ 32:=Nat.xor_lt_two_pow (by omega) (by omega)
 have x3:4294967295 ^^^ (A ^^^ B) < 2 ^ 32:=Nat.xor_lt_two_pow (by omega) (by omega)
 have e4:bits .and .u32 ((4294967295 ^^^ A:Nat):Int) (B:Int)=(((4294967295 ^^^ A) &&& B:Nat):Int):=u32_and_nat _ B (by omega) (by omega)
 have e5:bits .and .u32 ((4294967295 ^^^ (A ^^^ B):Nat):Int) (D:Int)=(((4294967295 ^^^ (A ^^^ B)) &&& D:Nat):Int):=u32_and_nat _ D (by omega) (by omega)
 have x4:(4294967295 ^^^ A) &&& B < 2 ^ 32:=Nat.and_lt_two_pow _ (by omega)
 have x5:(4294967295 ^^^ (A ^^^ B)) &&& D < 2 ^ 32:=Nat.and_lt_two_pow _ (by omega)
 have e6:bits .or .u32 (((4294967295 ^^^ A) &&& B:Nat):Int) (((4294967295 ^^^ (A ^^^ B)) &&& D:Nat):Int)=((((4294967295 ^^^ A) &&& B) ||| ((4294967295 ^^^ (A ^^^ B)) &&& D):Nat):Int):=u32_or_nat _ _ (by omega) (by omega)
 rw [hD,e1,e2,e3,e4,e5,e6]
 have := congrArg (Nat.cast:Nat->Int) key
 rw [Int.natCast_ediv] at this
 refine this.trans ?_
 by_cases hlt:A < B+C
 ·rw [if_pos hlt,if_pos (by omega)];rfl
 ·rw [if_neg hlt,if_neg (by omega)];rfl
def Zd4.f (x y b:Int):Option (Int × Int) :=
 if 0<=x/\x < 4294967296/\0<=y/\y < 4294967296/\0<=b/\b<=1 then some ((x - y - b) % 4294967296,if x < y+b then 1 else 0) else none
theorem Zd4.calls (a0 a1 a2 r1 r2:Int) (w:World) (h:Zd4.f a0 a1 a2=some (r1,r2)) :
  Calls Tryz.prog 185 #[.int .u32 a0,.int .u32 a1,.int .u32 a2] w fun e w'=>e=.returned (.tuple #[.int .u32 r1,.int .u32 r2])/\Drawn0 w w':=by
 unfold Zd4.f at h
 split at h
 case isFalse=>cases h
 case isTrue hk =>
 obtain ⟨h1,h2,h3,h4,h5,h6⟩:=hk
 obtain ⟨rfl,hr2⟩:=Prod.mk.inj (Option.some.inj h)
 have HF:=Aside0.mk ((Zmz a0 a1 a2 h1 h2 h3 h4 h5 h6).trans hr2)
 clear h h1 h2 h3 h4 h5 h6 hr2
 go_enter Tryz.func185,Tryz.ntmps185
 go_wp2
 go_ret2
 refine ⟨?_,Drawn0.refl _⟩
 exact congrArg (fun z=>Ending.returned (Value.tuple #[Value.int .u32 ((a0 - a1 - a2) % 4294967296),Value.int .u32 z])) HF.out
def bits_LeadingZeros32.f (x:Int):Option Int:=if 0<=x/\x<=4294967295 then some (32 - (Lib.bitLen x.toNat:Int)) else none
theorem bits_LeadingZeros32.calls (a0 r:Int) (w:World) (h:bits_LeadingZeros32.f a0=some r) :
  Calls Tryz.prog 156 #[.int .u32 a0] w fun e w'=>e=.returned (.int .i64 r)/\Drawn0 w w':=by
 unfold bits_LeadingZeros32.f at h
 split at h
 case isFalse=>cases h
 case isTrue hk =>
 obtain rfl:=Option.some.inj h
 refine (Tryz.bits_LeadingZeros32 a0 w hk.1 hk.2).mono ?_
 rintro e w' ⟨rfl,rfl⟩
 exact ⟨rfl,Drawn0.refl _⟩
def Zaf.f (l0:List Int):Option (List Int):=if l0.length*4<=140737488355328 then some l0 else none
theorem Zaf.zer (a:Addr) (c:Nat) (w:World) :
  Calls Tryz.prog 102 #[.slice (some a) 0 c] w fun e w' => ∃ v',e=.returned v'/\w'.ownsRow w.heap.size 85 1 v' 0 []/\Below w.heap.size w w':=by
 obtain ⟨i0,hi,hz0,hz1,hz2⟩:=info_parts info85
 have q22:∀ (w:World) (a:Option Addr) (n c n' c':Nat),(binOp .eql 22 (.slice a n c) (.slice none n' c')).run Tryz.prog w=.ok (.bool a.isNone) w:=fun w a n c n' c'=>Lib.run_eql_slice_nil w _ _ a n c n' c' Tryz.underlying22
 go_enter Tryz.func102,Tryz.ntmps102
 go_wp2_with (at_builtin;refine wpList_append_own _ rfl _ _ 22 rfl w.heap.size 85 i0 (.int .u32 0) 1 4 Tryz.underlying22 hi hz0 hz1 hz2 rfl (by decide) _ _ _ rfl (World.ownsRow_made w #[] 0 (Nat.le_refl _) (Nat.zero_le _) rfl) a 0 c [] rfl rfl (by intro j u hj;simp at hj) (by intro u hu;cases hu) (by unfold maxLen;omega) (by omega) (by simp) ?_)
 intro v' w1 hown hgrow hnil
 go_wp2
 go_ret
 exact ⟨v',rfl,by simpa using hown,((Below.refl _ w).alloc (Nat.le_refl _) _).grown hgrow (by simp) (by intro k hk;simp [Value.ownBlock] at hk;omega)⟩
theorem Zaf.many (b off n c:Nat) (news:List Value) (w:World) (hl:news.length=n*1) (hn:n<=maxLen) (hbig:n*4<=140737488355328) (hc:∀ j u,news[j]? = some u->w.cell? ⟨b,off+j,none⟩=some u) (h1:∀ u ∈ news,u.oneCell'=true) :
  Calls Tryz.prog 102 #[.slice (some ⟨b,off,none⟩) n c] w fun e w' => ∃ v',e=.returned v'/\w'.ownsRow w.heap.size 85 1 v' n news/\Below w.heap.size w w':=by
 obtain ⟨i0,hi,hz0,hz1,hz2⟩:=info_parts info85
 have q22:∀ (w:World) (a:Option Addr) (n c n' c':Nat),(binOp .eql 22 (.slice a n c) (.slice none n' c')).run Tryz.prog w=.ok (.bool a.isNone) w:=fun w a n c n' c'=>Lib.run_eql_slice_nil w _ _ a n c n' c' Tryz.underlying22
 have AA:=Aside0.mk hc
 clear hc
 go_enter Tryz.func102,Tryz.ntmps102
 go_wp2_with (at_builtin;refine wpList_append_own _ rfl _ _ 22 rfl w.heap.size 85 i0 (.int .u32 0) 1 4 Tryz.underlying22 hi hz0 hz1 hz2 rfl (by decide) _ _ _ rfl (World.ownsRow_made w #[] 0 (Nat.le_refl _) (Nat.zero_le _) rfl) ⟨b,off,none⟩ n c news rfl ?qc1 ?qc2 ?qc3 ?qc4 ?qc5 ?qc6 ?_)
 case qc1=>exact hl
 case qc2 =>
  intro j u hj
  rw [Zf3]
  exact Lib.cell?_alloc_some _ (AA.out j u hj)
 case qc3=>exact h1
 case qc4=>rw [Nat.zero_add];exact hn
 case qc5=>rw [Nat.zero_add];exact hbig
 case qc6=>simp
 intro v' w1 hown hgrow hnil
 go_wp2
 go_ret
 exact ⟨v',rfl,by simpa using hown,((Below.refl _ w).alloc (Nat.le_refl _) _).grown hgrow (by simp) (by intro k hk;simp [Value.ownBlock] at hk;omega)⟩
theorem Zaf.nul (n c:Nat) (w:World):Calls Tryz.prog 102 #[.slice none n c] w fun e w'=>e=.returned (.slice none 0 0)/\w'=w:=by
 have q22:∀ (w:World) (a:Option Addr) (n c n' c':Nat),(binOp .eql 22 (.slice a n c) (.slice none n' c')).run Tryz.prog w=.ok (.bool a.isNone) w:=fun w a n c n' c'=>Lib.run_eql_slice_nil w _ _ a n c n' c' Tryz.underlying22
 go_enter Tryz.func102,Tryz.ntmps102
 go_wp2
 go_ret
 exact ⟨rfl,rfl⟩
theorem Zaf.calls (A0:Option Addr) (c0:Nat) (l0:List Int) (r:List Int) (w:World) (hr0:Kd.C (Kd.int .u32) w A0 l0.length l0) (hc0:l0.length<=c0) (h:Zaf.f l0=some r) :
  Calls Tryz.prog 102 #[.slice A0 l0.length c0] w fun e w' => ∃ v0_:Value,e=.returned v0_/\Kd.R (Kd.int .u32) 85 w' w.heap.size (fun _=>True) v0_ r/\Below w.heap.size w w':=by
 unfold Zaf.f at h
 split at h
 case isFalse=>cases h
 case isTrue hb =>
 obtain rfl:=Option.some.inj h
 have hR:ReadsOf (Value.int .u32) 0 w A0 l0.length l0:=Kd.Zfu hr0
 rcases Nat.eq_zero_or_pos l0.length with h0|h0
 ·obtain rfl:l0=[]:=List.eq_nil_of_length_eq_zero h0
  cases A0 with
  | none =>
   refine (Zaf.nul _ _ w).mono ?_
   rintro e w' ⟨rfl,rfl⟩
   exact ⟨_,rfl,Kd.Zjk _ _ _ _ _,Below.refl _ _⟩
  | some a =>
   refine (Zaf.zer a c0 w).mono ?_
   rintro e w' ⟨v,rfl,ho,hb⟩
   exact ⟨v,rfl,Kd.Zdl (enc:=Value.int .u32) (xs:=[]) ho (fun _ _=>trivial),hb⟩
 ·obtain ⟨ad,rfl,hc⟩:=hR.2.2 h0
  obtain ⟨b,o,rfl⟩:=Ziz (show w.cell? ad=_ from hc 0 h0)
  refine (Zaf.many b o l0.length c0 (encs (Value.int .u32) l0) w (by simp [encs]) (by simp [maxLen];omega) hb (fun j u hj=>?_) (fun u hu=>?_)).mono ?_
  ·have hjl:j < l0.length:=by have := (List.getElem?_eq_some_iff.1 hj).1;simpa [encs] using this
   have := hc j hjl
   rw [Zf3] at this
   rw [this,<- hj]
   simp [encs,List.getD,List.getElem?_eq_getElem hjl]
  ·obtain ⟨x,_,rfl⟩:=List.mem_map.1 (show u ∈ l0.map (Value.int .u32) from hu)
   rfl
  ·rintro e w' ⟨v,rfl,ho,hb⟩
   exact ⟨v,rfl,Kd.Zdl (enc:=Value.int .u32) ho (fun _ _=>trivial),hb⟩
def Zdo.f (l0:List Int):Option (List Int):=if l0.length*4<=140737488355328 then some l0 else none
theorem Zdo.zer (a:Addr) (c:Nat) (w:World) :
  Calls Tryz.prog 155 #[.slice (some a) 0 c] w fun e w' => ∃ v',e=.returned v'/\w'.ownsRow w.heap.size 85 1 v' 0 []/\Below w.heap.size w w':=by
 obtain ⟨i0,hi,hz0,hz1,hz2⟩:=info_parts info85
 have q22:∀ (w:World) (a:Option Addr) (n c n' c':Nat),(binOp .eql 134 (.slice a n c) (.slice none n' c')).run Tryz.prog w=.ok (.bool a.isNone) w:=fun w a n c n' c'=>Lib.run_eql_slice_nil w _ _ a n c n' c' Tryz.underlying134
 go_enter Tryz.func155,Tryz.ntmps155
 go_wp2_with (at_builtin;refine wpList_append_own _ rfl _ _ 134 rfl w.heap.size 85 i0 (.int .u32 0) 1 4 Tryz.underlying134 hi hz0 hz1 hz2 rfl (by decide) _ _ _ rfl (World.ownsRow_made w #[] 0 (Nat.le_refl _) (Nat.zero_le _) rfl) a 0 c [] rfl rfl (by intro j u hj;simp at hj) (by intro u hu;cases hu) (by unfold maxLen;omega) (by omega) (by simp) ?_)
 intro v' w1 hown hgrow hnil
 go_wp2
 go_ret
 exact ⟨v',rfl,by simpa using hown,((Below.refl _ w).alloc (Nat.le_refl _) _).grown hgrow (by simp) (by intro k hk;simp [Value.ownBlock] at hk;omega)⟩
theorem Zdo.many (b off n c:Nat) (news:List Value) (w:World) (hl:news.length=n*1) (hn:n<=maxLen) (hbig:n*4<=140737488355328) (hc:∀ j u,news[j]? = some u->w.cell? ⟨b,off+j,none⟩=some u) (h1:∀ u ∈ news,u.oneCell'=true) :
  Calls Tryz.prog 155 #[.slice (some ⟨b,off,none⟩) n c] w fun e w' => ∃ v',e=.returned v'/\w'.ownsRow w.heap.size 85 1 v' n news/\Below w.heap.size w w':=by
 obtain ⟨i0,hi,hz0,hz1,hz2⟩:=info_parts info85
 have q22:∀ (w:World) (a:Option Addr) (n c n' c':Nat),(binOp .eql 134 (.slice a n c) (.slice none n' c')).run Tryz.prog w=.ok (.bool a.isNone) w:=fun w a n c n' c'=>Lib.run_eql_slice_nil w _ _ a n c n' c' Tryz.underlying134
 have AA:=Aside0.mk hc
 clear hc
 go_enter Tryz.func155,Tryz.ntmps155
 go_wp2_with (at_builtin;refine wpList_append_own _ rfl _ _ 134 rfl w.heap.size 85 i0 (.int .u32 0) 1 4 Tryz.underlying134 hi hz0 hz1 hz2 rfl (by decide) _ _ _ rfl (World.ownsRow_made w #[] 0 (Nat.le_refl _) (Nat.zero_le _) rfl) ⟨b,off,none⟩ n c news rfl ?qc1 ?qc2 ?qc3 ?qc4 ?qc5 ?qc6 ?_)
 case qc1=>exact hl
 case qc2 =>
  intro j u hj
  rw [Zf3]
  exact Lib.cell?_alloc_some _ (AA.out j u hj)
 case qc3=>exact h1
 case qc4=>rw [Nat.zero_add];exact hn
 case qc5=>rw [Nat.zero_add];exact hbig
 case qc6=>simp
 intro v' w1 hown hgrow hnil
 go_wp2
 go_ret
 exact ⟨v',rfl,by simpa using hown,((Below.refl _ w).alloc (Nat.le_refl _) _).grown hgrow (by simp) (by intro k hk;simp [Value.ownBlock] at hk;omega)⟩
theorem Zdo.nul (n c:Nat) (w:World):Calls Tryz.prog 155 #[.slice none n c] w fun e w'=>e=.returned (.slice none 0 0)/\w'=w:=by
 have q22:∀ (w:World) (a:Option Addr) (n c n' c':Nat),(binOp .eql 134 (.slice a n c) (.slice none n' c')).run Tryz.prog w=.ok (.bool a.isNone) w:=fun w a n c n' c'=>Lib.run_eql_slice_nil w _ _ a n c n' c' Tryz.underlying134
 go_enter Tryz.func155,Tryz.ntmps155
 go_wp2
 go_ret
 exact ⟨rfl,rfl⟩
theorem Zdo.calls (A0:Option Addr) (c0:Nat) (l0:List Int) (r:List Int) (w:World) (hr0:Kd.C (Kd.int .u32) w A0 l0.length l0) (hc0:l0.length<=c0) (h:Zdo.f l0=some r) :
  Calls Tryz.prog 155 #[.slice A0 l0.length c0] w fun e w' => ∃ v0_:Value,e=.returned v0_/\Kd.R (Kd.int .u32) 85 w' w.heap.size (fun _=>True) v0_ r/\Below w.heap.size w w':=by
 unfold Zdo.f at h
 split at h
 case isFalse=>cases h
 case isTrue hb =>
 obtain rfl:=Option.some.inj h
 have hR:ReadsOf (Value.int .u32) 0 w A0 l0.length l0:=Kd.Zfu hr0
 rcases Nat.eq_zero_or_pos l0.length with h0|h0
 ·obtain rfl:l0=[]:=List.eq_nil_of_length_eq_zero h0
  cases A0 with
  | none =>
   refine (Zdo.nul _ _ w).mono ?_
   rintro e w' ⟨rfl,rfl⟩
   exact ⟨_,rfl,Kd.Zjk _ _ _ _ _,Below.refl _ _⟩
  | some a =>
   refine (Zdo.zer a c0 w).mono ?_
   rintro e w' ⟨v,rfl,ho,hb⟩
   exact ⟨v,rfl,Kd.Zdl (enc:=Value.int .u32) (xs:=[]) ho (fun _ _=>trivial),hb⟩
 ·obtain ⟨ad,rfl,hc⟩:=hR.2.2 h0
  obtain ⟨b,o,rfl⟩:=Ziz (show w.cell? ad=_ from hc 0 h0)
  refine (Zdo.many b o l0.length c0 (encs (Value.int .u32) l0) w (by simp [encs]) (by simp [maxLen];omega) hb (fun j u hj=>?_) (fun u hu=>?_)).mono ?_
  ·have hjl:j < l0.length:=by have := (List.getElem?_eq_some_iff.1 hj).1;simpa [encs] using this
   have := hc j hjl
   rw [Zf3] at this
   rw [this,<- hj]
   simp [encs,List.getD,List.getElem?_eq_getElem hjl]
  ·obtain ⟨x,_,rfl⟩:=List.mem_map.1 (show u ∈ l0.map (Value.int .u32) from hu)
   rfl
  ·rintro e w' ⟨v,rfl,ho,hb⟩
   exact ⟨v,rfl,Kd.Zdl (enc:=Value.int .u32) ho (fun _ _=>trivial),hb⟩
end YtjbjkmccfocikaaGreatDoor.B
end
section
namespace YtjbjkmccfocikaaGreatDoor.B
open Go.RowKit YtjbjkmccfocikaaGreatDoorW.PrintWords YtjbjkmccfocikaaGreatDoorW.PrintLast YtjbjkmccfocikaaGreatDoorW.PrintMore
attribute [local go_sem] Zb7 Zb9 Zcr Zcs Zbp Zbq Zb8 Zca
mutual
def Zad.l0:Nat->List Int->List Int->List Int->Int->Int->Option (List Int)
 | 0,_,_,_,_,_=>none
 | k+1,x1,x5,x18,x19,x20=>if x20 < x19 then (if 0<=x20 then (if x20 < (x18.length:Int) then (Zad.l1 k x1 x5 x20 (rd x18 x20) 0 x18 x19 x20 x1 (x1.length:Int) 0) else (none)) else (none)) else ((Zv.f k x5).bind fun qp=>(some qp))
def Zad.l1:Nat->List Int->List Int->Int->Int->Int->List Int->Int->Int->List Int->Int->Int->Option (List Int)
 | 0,_,_,_,_,_,_,_,_,_,_,_=>none
 | k+1,x1,x5,x6,x7,x8,x18,x19,x20,x25,x26,x27=>if x27 < x26 then (if 0<=x27 then (if x27 < (x25.length:Int) then (if 0<=(wrap64 (x6+x27)) then (if (wrap64 (x6+x27)) < (x5.length:Int) then (Zad.l1 k x1 (x5.set ((wrap64 (x6+x27)):Int).toNat ((IntKind.u64.wrap ((IntKind.u64.wrap ((IntKind.u64.wrap ((IntKind.u64.wrap (x7))*(IntKind.u64.wrap (rd x25 x27))))+(IntKind.u64.wrap (rd x5 (wrap64 (x6+x27))))))+x8)) % 4294967296)) x6 x7 ((IntKind.u64.wrap ((IntKind.u64.wrap ((IntKind.u64.wrap ((IntKind.u64.wrap (x7))*(IntKind.u64.wrap (rd x25 x27))))+(IntKind.u64.wrap (rd x5 (wrap64 (x6+x27))))))+x8)) / 4294967296) x18 x19 x20 x25 x26 (wrap64 (x27+1))) else (none)) else (none)) else (none)) else (none)) else (if 0<=(wrap64 (x6+(x1.length:Int))) then (if (wrap64 (x6+(x1.length:Int))) < (x5.length:Int) then (Zad.l0 k x1 (x5.set ((wrap64 (x6+(x1.length:Int))):Int).toNat ((x8) % 4294967296)) x18 x19 (wrap64 (x20+1))) else (none)) else (none))
end
def Zad.f (k:Nat) (l0:List Int) (l1:List Int):Option (List Int):=if 0<=(wrap64 ((l0.length:Int)+(l1.length:Int))) then (if (wrap64 ((l0.length:Int)+(l1.length:Int)):Int).toNat<=70368744177664 then (Zad.l0 k l1 (List.replicate (wrap64 ((l0.length:Int)+(l1.length:Int)):Int).toNat 0) l0 (l0.length:Int) 0) else (none)) else (none)
theorem Zad.calls (k:Nat) (A0:Option Addr) (c0:Nat) (l0:List Int) (A1:Option Addr) (c1:Nat) (l1:List Int) (r:List Int) (w:World) (hr0:Kd.C (Kd.int .u32) w A0 l0.length l0) (hc0:l0.length<=c0) (hr1:Kd.C (Kd.int .u32) w A1 l1.length l1) (hc1:l1.length<=c1) (h:Zad.f k l0 l1=some r) :
  Calls Tryz.prog 129 #[.slice A0 l0.length c0,.slice A1 l1.length c1] w fun e w' => ∃ v0_:Value,e=.returned (v0_)/\Kd.R (Kd.int .u32) 85 w' w.heap.size (fun _=>True) v0_ r/\Below w.heap.size w w':=by
 have HR0:=am hr0
 have HC0:=am hc0
 clear hr0 hc0
 have HR1:=am hr1
 have HC1:=am hc1
 clear hr1 hc1
 have HB:=am (Below.refl w.heap.size w)
 have H:(if 0<=(wrap64 ((l0.length:Int)+(l1.length:Int))) then (if (wrap64 ((l0.length:Int)+(l1.length:Int)):Int).toNat<=70368744177664 then (Zad.l0 k l1 (List.replicate (wrap64 ((l0.length:Int)+(l1.length:Int)):Int).toNat 0) l0 (l0.length:Int) 0) else (none)) else (none))=some r:=h
 clear h
 obtain ⟨ji3,hji3⟩:∃ j_:Int,(wrap64 ((l0.length:Int)+(l1.length:Int)))=j_:=⟨_,rfl⟩
 replace H:(if 0<=(ji3) then (if (ji3:Int).toNat<=70368744177664 then (Zad.l0 k l1 (List.replicate (ji3:Int).toNat 0) l0 (l0.length:Int) 0) else (none)) else (none))=some r:=by first|(rw [hji3] at H;exact H)|(simp only [hji3] at H ⊢;exact H)
 have hji3w:(IntKind.i64.wrap ((l0.length:Int)+(l1.length:Int)))=ji3:=(Zcd _).trans hji3
 by_cases c4:0<=(ji3)
 ·rw [if_pos c4] at H
  have c4b0:=eq_true c4
  have c4b1:decide (0<=(ji3))=true:=decide_eq_true c4
  clear c4
  by_cases c5:(ji3:Int).toNat<=70368744177664
  ·rw [if_pos c5] at H
   have c5b0:=eq_true c5
   have c5b1:decide ((ji3:Int).toNat<=70368744177664)=true:=decide_eq_true c5
   clear c5
   obtain ⟨q1,qc⟩:∃ y_:List Int,y_=(List.replicate (ji3:Int).toNat 0):=⟨_,rfl⟩
   replace H:(Zad.l0 k l1 q1 l0 (l0.length:Int) 0)=some r:=by have hy_:=qc;exact pH
   have qg:=am qc
   clear qc
   have H':=am H
   clear H
   go_enter Tryz.func129,Tryz.ntmps129
   go_wp2_with (first|((with_reducible refine gd 17 ?_);refine Kd.Zlr (Kd.int .u32) _ 85 rfl (N:=17) rfl 134 _ _ rfl ji3 rfl rfl Tryz.underlying134 (.int .u32 0) 4 info85 rfl (by decide) (by omega) 0 (ok:=fun _=>True) (okp:=fun _=>True) rfl (fun _ hk=>hk) trivial (of_decide_eq_true pQ) (Nat.le_trans (Nat.mul_le_mul_right _ (of_decide_eq_true pQ:ji3.toNat<=70368744177664)) (by omega)) (Below.refl _ _) (Nat.le_refl _) ?_;intro q0 w6 ho7 hb hg_ hnew_;clear hg_ hnew_;(first|rw [<- qg.out] at ho7|(simp only [Int.reduceToNat] at ho7;rw [<- qg.out] at ho7));have qs:=am (Kd.Zo ho7 (Zd pB));replace HB:=bS hb;clear hb ho7))
   go_loopg [20] k (fun kq v20 w' => ∃ (x5_1:List Int) (x20_1:Int),v20=.int .i64 x20_1/\Aside0 (Zad.l0 kq l1 x5_1 l0 (l0.length:Int) x20_1=some r)/\Aside0 (kq<=k)/\Aside0 (Kd.R (Kd.int .u32) 85 w' w.heap.size (fun _=>True) q0 x5_1)/\Aside0 (Below w.heap.size w w'))
   case atStart=>exact ⟨(q1),(0),pR,H',⟨Nat.le_refl _⟩,⟨by refine rp ?_;exact qs.o⟩,⟨pB⟩⟩
   case round =>
    clear H'
    obtain ⟨x5_1,x20_1,rfl,HA,HK1,HO_5,HB⟩:=hrel
    cases gk with
    | zero=>exact absurd HA.out (by simp [Zad.l0])
    | succ k1 =>
     have H:=HA.out
     clear HA
     simp only [Zad.l0] at H
     by_cases c8:x20_1 < (l0.length:Int)
     ·rw [if_pos c8] at H
      have c8b0:decide (x20_1 < (l0.length:Int))=true:=decide_eq_true c8
      clear c8
      by_cases c9:0<=x20_1
      ·rw [if_pos c9] at H
       have c9b0:decide (0<=x20_1)=true:=decide_eq_true c9
       clear c9
       by_cases c10:x20_1 < (l0.length:Int)
       ·rw [if_pos c10] at H
        have c10b0:decide (x20_1 < (l0.length:Int))=true:=decide_eq_true c10
        clear c10
        have H':=am H
        clear H
        have qj:0<=(x20_1:Int):=of_decide_eq_true pQ
        have qm:x20_1 < (l0.length:Int):=of_decide_eq_true pQ
        obtain ⟨q9,q4,qa⟩:=Kd.Za5 HR0.o x20_1 qj qm
        cases q4
        replace qa:=(HB.o.cell (World.block_lt_of_cell? w _ qa)).trans qa
        replace qj:=eq_true qj
        replace qm:=eq_true qm
        go_wp2
        go_loopg [8,27] k1 (fun kq v8 v27 w' => ∃ (x5_2:List Int) (x8_2:Int) (x27_2:Int),v8=.int .u64 x8_2/\v27=.int .i64 x27_2/\Aside0 (Zad.l1 kq l1 x5_2 x20_1 (rd l0 x20_1) x8_2 l0 (l0.length:Int) x20_1 l1 (l1.length:Int) x27_2=some r)/\Aside0 (kq<=k1)/\Aside0 (Kd.R (Kd.int .u32) 85 w' w.heap.size (fun _=>True) q0 x5_2)/\Aside0 (Below w.heap.size w w'))
        case atStart=>exact ⟨(x5_1),(0),(0),pR,pR,H',⟨Nat.le_refl _⟩,⟨by refine rp ?_;exact HO_5.o⟩,⟨pB⟩⟩
        case round =>
         clear H'
         obtain ⟨x5_2,x8_2,x27_2,rfl,rfl,HA,HK2,HO_5,HB⟩:=hrel
         cases gk with
         | zero=>exact absurd HA.out (by simp [Zad.l1])
         | succ k2 =>
          have H:=HA.out
          clear HA
          simp only [Zad.l1] at H
          by_cases c11:x27_2 < (l1.length:Int)
          ·rw [if_pos c11] at H
           have c11b0:decide (x27_2 < (l1.length:Int))=true:=decide_eq_true c11
           clear c11
           by_cases c12:0<=x27_2
           ·rw [if_pos c12] at H
            have c12b0:decide (0<=x27_2)=true:=decide_eq_true c12
            clear c12
            by_cases c13:x27_2 < (l1.length:Int)
            ·rw [if_pos c13] at H
             have c13b0:decide (x27_2 < (l1.length:Int))=true:=decide_eq_true c13
             clear c13
             obtain ⟨ji14,hji14⟩:∃ j_:Int,(wrap64 (x20_1+x27_2))=j_:=⟨_,rfl⟩
             replace H:(if 0<=(ji14) then (if (ji14) < (x5_2.length:Int) then (Zad.l1 k2 l1 (x5_2.set ((ji14):Int).toNat ((IntKind.u64.wrap ((IntKind.u64.wrap ((IntKind.u64.wrap ((IntKind.u64.wrap ((rd l0 x20_1)))*(IntKind.u64.wrap (rd l1 x27_2))))+(IntKind.u64.wrap (rd x5_2 (ji14)))))+x8_2)) % 4294967296)) x20_1 (rd l0 x20_1) ((IntKind.u64.wrap ((IntKind.u64.wrap ((IntKind.u64.wrap ((IntKind.u64.wrap ((rd l0 x20_1)))*(IntKind.u64.wrap (rd l1 x27_2))))+(IntKind.u64.wrap (rd x5_2 (ji14)))))+x8_2)) / 4294967296) l0 (l0.length:Int) x20_1 l1 (l1.length:Int) (wrap64 (x27_2+1))) else (none)) else (none))=some r:=by first|(rw [hji14] at H;exact H)|(simp only [hji14] at H ⊢;exact H)
             have hji14w:(IntKind.i64.wrap (x20_1+x27_2))=ji14:=(Zcd _).trans hji14
             by_cases c15:0<=(ji14)
             ·rw [if_pos c15] at H
              have c15b0:decide (0<=(ji14))=true:=decide_eq_true c15
              clear c15
              by_cases c16:(ji14) < (x5_2.length:Int)
              ·rw [if_pos c16] at H
               have c16b0:decide ((ji14) < (x5_2.length:Int))=true:=decide_eq_true c16
               clear c16
               obtain ⟨qq,qd⟩:∃ y_:List Int,y_=(x5_2.set ((ji14):Int).toNat ((IntKind.u64.wrap ((IntKind.u64.wrap ((IntKind.u64.wrap ((IntKind.u64.wrap ((rd l0 x20_1)))*(IntKind.u64.wrap (rd l1 x27_2))))+(IntKind.u64.wrap (rd x5_2 (ji14)))))+x8_2)) % 4294967296)):=⟨_,rfl⟩
               replace H:(Zad.l1 k2 l1 qq x20_1 (rd l0 x20_1) ((IntKind.u64.wrap ((IntKind.u64.wrap ((IntKind.u64.wrap ((IntKind.u64.wrap ((rd l0 x20_1)))*(IntKind.u64.wrap (rd l1 x27_2))))+(IntKind.u64.wrap (rd x5_2 (ji14)))))+x8_2)) / 4294967296) l0 (l0.length:Int) x20_1 l1 (l1.length:Int) (wrap64 (x27_2+1)))=some r:=by have hy_:=qd;exact pH
               have qu:=am qd
               clear qd
               have H':=am H
               clear H
               have qk:0<=(x27_2:Int):=of_decide_eq_true pQ
               have qn:x27_2 < (l1.length:Int):=of_decide_eq_true pQ
               obtain ⟨ja,q5,qb⟩:=Kd.Za5 HR1.o x27_2 qk qn
               cases q5
               replace qb:=(HB.o.cell (World.block_lt_of_cell? w _ qb)).trans qb
               replace qk:=eq_true qk
               replace qn:=eq_true qn
               obtain ⟨jc,q2,q7⟩:=Kd.Zj HO_5.o
               subst q7
               have ql:0<=((ji14):Int):=of_decide_eq_true pQ
               have qo:(ji14) < (x5_2.length:Int):=of_decide_eq_true pQ
               obtain ⟨jb,q6,qf⟩:=Kd.Za5 (Kd.Zc HO_5.o).2.2 (ji14) ql qo
               cases q6
               replace ql:=eq_true ql
               replace qo:=eq_true qo
               have p17:0<=((ji14):Int):=of_decide_eq_true pQ
               have q17:((ji14):Int) < ((x5_2.length:Int):Int):=of_decide_eq_true pQ
               obtain ⟨go17,jd,qw,qy,gl17,cl17,HG17⟩:=Kd.Zif HO_5.o (by omega)
               (first|cases qw|(injection qw with ea_ en_ ec_;(first|subst ea_|(injection ea_ with ea_;subst ea_));subst ec_;clear en_))
               have GB17:=am qy
               have GG17:=am HG17
               clear qy gl17 HG17
               (first|simp only [add_plain] at qf|skip)
               obtain ⟨hx17_0,hf17_0⟩:=Kd.Zfc 0 HO_5.o ((ji14):Int) p17 q17
               replace p17:=eq_true p17
               replace q17:=eq_true q17
               have HP19:=Kd.Zjl HO_5.o ((ji14):Int) ((IntKind.u64.wrap ((IntKind.u64.wrap ((IntKind.u64.wrap ((IntKind.u64.wrap ((rd l0 x20_1)))*(IntKind.u64.wrap (rd l1 x27_2))))+(IntKind.u64.wrap (rd x5_2 (ji14)))))+x8_2)) % 4294967296)
               go_wp2_with (first|((with_reducible refine Zc4 (t:=85) (p:=55) rfl ?_);refine Zcp (t:=85) (p:=55) (v:=?vo_w20) (w1:=(wr.setCell ⟨go17,((ji14):Int).toNat,none⟩ (.int .u32 ((IntKind.u64.wrap ((IntKind.u64.wrap ((IntKind.u64.wrap ((IntKind.u64.wrap ((rd l0 x20_1)))*(IntKind.u64.wrap (rd l1 x27_2))))+(IntKind.u64.wrap (rd x5_2 (ji14)))))+x8_2)) % 4294967296)))) ?hg ?ho ?hn ?hr ?_;(case ho=>rfl);(case hg=>rfl);(case hn=>rfl);(case hr=>first|(go_simp;done)|(go_simp;rfl));intro w20 hw;have hg:wr.grownBy w20 (some go17):=(by rw [hw];exact HP19.2);have hp_:Kd.R (Kd.int .u32) 85 w20 w.heap.size (fun _=>True) (.slice (some ⟨go17,0,none⟩) x5_2.length q2) qq:=(by rw [hw,qu.out];exact HP19.1);clear HP19;replace HO_5:=am (hp_);replace HB:=am ((by rw [hw];exact Zdn (HB.o) GB17.out:Below w.heap.size w w20));clear hg hw hp_))
               go_roundg k2
               case measure=>have := HK1.out;have := HK2.out;omega
               case rel=>exact ⟨(qq),((IntKind.u64.wrap ((IntKind.u64.wrap ((IntKind.u64.wrap ((IntKind.u64.wrap ((rd l0 x20_1)))*(IntKind.u64.wrap (rd l1 x27_2))))+(IntKind.u64.wrap (rd x5_2 (ji14)))))+x8_2)) / 4294967296),(wrap64 (x27_2+1)),(by first|rfl|(simp;done)|(simp only [<- hji14] <;> (first|rfl|simp))|(simp [*];done)),pR,(by first|exact H'|(have H_:=H'.out;simp only [<- hji3] at H_;exact ⟨H_⟩)|(refine ⟨?_⟩;have H_:=H'.out;simp only [<- hji3] at H_ ⊢;exact H_)|(have H_:=H'.out;simp only [<- hji14] at H_;exact ⟨H_⟩)|(refine ⟨?_⟩;have H_:=H'.out;simp only [<- hji14] at H_ ⊢;exact H_)),⟨by have := HK1.out;have := HK2.out;omega⟩,⟨by refine rp ?_;exact HO_5.o⟩,⟨pB⟩⟩
              ·rw [if_neg c16] at H
               exact absurd H (by simp)
             ·rw [if_neg c15] at H
              exact absurd H (by simp)
            ·rw [if_neg c13] at H
             exact absurd H (by simp)
           ·rw [if_neg c12] at H
            exact absurd H (by simp)
          ·rw [if_neg c11] at H
           have c11b0:decide (x27_2 < (l1.length:Int))=false:=decide_eq_false c11
           clear c11
           obtain ⟨ji21,hji21⟩:∃ j_:Int,(wrap64 (x20_1+(l1.length:Int)))=j_:=⟨_,rfl⟩
           replace H:(if 0<=(ji21) then (if (ji21) < (x5_2.length:Int) then (Zad.l0 k2 l1 (x5_2.set ((ji21):Int).toNat ((x8_2) % 4294967296)) l0 (l0.length:Int) (wrap64 (x20_1+1))) else (none)) else (none))=some r:=by first|(rw [hji21] at H;exact H)|(simp only [hji21] at H ⊢;exact H)
           have hji21w:(IntKind.i64.wrap (x20_1+(l1.length:Int)))=ji21:=(Zcd _).trans hji21
           by_cases c22:0<=(ji21)
           ·rw [if_pos c22] at H
            have c22b0:decide (0<=(ji21))=true:=decide_eq_true c22
            clear c22
            by_cases c23:(ji21) < (x5_2.length:Int)
            ·rw [if_pos c23] at H
             have c23b0:decide ((ji21) < (x5_2.length:Int))=true:=decide_eq_true c23
             clear c23
             obtain ⟨qr,qe⟩:∃ y_:List Int,y_=(x5_2.set ((ji21):Int).toNat ((x8_2) % 4294967296)):=⟨_,rfl⟩
             replace H:(Zad.l0 k2 l1 qr l0 (l0.length:Int) (wrap64 (x20_1+1)))=some r:=by have hy_:=qe;exact pH
             have qv:=am qe
             clear qe
             have H':=am H
             clear H
             have p24:0<=((ji21):Int):=of_decide_eq_true pQ
             have q24:((ji21):Int) < ((x5_2.length:Int):Int):=of_decide_eq_true pQ
             obtain ⟨go24,q3,qx,qz,gl24,cl24,HG24⟩:=Kd.Zif HO_5.o (by omega)
             (first|cases qx|(injection qx with ea_ en_ ec_;(first|subst ea_|(injection ea_ with ea_;subst ea_));subst ec_;clear en_))
             have GB24:=am qz
             have GG24:=am HG24
             clear qz gl24 HG24
             obtain ⟨hx24_0,hf24_0⟩:=Kd.Zfc 0 HO_5.o ((ji21):Int) p24 q24
             replace p24:=eq_true p24
             replace q24:=eq_true q24
             have HP25:=Kd.Zjl HO_5.o ((ji21):Int) ((x8_2) % 4294967296)
             go_wp2_with (first|((with_reducible refine Zc4 (t:=85) (p:=64) rfl ?_);refine Zcp (t:=85) (p:=64) (v:=?vo_w26) (w1:=(wr.setCell ⟨go24,((ji21):Int).toNat,none⟩ (.int .u32 ((x8_2) % 4294967296)))) ?hg ?ho ?hn ?hr ?_;(case ho=>rfl);(case hg=>rfl);(case hn=>rfl);(case hr=>first|(go_simp;done)|(go_simp;rfl));intro w26 hw;have hg:wr.grownBy w26 (some go24):=(by rw [hw];exact HP25.2);have hp_:Kd.R (Kd.int .u32) 85 w26 w.heap.size (fun _=>True) (.slice (some ⟨go24,0,none⟩) x5_2.length q3) qr:=(by rw [hw,qv.out];exact HP25.1);clear HP25;replace HO_5:=am (hp_);replace HB:=am ((by rw [hw];exact Zdn (HB.o) GB24.out:Below w.heap.size w w26));clear hg hw hp_))
             go_roundg k2
             case measure=>have := HK1.out;have := HK2.out;omega
             case rel=>exact ⟨(qr),(wrap64 (x20_1+1)),pR,(by first|exact H'|(have H_:=H'.out;simp only [<- hji3] at H_;exact ⟨H_⟩)|(refine ⟨?_⟩;have H_:=H'.out;simp only [<- hji3] at H_ ⊢;exact H_)|(have H_:=H'.out;simp only [<- hji21] at H_;exact ⟨H_⟩)|(refine ⟨?_⟩;have H_:=H'.out;simp only [<- hji21] at H_ ⊢;exact H_)),⟨by have := HK1.out;have := HK2.out;omega⟩,⟨by refine rp ?_;exact HO_5.o⟩,⟨pB⟩⟩
            ·rw [if_neg c23] at H
             exact absurd H (by simp)
           ·rw [if_neg c22] at H
            exact absurd H (by simp)
       ·rw [if_neg c10] at H
        exact absurd H (by simp)
      ·rw [if_neg c9] at H
       exact absurd H (by simp)
     ·rw [if_neg c8] at H
      have c8b0:decide (x20_1 < (l0.length:Int))=false:=decide_eq_false c8
      clear c8
      obtain ⟨qp,A27,H⟩:=ob H
      obtain rfl:=Option.some.inj H
      obtain ⟨qh,qi,q8⟩:=Kd.Zj HO_5.o
      subst q8
      go_wp2_with (first|(refine gL (some 67) Tryz.func132 #[.slice qh x5_1.length qi] (h:=?_);(with_reducible refine (Zv.calls k1 (fun k_=>some k_=(.slice qh x5_1.length qi:Value).ownBlock) (.slice qh x5_1.length qi) x5_1 qp w _ ?side1 ?side2 A27.o).mono ?_);(case side1=>exact pB);(case side2=>exact Kd.Zbj rfl HO_5.o);rintro e w29 ⟨je,rfl,ho0,hb,hkp⟩;refine ⟨_,rfl,?_⟩;have qt:=am (Kd.Zh (ok':=fun k_=>True) ho0 (fun k_ hk_=>trivial));replace HB:=am hb;clear HO_5))
      go_ret
      exact ⟨_,by first|rfl|(simp [Zak,Zal] <;> rfl)|(simp only [<- hji3];first|rfl|(simp [Zak,Zal] <;> rfl))|(simp [*,Zak,Zal] <;> rfl),by refine rp ?_;exact qt.o,pB⟩
  ·rw [if_neg c5] at H
   exact absurd H (by simp)
 ·rw [if_neg c4] at H
  exact absurd H (by simp)
def Zcg.f (a0:Int) (a1:Int) (a2:Int):Option (Int × Int):=some ((IntKind.u64.wrap ((IntKind.u64.wrap ((IntKind.u64.wrap (a0))+(IntKind.u64.wrap (a1))))+(IntKind.u64.wrap (a2)))) % 4294967296,((IntKind.u64.wrap ((IntKind.u64.wrap ((IntKind.u64.wrap (a0))+(IntKind.u64.wrap (a1))))+(IntKind.u64.wrap (a2)))) / 4294967296) % 4294967296)
theorem Zcg.calls (a0:Int) (a1:Int) (a2:Int) (r1:Int) (r2:Int) (w:World) (h:Zcg.f a0 a1 a2=some (r1,r2)) :
  Calls Tryz.prog 164 #[.int .u32 a0,.int .u32 a1,.int .u32 a2] w fun e w'=>e=.returned (.tuple #[.int .u32 r1,.int .u32 r2])/\Drawn0 w w':=by
 have H:(some ((IntKind.u64.wrap ((IntKind.u64.wrap ((IntKind.u64.wrap (a0))+(IntKind.u64.wrap (a1))))+(IntKind.u64.wrap (a2)))) % 4294967296,((IntKind.u64.wrap ((IntKind.u64.wrap ((IntKind.u64.wrap (a0))+(IntKind.u64.wrap (a1))))+(IntKind.u64.wrap (a2)))) / 4294967296) % 4294967296))=some (r1,r2):=h
 clear h
 simp only [Option.some.injEq,Prod.mk.injEq] at H
 obtain ⟨rfl,rfl⟩:=H
 go_enter Tryz.func164,Tryz.ntmps164
 go_wp2
 go_ret2
 exact ⟨pR,pD⟩
mutual
def Zac.l0:Nat->List Int->List Int->Int->List Int->Int->Int->Option (List Int)
 | 0,_,_,_,_,_,_=>none
 | k+1,x1,x5,x6,x23,x24,x25=>if x25 < x24 then (if 0<=x25 then (if x25 < (x23.length:Int) then (if x25 < (x1.length:Int) then ((Zcg.f (rd x23 x25) (rd x1 x25) x6).bind fun q2=>(if x5.length < 35184372088832 then (Zac.l0 k x1 (x5 ++ [q2.1]) q2.2 x23 x24 (wrap64 (x25+1))) else (none))) else ((Zcg.f (rd x23 x25) 0 x6).bind fun q3=>(if x5.length < 35184372088832 then (Zac.l0 k x1 (x5 ++ [q3.1]) q3.2 x23 x24 (wrap64 (x25+1))) else (none)))) else (none)) else (none)) else (if x5.length < 35184372088832 then ((Zv.f k (x5 ++ [x6])).bind fun qs=>(some qs)) else (none))
def Zac.l2:Nat->List Int->List Int->Int->List Int->Int->Int->Option (List Int)
 | 0,_,_,_,_,_,_=>none
 | k+1,x1,x5,x6,x23,x24,x25=>if x25 < x24 then (if 0<=x25 then (if x25 < (x23.length:Int) then (if x25 < (x1.length:Int) then ((Zcg.f (rd x23 x25) (rd x1 x25) x6).bind fun q4=>(if x5.length < 35184372088832 then (Zac.l2 k x1 (x5 ++ [q4.1]) q4.2 x23 x24 (wrap64 (x25+1))) else (none))) else ((Zcg.f (rd x23 x25) 0 x6).bind fun q5=>(if x5.length < 35184372088832 then (Zac.l2 k x1 (x5 ++ [q5.1]) q5.2 x23 x24 (wrap64 (x25+1))) else (none)))) else (none)) else (none)) else (if x5.length < 35184372088832 then ((Zv.f k (x5 ++ [x6])).bind fun qt=>(some qt)) else (none))
end
def Zac.f (k:Nat) (l0:List Int) (l1:List Int):Option (List Int):=if (l0.length:Int) < (l1.length:Int) then (if 0<=(wrap64 ((l1.length:Int)+1)) then (if (wrap64 ((l1.length:Int)+1):Int).toNat<=70368744177664 then (Zac.l0 k l0 (List.replicate 0 0) 0 l1 (l1.length:Int) 0) else (none)) else (none)) else (if 0<=(wrap64 ((l0.length:Int)+1)) then (if (wrap64 ((l0.length:Int)+1):Int).toNat<=70368744177664 then (Zac.l2 k l1 (List.replicate 0 0) 0 l0 (l0.length:Int) 0) else (none)) else (none))
theorem Zac.calls (k:Nat) (A0:Option Addr) (c0:Nat) (l0:List Int) (A1:Option Addr) (c1:Nat) (l1:List Int) (r:List Int) (w:World) (hr0:Kd.C (Kd.int .u32) w A0 l0.length l0) (hc0:l0.length<=c0) (hr1:Kd.C (Kd.int .u32) w A1 l1.length l1) (hc1:l1.length<=c1) (h:Zac.f k l0 l1=some r) :
  Calls Tryz.prog 131 #[.slice A0 l0.length c0,.slice A1 l1.length c1] w fun e w' => ∃ v0_:Value,e=.returned (v0_)/\Kd.R (Kd.int .u32) 85 w' w.heap.size (fun _=>True) v0_ r/\Below w.heap.size w w':=by
 have HR0:=am hr0
 have HC0:=am hc0
 clear hr0 hc0
 have HR1:=am hr1
 have HC1:=am hc1
 clear hr1 hc1
 have HB:=am (Below.refl w.heap.size w)
 have H:(if (l0.length:Int) < (l1.length:Int) then (if 0<=(wrap64 ((l1.length:Int)+1)) then (if (wrap64 ((l1.length:Int)+1):Int).toNat<=70368744177664 then (Zac.l0 k l0 (List.replicate 0 0) 0 l1 (l1.length:Int) 0) else (none)) else (none)) else (if 0<=(wrap64 ((l0.length:Int)+1)) then (if (wrap64 ((l0.length:Int)+1):Int).toNat<=70368744177664 then (Zac.l2 k l1 (List.replicate 0 0) 0 l0 (l0.length:Int) 0) else (none)) else (none)))=some r:=h
 clear h
 by_cases c3:(l0.length:Int) < (l1.length:Int)
 ·rw [if_pos c3] at H
  have c3b0:decide ((l0.length:Int) < (l1.length:Int))=true:=decide_eq_true c3
  have c3b1:decide (l0.length < l1.length)=true:=decide_eq_true (Int.ofNat_lt.mp c3)
  clear c3
  obtain ⟨ji4,hji4⟩:∃ j_:Int,(wrap64 ((l1.length:Int)+1))=j_:=⟨_,rfl⟩
  replace H:(if 0<=(ji4) then (if (ji4:Int).toNat<=70368744177664 then (Zac.l0 k l0 (List.replicate 0 0) 0 l1 (l1.length:Int) 0) else (none)) else (none))=some r:=by first|(rw [hji4] at H;exact H)|(simp only [hji4] at H ⊢;exact H)
  have hji4w:(IntKind.i64.wrap ((l1.length:Int)+1))=ji4:=(Zcd _).trans hji4
  by_cases c5:0<=(ji4)
  ·rw [if_pos c5] at H
   have c5b0:=eq_true c5
   have c5b1:decide (0<=(ji4))=true:=decide_eq_true c5
   clear c5
   by_cases c6:(ji4:Int).toNat<=70368744177664
   ·rw [if_pos c6] at H
    have c6b0:=eq_true c6
    have c6b1:decide ((ji4:Int).toNat<=70368744177664)=true:=decide_eq_true c6
    clear c6
    obtain ⟨j0,qk⟩:∃ y_:List Int,y_=(List.replicate 0 0):=⟨_,rfl⟩
    replace H:(Zac.l0 k l0 j0 0 l1 (l1.length:Int) 0)=some r:=by have hy_:=qk;exact pH
    have q0:=am qk
    clear qk
    have H':=am H
    clear H
    go_enter Tryz.func131,Tryz.ntmps131
    go_wp2_with (first|((with_reducible refine gd 22 ?_);refine Zhj (Kd.int .u32) _ 85 rfl (N:=22) rfl 134 _ _ rfl ji4 rfl rfl Tryz.underlying134 (.int .u32 0) 4 info85 (by omega) 0 (ok:=fun _=>True) (okp:=fun _=>True) (fun _ hk=>hk) trivial (of_decide_eq_true pQ) (Nat.le_trans (Nat.mul_le_mul_right _ (of_decide_eq_true pQ:(ji4:Int).toNat<=70368744177664)) (by omega)) (Below.refl _ _) (Nat.le_refl _) ?_;intro qac w7 ho8 hb hg_ hnew_;clear hg_ hnew_;(first|rw [<- q0.out] at ho8|(simp only [Int.reduceToNat] at ho8;rw [<- q0.out] at ho8));have jk:=am (Kd.Zo ho8 (Zd pB));replace HB:=bS hb;clear hb ho8))
    go_loopg [5,6,25] k (fun kq v5 v6 v25 w' => ∃ (x5_1:List Int) (x6_1:Int) (x25_1:Int),v6=.int .u32 x6_1/\v25=.int .i64 x25_1/\Aside0 (Zac.l0 kq l0 x5_1 x6_1 l1 (l1.length:Int) x25_1=some r)/\Aside0 (kq<=k)/\Aside0 (Kd.R (Kd.int .u32) 85 w' w.heap.size (fun _=>True) v5 x5_1)/\Aside0 (Below w.heap.size w w'))
    case atStart=>exact ⟨(j0),(0),(0),pR,pR,H',⟨Nat.le_refl _⟩,⟨by refine rp ?_;exact jk.o⟩,⟨pB⟩⟩
    case round =>
     clear H'
     obtain ⟨x5_1,x6_1,x25_1,rfl,rfl,HA,HK1,HO_5,HB⟩:=hrel
     cases gk with
     | zero=>exact absurd HA.out (by simp [Zac.l0])
     | succ k1 =>
      have H:=HA.out
      clear HA
      simp only [Zac.l0] at H
      by_cases c9:x25_1 < (l1.length:Int)
      ·rw [if_pos c9] at H
       have c9b0:decide (x25_1 < (l1.length:Int))=true:=decide_eq_true c9
       clear c9
       by_cases c10:0<=x25_1
       ·rw [if_pos c10] at H
        have c10b0:decide (0<=x25_1)=true:=decide_eq_true c10
        clear c10
        by_cases c11:x25_1 < (l1.length:Int)
        ·rw [if_pos c11] at H
         have c11b0:decide (x25_1 < (l1.length:Int))=true:=decide_eq_true c11
         clear c11
         by_cases c12:x25_1 < (l0.length:Int)
         ·rw [if_pos c12] at H
          have c12b0:decide (x25_1 < (l0.length:Int))=true:=decide_eq_true c12
          clear c12
          obtain ⟨⟨qw,jg⟩,A13,H⟩:=ob H;(try dsimp only at H)
          by_cases c14:x5_1.length < 35184372088832
          ·rw [if_pos c14] at H
           have LMc14:=am c14
           clear c14
           obtain ⟨j1,ql⟩:∃ y_:List Int,y_=(x5_1 ++ [qw]):=⟨_,rfl⟩
           replace H:(Zac.l0 k1 l0 j1 jg l1 (l1.length:Int) (wrap64 (x25_1+1)))=some r:=by have hy_:=ql;exact pH
           have js:=am ql
           clear ql
           have H':=am H
           clear H
           have qe:0<=(x25_1:Int):=of_decide_eq_true pQ
           have qg:x25_1 < (l1.length:Int):=of_decide_eq_true pQ
           obtain ⟨jy,ja,qa⟩:=Kd.Za5 HR1.o x25_1 qe qg
           cases ja
           replace qa:=(HB.o.cell (World.block_lt_of_cell? w _ qa)).trans qa
           replace qe:=eq_true qe
           replace qg:=eq_true qg
           have jc:0<=(x25_1:Int):=of_decide_eq_true pQ
           have je:x25_1 < (l0.length:Int):=of_decide_eq_true pQ
           obtain ⟨qaa,j6,qc⟩:=Kd.Za5 HR0.o x25_1 jc je
           cases j6
           replace qc:=(HB.o.cell (World.block_lt_of_cell? w _ qc)).trans qc
           replace jc:=eq_true jc
           replace je:=eq_true je
           go_wp2_with (first|(refine gL (some 42) Tryz.func164 #[.int .u32 (rd l1 x25_1),.int .u32 (rd l0 x25_1),.int .u32 x6_1] (h:=?_);(with_reducible refine (Zcg.calls (rd l1 x25_1) (rd l0 x25_1) x6_1 qw jg _ A13.o).mono ?_);rintro e w' ⟨rfl,⟨nd,rfl⟩⟩;refine ⟨_,rfl,?_⟩)|((with_reducible refine Zam (b:=.append) (xs:=#[.tmp 45,.tmp 47]) rfl ?_);at_builtin;refine Kd.Zb1 (Kd.int .u32) (w0:=w) w.heap.size rfl (.tmp 45) (.tmp 47) 134 85 (.int .u32 0) 4 rfl Tryz.underlying134 info85 rfl (by decide) (by omega) u5 x5_1 qw [.int .u32 qw] (fun _=>True) (fun _=>False) rfl rfl ?aP (fun _ hk=>hk.elim) ?aF ?aO ?aB ?aS ?aL ?_;(case aP=>exact rfl);(case aB=>exact pB);(case aF=>exact (fun _ _=>trivial));(case aO=>exact (Kd.Za HO_5.o pl));(case aS=>exact (Zd pB));(case aL=>have := LMc14.o;omega);intro qad w15 ho hb hg hat;rw [<- js.out] at ho;have jl:=am ho;replace HB:=am hb;clear HO_5 ho hb hg hat))
           go_roundg k1
           case measure=>have := HK1.out;omega
           case rel=>exact ⟨(j1),(jg),(wrap64 (x25_1+1)),pR,pR,(by first|exact H'|(have H_:=H'.out;simp only [<- hji4] at H_;exact ⟨H_⟩)|(refine ⟨?_⟩;have H_:=H'.out;simp only [<- hji4] at H_ ⊢;exact H_)),⟨by have := HK1.out;omega⟩,⟨by refine rp ?_;exact jl.o⟩,⟨pB⟩⟩
          ·rw [if_neg c14] at H
           exact absurd H (by simp)
         ·rw [if_neg c12] at H
          have c12b0:decide (x25_1 < (l0.length:Int))=false:=decide_eq_false c12
          clear c12
          obtain ⟨⟨qx,jh⟩,A16,H⟩:=ob H;(try dsimp only at H)
          by_cases c17:x5_1.length < 35184372088832
          ·rw [if_pos c17] at H
           have LMc17:=am c17
           clear c17
           obtain ⟨j2,qm⟩:∃ y_:List Int,y_=(x5_1 ++ [qx]):=⟨_,rfl⟩
           replace H:(Zac.l0 k1 l0 j2 jh l1 (l1.length:Int) (wrap64 (x25_1+1)))=some r:=by have hy_:=qm;exact pH
           have jt:=am qm
           clear qm
           have H':=am H
           clear H
           have qe:0<=(x25_1:Int):=of_decide_eq_true pQ
           have qg:x25_1 < (l1.length:Int):=of_decide_eq_true pQ
           obtain ⟨jy,ja,qa⟩:=Kd.Za5 HR1.o x25_1 qe qg
           cases ja
           replace qa:=(HB.o.cell (World.block_lt_of_cell? w _ qa)).trans qa
           replace qe:=eq_true qe
           replace qg:=eq_true qg
           go_wp2_with (first|(refine gL (some 42) Tryz.func164 #[.int .u32 (rd l1 x25_1),.int .u32 0,.int .u32 x6_1] (h:=?_);(with_reducible refine (Zcg.calls (rd l1 x25_1) 0 x6_1 qx jh _ A16.o).mono ?_);rintro e w' ⟨rfl,⟨nd,rfl⟩⟩;refine ⟨_,rfl,?_⟩)|((with_reducible refine Zam (b:=.append) (xs:=#[.tmp 45,.tmp 47]) rfl ?_);at_builtin;refine Kd.Zb1 (Kd.int .u32) (w0:=w) w.heap.size rfl (.tmp 45) (.tmp 47) 134 85 (.int .u32 0) 4 rfl Tryz.underlying134 info85 rfl (by decide) (by omega) u5 x5_1 qx [.int .u32 qx] (fun _=>True) (fun _=>False) rfl rfl ?aP (fun _ hk=>hk.elim) ?aF ?aO ?aB ?aS ?aL ?_;(case aP=>exact rfl);(case aB=>exact pB);(case aF=>exact (fun _ _=>trivial));(case aO=>exact (Kd.Za HO_5.o pl));(case aS=>exact (Zd pB));(case aL=>have := LMc17.o;omega);intro qae w18 ho hb hg hat;rw [<- jt.out] at ho;have jm:=am ho;replace HB:=am hb;clear HO_5 ho hb hg hat))
           go_roundg k1
           case measure=>have := HK1.out;omega
           case rel=>exact ⟨(j2),(jh),(wrap64 (x25_1+1)),pR,pR,(by first|exact H'|(have H_:=H'.out;simp only [<- hji4] at H_;exact ⟨H_⟩)|(refine ⟨?_⟩;have H_:=H'.out;simp only [<- hji4] at H_ ⊢;exact H_)),⟨by have := HK1.out;omega⟩,⟨by refine rp ?_;exact jm.o⟩,⟨pB⟩⟩
          ·rw [if_neg c17] at H
           exact absurd H (by simp)
        ·rw [if_neg c11] at H
         exact absurd H (by simp)
       ·rw [if_neg c10] at H
        exact absurd H (by simp)
      ·rw [if_neg c9] at H
       have c9b0:decide (x25_1 < (l1.length:Int))=false:=decide_eq_false c9
       clear c9
       by_cases c19:x5_1.length < 35184372088832
       ·rw [if_pos c19] at H
        have LMc19:=am c19
        clear c19
        obtain ⟨qu,qn⟩:∃ y_:List Int,y_=(x5_1 ++ [x6_1]):=⟨_,rfl⟩
        replace H:((Zv.f k1 qu).bind fun qs=>(some qs))=some r:=by have hy_:=qn;exact pH
        have ju:=am qn
        clear qn
        obtain ⟨qs,A20,H⟩:=ob H
        obtain rfl:=Option.some.inj H
        go_wp2_with (first|((with_reducible refine Zam (b:=.append) (xs:=#[.tmp 51,.tmp 53]) rfl ?_);at_builtin;refine Kd.Zb1 (Kd.int .u32) (w0:=w) w.heap.size rfl (.tmp 51) (.tmp 53) 134 85 (.int .u32 0) 4 rfl Tryz.underlying134 info85 rfl (by decide) (by omega) u5 x5_1 x6_1 [.int .u32 x6_1] (fun _=>True) (fun _=>False) rfl rfl ?aP (fun _ hk=>hk.elim) ?aF ?aO ?aB ?aS ?aL ?_;(case aP=>exact rfl);(case aB=>exact pB);(case aF=>exact (fun _ _=>trivial));(case aO=>exact (Kd.Za HO_5.o pl));(case aS=>exact (Zd pB));(case aL=>have := LMc19.o;omega);intro qaf w21 ho hb hg hat;rw [<- ju.out] at ho;have qi:=am ho;replace HB:=am hb;clear HO_5 ho hb hg hat;obtain ⟨q6,q8,j8⟩:=Kd.Zj qi.o;subst j8)|(refine gL (some 55) Tryz.func132 #[.slice q6 qu.length q8] (h:=?_);(with_reducible refine (Zv.calls k1 (fun k_=>some k_=(.slice q6 qu.length q8:Value).ownBlock) (.slice q6 qu.length q8) qu qs w _ ?side1 ?side2 A20.o).mono ?_);(case side1=>exact pB);(case side2=>exact Kd.Zbj rfl qi.o);rintro e w23 ⟨qag,rfl,ho0,hb,hkp⟩;refine ⟨_,rfl,?_⟩;have jn:=am (Kd.Zh (ok':=fun k_=>True) ho0 (fun k_ hk_=>trivial));replace HB:=am hb;clear qi))
        go_ret
        exact ⟨_,by first|rfl|(simp [Zak,Zal] <;> rfl)|(simp only [<- hji4];first|rfl|(simp [Zak,Zal] <;> rfl))|(simp [*,Zak,Zal] <;> rfl),by refine rp ?_;exact jn.o,pB⟩
       ·rw [if_neg c19] at H
        exact absurd H (by simp)
   ·rw [if_neg c6] at H
    exact absurd H (by simp)
  ·rw [if_neg c5] at H
   exact absurd H (by simp)
 ·rw [if_neg c3] at H
  have c3b0:decide ((l0.length:Int) < (l1.length:Int))=false:=decide_eq_false c3
  have c3b1:decide (l0.length < l1.length)=false:=decide_eq_false (fun h=>c3 (Int.ofNat_lt.mpr h))
  clear c3
  obtain ⟨ji24,hji24⟩:∃ j_:Int,(wrap64 ((l0.length:Int)+1))=j_:=⟨_,rfl⟩
  replace H:(if 0<=(ji24) then (if (ji24:Int).toNat<=70368744177664 then (Zac.l2 k l1 (List.replicate 0 0) 0 l0 (l0.length:Int) 0) else (none)) else (none))=some r:=by first|(rw [hji24] at H;exact H)|(simp only [hji24] at H ⊢;exact H)
  have hji24w:(IntKind.i64.wrap ((l0.length:Int)+1))=ji24:=(Zcd _).trans hji24
  by_cases c25:0<=(ji24)
  ·rw [if_pos c25] at H
   have c25b0:=eq_true c25
   have c25b1:decide (0<=(ji24))=true:=decide_eq_true c25
   clear c25
   by_cases c26:(ji24:Int).toNat<=70368744177664
   ·rw [if_pos c26] at H
    have c26b0:=eq_true c26
    have c26b1:decide ((ji24:Int).toNat<=70368744177664)=true:=decide_eq_true c26
    clear c26
    obtain ⟨j3,qo⟩:∃ y_:List Int,y_=(List.replicate 0 0):=⟨_,rfl⟩
    replace H:(Zac.l2 k l1 j3 0 l0 (l0.length:Int) 0)=some r:=by have hy_:=qo;exact pH
    have q1:=am qo
    clear qo
    have H':=am H
    clear H
    go_enter Tryz.func131,Tryz.ntmps131
    go_wp2_with (first|((with_reducible refine gd 22 ?_);refine Zhj (Kd.int .u32) _ 85 rfl (N:=22) rfl 134 _ _ rfl ji24 rfl rfl Tryz.underlying134 (.int .u32 0) 4 info85 (by omega) 0 (ok:=fun _=>True) (okp:=fun _=>True) (fun _ hk=>hk) trivial (of_decide_eq_true pQ) (Nat.le_trans (Nat.mul_le_mul_right _ (of_decide_eq_true pQ:(ji24:Int).toNat<=70368744177664)) (by omega)) (Below.refl _ _) (Nat.le_refl _) ?_;intro qah w27 ho28 hb hg_ hnew_;clear hg_ hnew_;(first|rw [<- q1.out] at ho28|(simp only [Int.reduceToNat] at ho28;rw [<- q1.out] at ho28));have jo:=am (Kd.Zo ho28 (Zd pB));replace HB:=bS hb;clear hb ho28))
    go_loopg [5,6,25] k (fun kq v5 v6 v25 w' => ∃ (x5_1:List Int) (x6_1:Int) (x25_1:Int),v6=.int .u32 x6_1/\v25=.int .i64 x25_1/\Aside0 (Zac.l2 kq l1 x5_1 x6_1 l0 (l0.length:Int) x25_1=some r)/\Aside0 (kq<=k)/\Aside0 (Kd.R (Kd.int .u32) 85 w' w.heap.size (fun _=>True) v5 x5_1)/\Aside0 (Below w.heap.size w w'))
    case atStart=>exact ⟨(j3),(0),(0),pR,pR,H',⟨Nat.le_refl _⟩,⟨by refine rp ?_;exact jo.o⟩,⟨pB⟩⟩
    case round =>
     clear H'
     obtain ⟨x5_1,x6_1,x25_1,rfl,rfl,HA,HK1,HO_5,HB⟩:=hrel
     cases gk with
     | zero=>exact absurd HA.out (by simp [Zac.l2])
     | succ k1 =>
      have H:=HA.out
      clear HA
      simp only [Zac.l2] at H
      by_cases c29:x25_1 < (l0.length:Int)
      ·rw [if_pos c29] at H
       have c29b0:decide (x25_1 < (l0.length:Int))=true:=decide_eq_true c29
       clear c29
       by_cases c30:0<=x25_1
       ·rw [if_pos c30] at H
        have c30b0:decide (0<=x25_1)=true:=decide_eq_true c30
        clear c30
        by_cases c31:x25_1 < (l0.length:Int)
        ·rw [if_pos c31] at H
         have c31b0:decide (x25_1 < (l0.length:Int))=true:=decide_eq_true c31
         clear c31
         by_cases c32:x25_1 < (l1.length:Int)
         ·rw [if_pos c32] at H
          have c32b0:decide (x25_1 < (l1.length:Int))=true:=decide_eq_true c32
          clear c32
          obtain ⟨⟨qy,ji⟩,A33,H⟩:=ob H;(try dsimp only at H)
          by_cases c34:x5_1.length < 35184372088832
          ·rw [if_pos c34] at H
           have LMc34:=am c34
           clear c34
           obtain ⟨j4,qp⟩:∃ y_:List Int,y_=(x5_1 ++ [qy]):=⟨_,rfl⟩
           replace H:(Zac.l2 k1 l1 j4 ji l0 (l0.length:Int) (wrap64 (x25_1+1)))=some r:=by have hy_:=qp;exact pH
           have jv:=am qp
           clear qp
           have H':=am H
           clear H
           have qf:0<=(x25_1:Int):=of_decide_eq_true pQ
           have qh:x25_1 < (l0.length:Int):=of_decide_eq_true pQ
           obtain ⟨jz,jb,qb⟩:=Kd.Za5 HR0.o x25_1 qf qh
           cases jb
           replace qb:=(HB.o.cell (World.block_lt_of_cell? w _ qb)).trans qb
           replace qf:=eq_true qf
           replace qh:=eq_true qh
           have jd:0<=(x25_1:Int):=of_decide_eq_true pQ
           have jf:x25_1 < (l1.length:Int):=of_decide_eq_true pQ
           obtain ⟨qab,j7,qd⟩:=Kd.Za5 HR1.o x25_1 jd jf
           cases j7
           replace qd:=(HB.o.cell (World.block_lt_of_cell? w _ qd)).trans qd
           replace jd:=eq_true jd
           replace jf:=eq_true jf
           go_wp2_with (first|(refine gL (some 42) Tryz.func164 #[.int .u32 (rd l0 x25_1),.int .u32 (rd l1 x25_1),.int .u32 x6_1] (h:=?_);(with_reducible refine (Zcg.calls (rd l0 x25_1) (rd l1 x25_1) x6_1 qy ji _ A33.o).mono ?_);rintro e w' ⟨rfl,⟨nd,rfl⟩⟩;refine ⟨_,rfl,?_⟩)|((with_reducible refine Zam (b:=.append) (xs:=#[.tmp 45,.tmp 47]) rfl ?_);at_builtin;refine Kd.Zb1 (Kd.int .u32) (w0:=w) w.heap.size rfl (.tmp 45) (.tmp 47) 134 85 (.int .u32 0) 4 rfl Tryz.underlying134 info85 rfl (by decide) (by omega) u5 x5_1 qy [.int .u32 qy] (fun _=>True) (fun _=>False) rfl rfl ?aP (fun _ hk=>hk.elim) ?aF ?aO ?aB ?aS ?aL ?_;(case aP=>exact rfl);(case aB=>exact pB);(case aF=>exact (fun _ _=>trivial));(case aO=>exact (Kd.Za HO_5.o pl));(case aS=>exact (Zd pB));(case aL=>have := LMc34.o;omega);intro qai w35 ho hb hg hat;rw [<- jv.out] at ho;have jp:=am ho;replace HB:=am hb;clear HO_5 ho hb hg hat))
           go_roundg k1
           case measure=>have := HK1.out;omega
           case rel=>exact ⟨(j4),(ji),(wrap64 (x25_1+1)),pR,pR,(by first|exact H'|(have H_:=H'.out;simp only [<- hji24] at H_;exact ⟨H_⟩)|(refine ⟨?_⟩;have H_:=H'.out;simp only [<- hji24] at H_ ⊢;exact H_)),⟨by have := HK1.out;omega⟩,⟨by refine rp ?_;exact jp.o⟩,⟨pB⟩⟩
          ·rw [if_neg c34] at H
           exact absurd H (by simp)
         ·rw [if_neg c32] at H
          have c32b0:decide (x25_1 < (l1.length:Int))=false:=decide_eq_false c32
          clear c32
          obtain ⟨⟨qz,jj⟩,A36,H⟩:=ob H;(try dsimp only at H)
          by_cases c37:x5_1.length < 35184372088832
          ·rw [if_pos c37] at H
           have LMc37:=am c37
           clear c37
           obtain ⟨j5,qq⟩:∃ y_:List Int,y_=(x5_1 ++ [qz]):=⟨_,rfl⟩
           replace H:(Zac.l2 k1 l1 j5 jj l0 (l0.length:Int) (wrap64 (x25_1+1)))=some r:=by have hy_:=qq;exact pH
           have jw:=am qq
           clear qq
           have H':=am H
           clear H
           have qf:0<=(x25_1:Int):=of_decide_eq_true pQ
           have qh:x25_1 < (l0.length:Int):=of_decide_eq_true pQ
           obtain ⟨jz,jb,qb⟩:=Kd.Za5 HR0.o x25_1 qf qh
           cases jb
           replace qb:=(HB.o.cell (World.block_lt_of_cell? w _ qb)).trans qb
           replace qf:=eq_true qf
           replace qh:=eq_true qh
           go_wp2_with (first|(refine gL (some 42) Tryz.func164 #[.int .u32 (rd l0 x25_1),.int .u32 0,.int .u32 x6_1] (h:=?_);(with_reducible refine (Zcg.calls (rd l0 x25_1) 0 x6_1 qz jj _ A36.o).mono ?_);rintro e w' ⟨rfl,⟨nd,rfl⟩⟩;refine ⟨_,rfl,?_⟩)|((with_reducible refine Zam (b:=.append) (xs:=#[.tmp 45,.tmp 47]) rfl ?_);at_builtin;refine Kd.Zb1 (Kd.int .u32) (w0:=w) w.heap.size rfl (.tmp 45) (.tmp 47) 134 85 (.int .u32 0) 4 rfl Tryz.underlying134 info85 rfl (by decide) (by omega) u5 x5_1 qz [.int .u32 qz] (fun _=>True) (fun _=>False) rfl rfl ?aP (fun _ hk=>hk.elim) ?aF ?aO ?aB ?aS ?aL ?_;(case aP=>exact rfl);(case aB=>exact pB);(case aF=>exact (fun _ _=>trivial));(case aO=>exact (Kd.Za HO_5.o pl));(case aS=>exact (Zd pB));(case aL=>have := LMc37.o;omega);intro qaj w38 ho hb hg hat;rw [<- jw.out] at ho;have jq:=am ho;replace HB:=am hb;clear HO_5 ho hb hg hat))
           go_roundg k1
           case measure=>have := HK1.out;omega
           case rel=>exact ⟨(j5),(jj),(wrap64 (x25_1+1)),pR,pR,(by first|exact H'|(have H_:=H'.out;simp only [<- hji24] at H_;exact ⟨H_⟩)|(refine ⟨?_⟩;have H_:=H'.out;simp only [<- hji24] at H_ ⊢;exact H_)),⟨by have := HK1.out;omega⟩,⟨by refine rp ?_;exact jq.o⟩,⟨pB⟩⟩
          ·rw [if_neg c37] at H
           exact absurd H (by simp)
        ·rw [if_neg c31] at H
         exact absurd H (by simp)
       ·rw [if_neg c30] at H
        exact absurd H (by simp)
      ·rw [if_neg c29] at H
       have c29b0:decide (x25_1 < (l0.length:Int))=false:=decide_eq_false c29
       clear c29
       by_cases c39:x5_1.length < 35184372088832
       ·rw [if_pos c39] at H
        have LMc39:=am c39
        clear c39
        obtain ⟨qv,qr⟩:∃ y_:List Int,y_=(x5_1 ++ [x6_1]):=⟨_,rfl⟩
        replace H:((Zv.f k1 qv).bind fun qt=>(some qt))=some r:=by have hy_:=qr;exact pH
        have jx:=am qr
        clear qr
        obtain ⟨qt,A40,H⟩:=ob H
        obtain rfl:=Option.some.inj H
        go_wp2_with (first|((with_reducible refine Zam (b:=.append) (xs:=#[.tmp 51,.tmp 53]) rfl ?_);at_builtin;refine Kd.Zb1 (Kd.int .u32) (w0:=w) w.heap.size rfl (.tmp 51) (.tmp 53) 134 85 (.int .u32 0) 4 rfl Tryz.underlying134 info85 rfl (by decide) (by omega) u5 x5_1 x6_1 [.int .u32 x6_1] (fun _=>True) (fun _=>False) rfl rfl ?aP (fun _ hk=>hk.elim) ?aF ?aO ?aB ?aS ?aL ?_;(case aP=>exact rfl);(case aB=>exact pB);(case aF=>exact (fun _ _=>trivial));(case aO=>exact (Kd.Za HO_5.o pl));(case aS=>exact (Zd pB));(case aL=>have := LMc39.o;omega);intro qak w41 ho hb hg hat;rw [<- jx.out] at ho;have qj:=am ho;replace HB:=am hb;clear HO_5 ho hb hg hat;obtain ⟨q7,q9,j9⟩:=Kd.Zj qj.o;subst j9)|(refine gL (some 55) Tryz.func132 #[.slice q7 qv.length q9] (h:=?_);(with_reducible refine (Zv.calls k1 (fun k_=>some k_=(.slice q7 qv.length q9:Value).ownBlock) (.slice q7 qv.length q9) qv qt w _ ?side1 ?side2 A40.o).mono ?_);(case side1=>exact pB);(case side2=>exact Kd.Zbj rfl qj.o);rintro e w43 ⟨qal,rfl,ho0,hb,hkp⟩;refine ⟨_,rfl,?_⟩;have jr:=am (Kd.Zh (ok':=fun k_=>True) ho0 (fun k_ hk_=>trivial));replace HB:=am hb;clear qj))
        go_ret
        exact ⟨_,by first|rfl|(simp [Zak,Zal] <;> rfl)|(simp only [<- hji24];first|rfl|(simp [Zak,Zal] <;> rfl))|(simp [*,Zak,Zal] <;> rfl),by refine rp ?_;exact jr.o,pB⟩
       ·rw [if_neg c39] at H
        exact absurd H (by simp)
   ·rw [if_neg c26] at H
    exact absurd H (by simp)
  ·rw [if_neg c25] at H
   exact absurd H (by simp)
end YtjbjkmccfocikaaGreatDoor.B
end
section
namespace YtjbjkmccfocikaaGreatDoor.P
open Go.RowKit YtjbjkmccfocikaaGreatDoor.B YtjbjkmccfocikaaGreatDoorW.PrintWords YtjbjkmccfocikaaGreatDoorW.PrintLast YtjbjkmccfocikaaGreatDoorW.PrintMore YtjbjkmccfocikaaGreatDoor.P.Nm
theorem Zek (n:Nat):(limbs n).length<=nd n:=by
 refine Zgu (b:=4294967296) (by omega) ?_
 rw [Zfi]
 have h1:=Zj0 n
 have h2:10 ^ nd n<=4294967296 ^ nd n:=Nat.pow_le_pow_left (by decide) _
 exact_mod_cast (Nat.lt_of_lt_of_le h1 h2)
theorem Zog {n:Nat} (h:limbs n=[]):n=0:=Zk3 (b:=4294967296) (by omega) h
theorem Zeq {n:Nat} (h:n ≠ 0):limbs n ≠ []:=fun e=>h (Zog e)
theorem Zep {n k:Nat} (h:n < 4294967296 ^ k):(limbs n).length<=k :=
 Zgu (b:=4294967296) (by omega) (by rw [Zfi];exact_mod_cast h)
theorem Zl7 (n:Nat):n < 4294967296 ^ (limbs n).length:=Zgv (b:=4294967296) (by omega) n
theorem pwL (k:Nat):pw 4294967296 k=((4294967296 ^ k:Nat):Int):=Zfi 4294967296 k
theorem Zff {n:Nat} (h:nd n<=1000000):okW (limbs n)=true:=Zee.2 ⟨Nat.le_trans (Zek n) h,Zc7 n,Zi7 n⟩
theorem dgL {l:List Int} (h:Dg 4294967296 l) (i:Nat):∃ x:Nat,l.getD i 0=(x:Int)/\x < 4294967296:=by
 have := Zi2 (by omega) h i
 exact ⟨(l.getD i 0).toNat,by omega,by omega⟩
theorem u64n {m:Nat} (h:m < 18446744073709551616):IntKind.u64.wrap (m:Int)=(m:Int):=by simp [IntKind.wrap,IntKind.bits,IntKind.signed];omega
theorem u64p {a b:Nat} (h:a+b < 18446744073709551616):IntKind.u64.wrap ((a:Int)+(b:Int))=((a+b:Nat):Int):=by rw [<- Int.natCast_add,u64n h]
theorem u64k {a b c:Nat} (hc:a*b=c) (h:c < 18446744073709551616):IntKind.u64.wrap ((a:Int)*(b:Int))=(c:Int):=by rw [<- Int.natCast_mul,hc,u64n h]
theorem ediv32 (m:Nat):(m:Int) / 4294967296=((m / 4294967296:Nat):Int):=by omega
theorem emod32 (m:Nat):(m:Int) % 4294967296=((m % 4294967296:Nat):Int):=by omega
theorem Zh5:∀ (n:Nat) (l:List Int),l.length=n->n<=4611686018427387904->Tells (fun k=>Zv.l0 k l) (trimL l)
 | 0,l,hn,_=>by
  obtain rfl:=List.eq_nil_of_length_eq_zero hn
  refine Tells.succ ?_
  exact Tells.pure _
 | n+1,l,hn,hb=>by
  obtain ⟨l',x,rfl⟩:=Ze9 (l:=l) (by intro e;subst e;simp at hn)
  have hl':l'.length=n:=by simpa using hn
  have ih:=Zh5 n l' hl' (by omega)
  have hlen:((l' ++ [x]).length:Int) - 1=(l'.length:Int):=by rw [hn,hl'];omega
  have c1:((l' ++ [x]).length:Int) > 0:=by rw [hn];omega
  have c2:(0:Int)<=(l'.length:Int):=by omega
  have c3:(l'.length:Int) < ((l' ++ [x]).length:Int):=by rw [hn];omega
  have hrd:(l' ++ [x]).getD l'.length 0=x:=by rw [List.getD,List.getElem?_append_right (Nat.le_refl _),Nat.sub_self];rfl
  refine Tells.succ ?_
  simp only [Zv.l0]
  rw [hlen,w64c (by omega),rd_n,hrd,Int.toNat_natCast,List.take_left]
  refine Tells.ifp c1 (Tells.ifp c2 (Tells.ifp c3 ?_))
  by_cases hx:x=0
  ·refine Tells.ifp hx (Tells.ifp (Int.le_of_lt c3) ?_)
   rw [hx,Zej];exact ih
  ·refine Tells.ifn hx (Tells.ifn (by omega) ?_)
   rw [Ze4 _ hx];exact Tells.pure _
theorem Zm8 (l:List Int) (h:l.length<=4611686018427387904):Tells (fun k=>Zv.f k l) (trimL l):=Zh5 _ l rfl h
theorem Zdt {l:List Int} {n:Nat} (hd:Dg 4294967296 l) (hv:val 4294967296 l=n) (h:l.length<=4611686018427387904):Tells (fun k=>Zv.f k l) (limbs n):=(Zm8 l h).val (Zin hd hv)
theorem Add32 (x y c:Nat) (hx:x < 4294967296) (hy:y < 4294967296) (hc:c<=1):Zcg.f (x:Int) (y:Int) (c:Int)=some ((((x+y+c) % 4294967296:Nat):Int),(((x+y+c) / 4294967296:Nat):Int)):=by
 unfold Zcg.f
 rw [u64n (by omega),u64n (by omega),u64n (m:=c) (by omega),u64p (by omega),u64p (by omega)]
 congr 2
 omega
structure AddAt (a b:List Int) (i c:Nat) (o:List Int):Prop where
 len:o.length=i
 dg:Dg 4294967296 o
 c1:c<=1
 law:val 4294967296 o+pw 4294967296 i*c=val 4294967296 (a.take i)+val 4294967296 (b.take i)
theorem AddAt.start (a b:List Int):AddAt a b 0 0 []:=⟨rfl,Dg.nil _,by omega,by simp [val]⟩
theorem AddAt.step {a b:List Int} {i c:Nat} {o:List Int} (h:AddAt a b i c o) {x y:Nat} (hx:a.getD i 0=x) (hy:b.getD i 0=y) (hx1:x < 4294967296) (hy1:y < 4294967296) :
  AddAt a b (i+1) ((x+y+c) / 4294967296) (o ++ [(((x+y+c) % 4294967296:Nat):Int)]):=by
 have hc:=h.c1
 refine ⟨by simp [h.len],h.dg.app (Dg.one (by omega) (by omega)),by omega,?_⟩
 rw [Zck,Zck,Zdm,h.len,Zd8,hx,hy]
 have hl:=h.law
 generalize pw 4294967296 i=M at *
 have e:M*(((x+y+c) % 4294967296:Nat):Int)+4294967296*M*(((x+y+c) / 4294967296:Nat):Int)=M*x+M*y+M*c:=by
  rw [Int.mul_comm 4294967296 M,Int.mul_assoc,<- Int.mul_add,<- Int.mul_add,<- Int.mul_add]
  congr 1;omega
 omega
theorem AddAt.done {a b:List Int} {c:Nat} {o:List Int} (h:AddAt a b a.length c o) (ha:Dg 4294967296 a) (hb:Dg 4294967296 b) (hl:b.length<=a.length) (hz:a.length<=1000000):Tells (fun k=>Zv.f k (o ++ [(c:Int)])) (limbs (num a+num b)):=by
 have hc:=h.c1
 have hlen:=h.len
 refine Zdt (h.dg.app (Dg.one (by omega) (by omega))) ?_ (by simp;omega)
 have hlaw:=h.law
 rw [List.take_length,List.take_of_length_le hl] at hlaw
 rw [Zdm,h.len,hlaw,<- Zdj ha,<- Zdj hb]
 omega
theorem Zqp {a b:List Int} (ha:Dg 4294967296 a) (hb:Dg 4294967296 b) (la:a.length<=1000000) (lb:b.length<=a.length):∀ (d i c:Nat) (o:List Int),a.length - i=d->i<=a.length->AddAt a b i c o ->
  Tells (fun k=>Zac.l0 k b o (c:Int) a (a.length:Int) (i:Int)) (limbs (num a+num b))
 | 0,i,c,o,hd,hi,h=>by
  obtain rfl:i=a.length:=by omega
  have hlen:=h.len
  have c3:o.length < 35184372088832:=by omega
  refine Tells.succ ?_
  simp only [Zac.l0]
  exact Tells.ifn (Int.lt_irrefl _) (Tells.ifp c3 ((h.done ha hb lb la).bind (Tells.pure _)))
 | d+1,i,c,o,hd,hi,h=>by
  obtain ⟨x,hx,hx1⟩:=dgL ha i
  obtain ⟨y,hy,hy1⟩:=dgL hb i
  have ih:=Zqp ha hb la lb d (i+1) _ _ (by omega) (by omega) (h.step hx hy hx1 hy1)
  have hlen:=h.len
  have c1:(i:Int) < (a.length:Int):=by omega
  have c2:(0:Int)<=(i:Int):=by omega
  have c3:o.length < 35184372088832:=by omega
  refine Tells.succ ?_
  simp only [Zac.l0]
  rw [rd_n,rd_n,hx,hy,w64s (by omega),Add32 x y c hx1 hy1 h.c1]
  refine Tells.ifp c1 (Tells.ifp c2 (Tells.ifp c1 ?_))
  by_cases hb2:i < b.length
  ·exact Tells.ifp (by omega) ((Tells.pure _).bind (Tells.ifp c3 ih))
  ·have e3:y=0:=by have := Ze5 (l:=b) (i:=i) (by omega);omega
   rw [e3] at ih
   have e4:=Add32 x 0 c hx1 (by omega) h.c1
   refine Tells.ifn (by omega) ?_
   rw [show (0:Int)=((0:Nat):Int) from rfl,e4]
   exact (Tells.pure _).bind (Tells.ifp c3 ih)
theorem Zqq {a b:List Int} (ha:Dg 4294967296 a) (hb:Dg 4294967296 b) (la:a.length<=1000000) (lb:b.length<=a.length):∀ (d i c:Nat) (o:List Int),a.length - i=d->i<=a.length->AddAt a b i c o ->
  Tells (fun k=>Zac.l2 k b o (c:Int) a (a.length:Int) (i:Int)) (limbs (num a+num b))
 | 0,i,c,o,hd,hi,h=>by
  obtain rfl:i=a.length:=by omega
  have hlen:=h.len
  have c3:o.length < 35184372088832:=by omega
  refine Tells.succ ?_
  simp only [Zac.l2]
  exact Tells.ifn (Int.lt_irrefl _) (Tells.ifp c3 ((h.done ha hb lb la).bind (Tells.pure _)))
 | d+1,i,c,o,hd,hi,h=>by
  obtain ⟨x,hx,hx1⟩:=dgL ha i
  obtain ⟨y,hy,hy1⟩:=dgL hb i
  have ih:=Zqq ha hb la lb d (i+1) _ _ (by omega) (by omega) (h.step hx hy hx1 hy1)
  have hlen:=h.len
  have c1:(i:Int) < (a.length:Int):=by omega
  have c2:(0:Int)<=(i:Int):=by omega
  have c3:o.length < 35184372088832:=by omega
  refine Tells.succ ?_
  simp only [Zac.l2]
  rw [rd_n,rd_n,hx,hy,w64s (by omega),Add32 x y c hx1 hy1 h.c1]
  refine Tells.ifp c1 (Tells.ifp c2 (Tells.ifp c1 ?_))
  by_cases hb2:i < b.length
  ·exact Tells.ifp (by omega) ((Tells.pure _).bind (Tells.ifp c3 ih))
  ·have e3:y=0:=by have := Ze5 (l:=b) (i:=i) (by omega);omega
   rw [e3] at ih
   have e4:=Add32 x 0 c hx1 (by omega) h.c1
   refine Tells.ifn (by omega) ?_
   rw [show (0:Int)=((0:Nat):Int) from rfl,e4]
   exact (Tells.pure _).bind (Tells.ifp c3 ih)
theorem Znx {a b:List Int} (ha:Dg 4294967296 a) (hb:Dg 4294967296 b) (la:a.length<=1000000) (lb:b.length<=1000000):Tells (fun k=>Zac.f k a b) (limbs (num a+num b)):=by
 unfold Zac.f
 by_cases h:a.length < b.length
 ·have h1:=Zqp hb ha lb (by omega) b.length 0 0 [] (by omega) (by omega) (AddAt.start b a)
  rw [Nat.add_comm] at h1
  refine Tells.ifp (by omega) ?_
  rw [w64s (by omega)]
  exact Tells.ifp (by omega) (Tells.ifp (by omega) h1)
 ·have h1:=Zqq ha hb la (by omega) a.length 0 0 [] (by omega) (by omega) (AddAt.start a b)
  refine Tells.ifn (by omega) ?_
  rw [w64s (by omega)]
  exact Tells.ifp (by omega) (Tells.ifp (by omega) h1)
theorem Zm2 {a b:List Int} (ha:Dg 4294967296 a) (hb:Dg 4294967296 b) (hn:Nz b) (h:num b<=num a):b.length<=a.length:=by
 refine Nat.not_lt.1 (fun hlt=>?_)
 have := Zel (b:=4294967296) (by omega) ha hb hn hlt
 rw [<- Zdj ha,<- Zdj hb] at this
 omega
structure MulAt (a b:List Int) (i k c:Nat) (ds:List Int):Prop where
 len:ds.length=a.length+b.length
 dg:Dg 4294967296 ds
 c1:c < 4294967296
 hi:∀ j,i+b.length<=j->ds.getD j 0=0
 law:val 4294967296 ds+pw 4294967296 (i+k)*c=val 4294967296 (a.take i)*val 4294967296 b+pw 4294967296 i*(a.getD i 0*val 4294967296 (b.take k))
theorem MulAt.start (a b:List Int):MulAt a b 0 0 0 (List.replicate (a.length+b.length) 0) :=
 ⟨by simp,Dg.zeros (by omega) _,by omega,fun j _=>by simp [List.getD,List.getElem?_replicate];split <;> rfl,by simp [val,Zgi]⟩
theorem Zg2 {b:Int} {l:List Int} (h:Dg b l) (j:Nat) {x:Int} (h0:0<=x) (h1:x < b):Dg b (l.set j x):=fun y hy=>by
 rcases List.mem_or_eq_of_mem_set hy with hy|rfl
 ·exact h y hy
 ·exact ⟨h0,h1⟩
theorem Zoz {x y u c:Nat} (hx:x < 4294967296) (hy:y < 4294967296) (hu:u < 4294967296) (hc:c < 4294967296):x*y+u+c < 18446744073709551616:=by
 have := Nat.mul_le_mul (show x<=4294967295 by omega) (show y<=4294967295 by omega)
 omega
theorem MulAt.step {a b ds:List Int} {i k c:Nat} (h:MulAt a b i k c ds) {x y u:Nat} (hx:a.getD i 0=x) (hy:b.getD k 0=y) (hu:ds.getD (i+k) 0=u) (hx1:x < 4294967296) (hy1:y < 4294967296) (hu1:u < 4294967296) (hi:i < a.length) (hk:k < b.length) :
  MulAt a b i (k+1) ((x*y+u+c) / 4294967296) (ds.set (i+k) (((x*y+u+c) % 4294967296:Nat):Int)):=by
 have hs:=Zoz hx1 hy1 hu1 h.c1
 have hlt:i+k < ds.length:=by rw [h.len];omega
 refine ⟨by rw [List.length_set];exact h.len,Zg2 h.dg _ (by omega) (by omega),by omega,fun j hj=>?_,?_⟩
 ·rw [getD_set_ne _ (by omega)];exact h.hi j hj
 ·rw [Zew _ hlt,Zck,<- Nat.add_assoc,Zd8,hu,hy]
  have hl:=h.law
  rw [Int.mul_add (a.getD i 0),Int.mul_add (pw 4294967296 i),<- Int.add_assoc,<- hl,Zge,hx]
  have e1:pw 4294967296 i*((x:Int)*(pw 4294967296 k*(y:Int)))=pw 4294967296 i*pw 4294967296 k*((x:Int)*y):=by
   rw [Int.mul_left_comm (x:Int),Int.mul_assoc]
  rw [e1]
  generalize pw 4294967296 i*pw 4294967296 k=M
  obtain ⟨p,hp⟩:∃ p,x*y=p:=⟨_,rfl⟩
  have hp':(x:Int)*(y:Int)=(p:Int):=by rw [<- hp];exact (Int.natCast_mul x y).symm
  rw [hp,hp']
  have e2:M*((((p+u+c) % 4294967296:Nat):Int) - u)+4294967296*M*(((p+u+c) / 4294967296:Nat):Int)=M*c+M*p:=by
   rw [Int.mul_comm 4294967296 M,Int.mul_assoc,<- Int.mul_add,<- Int.mul_add]
   congr 1;omega
  omega
theorem MulAt.next {a b ds:List Int} {i c:Nat} (h:MulAt a b i b.length c ds) (hi:i < a.length):MulAt a b (i+1) 0 0 (ds.set (i+b.length) (c:Int)):=by
 have hc:=h.c1
 have hlt:i+b.length < ds.length:=by rw [h.len];omega
 refine ⟨by rw [List.length_set];exact h.len,Zg2 h.dg _ (by omega) (by omega),by omega,fun j hj=>?_,?_⟩
 ·rw [getD_set_ne _ (by omega)];exact h.hi j (by omega)
 ·have hl:=h.law
  rw [List.take_length] at hl
  rw [Zew _ hlt,h.hi _ (Nat.le_refl _),Zck,Int.add_mul,Int.mul_assoc]
  have e0:((0:Nat):Int)=0:=rfl
  simp only [e0,Int.sub_zero,List.take_zero,Zfa,Int.mul_zero,Int.add_zero]
  exact hl
theorem Zqv {a b:List Int} {i:Nat} {V:List Int} (ha:Dg 4294967296 a) (hb:Dg 4294967296 b) (la:a.length<=1000000) (lb:b.length<=1000000) (hi:i < a.length)
  (hcont:∀ ds,MulAt a b (i+1) 0 0 ds->Tells (fun k=>Zad.l0 k b ds a (a.length:Int) ((i+1:Nat):Int)) V) :
  ∀ (e kk c:Nat) (ds:List Int),b.length - kk=e->kk<=b.length->MulAt a b i kk c ds->Tells (fun kf=>Zad.l1 kf b ds (i:Int) (a.getD i 0) (c:Int) a (a.length:Int) (i:Int) b (b.length:Int) (kk:Int)) V
 | 0,kk,c,ds,he,hkk,h=>by
  obtain rfl:kk=b.length:=by omega
  have hc:=h.c1
  have hlen:=h.len
  have c1:((i+b.length:Nat):Int) < (ds.length:Int):=by omega
  have c0:(0:Int)<=((i+b.length:Nat):Int):=by omega
  have e3:(c:Int) % 4294967296=(c:Int):=by omega
  refine Tells.succ ?_
  simp only [Zad.l1]
  rw [w64p (by omega),w64s (i:=i) (by omega),e3,Int.toNat_natCast]
  exact Tells.ifn (Int.lt_irrefl _) (Tells.ifp c0 (Tells.ifp c1 (hcont _ (h.next hi))))
 | e+1,kk,c,ds,he,hkk,h=>by
  have hkl:kk < b.length:=by omega
  obtain ⟨x,hx,hx1⟩:=dgL ha i
  obtain ⟨y,hy,hy1⟩:=dgL hb kk
  obtain ⟨u,hu,hu1⟩:=dgL h.dg (i+kk)
  have hs:=Zoz hx1 hy1 hu1 h.c1
  have hc:=h.c1
  have hlen:=h.len
  have ih:=Zqv ha hb la lb hi hcont e (kk+1) _ _ (by omega) (by omega) (h.step hx hy hu hx1 hy1 hu1 hi hkl)
  rw [hx] at ih ⊢
  obtain ⟨p,hp⟩:∃ p,x*y=p:=⟨_,rfl⟩
  rw [hp] at hs ih
  have c0:(kk:Int) < (b.length:Int):=by omega
  have c1:(0:Int)<=(kk:Int):=by omega
  have c2:(0:Int)<=((i+kk:Nat):Int):=by omega
  have c3:((i+kk:Nat):Int) < (ds.length:Int):=by omega
  refine Tells.succ ?_
  simp only [Zad.l1]
  rw [w64p (by omega),w64s (by omega),Int.toNat_natCast,rd_n,rd_n,hy,hu,u64n (m:=x) (by omega),u64n (m:=y) (by omega),u64n (m:=u) (by omega),u64k hp (by omega),u64p (by omega),u64p (by omega),emod32,ediv32]
  exact Tells.ifp c0 (Tells.ifp c1 (Tells.ifp c0 (Tells.ifp c2 (Tells.ifp c3 ih))))
theorem Zqu {a b:List Int} (ha:Dg 4294967296 a) (hb:Dg 4294967296 b) (la:a.length<=1000000) (lb:b.length<=1000000) :
  ∀ (d i:Nat) (ds:List Int),a.length - i=d->i<=a.length->MulAt a b i 0 0 ds->Tells (fun k=>Zad.l0 k b ds a (a.length:Int) (i:Int)) (limbs (num a*num b))
 | 0,i,ds,hd,hi,h=>by
  obtain rfl:i=a.length:=by omega
  have hlen:=h.len
  have hl:=h.law
  rw [List.take_length] at hl
  simp only [List.take_zero,Zfa,Int.mul_zero,Int.add_zero] at hl
  have hT:=Zdt (n:=num a*num b) h.dg (by
   rw [Int.natCast_mul,Zdj ha,Zdj hb,<- hl];simp) (by omega)
  refine Tells.succ ?_
  simp only [Zad.l0]
  exact Tells.ifn (Int.lt_irrefl _) (hT.bind (Tells.pure _))
 | d+1,i,ds,hd,hi,h=>by
  have hil:i < a.length:=by omega
  have c0:(i:Int) < (a.length:Int):=by omega
  have c1:(0:Int)<=(i:Int):=by omega
  have hh:=Zqv ha hb la lb hil (fun ds' h2=>Zqu ha hb la lb d (i+1) ds' (by omega) (by omega) h2) b.length 0 0 ds (by omega) (by omega) h
  refine Tells.succ ?_
  simp only [Zad.l0]
  rw [rd_n]
  exact Tells.ifp c0 (Tells.ifp c1 (Tells.ifp c0 hh))
theorem Zoj {a b:List Int} (ha:Dg 4294967296 a) (hb:Dg 4294967296 b) (la:a.length<=1000000) (lb:b.length<=1000000):Tells (fun k=>Zad.f k a b) (limbs (num a*num b)):=by
 have h:=Zqu ha hb la lb a.length 0 _ (by omega) (by omega) (MulAt.start a b)
 unfold Zad.f
 rw [w64p (by omega),Int.toNat_natCast]
 exact Tells.ifp (by omega) (Tells.ifp (by omega) h)
end YtjbjkmccfocikaaGreatDoor.P
end
section
namespace YtjbjkmccfocikaaGreatDoor.B
open Go.RowKit YtjbjkmccfocikaaGreatDoorW.PrintWords YtjbjkmccfocikaaGreatDoorW.PrintLast YtjbjkmccfocikaaGreatDoorW.PrintMore
attribute [local go_sem] Zb7 Zb9 Zcr Zcs Zbp Zbq Zb8 Zca
def Za7.l0:Nat->Int->List Int->Int->List Int->Int->Int->Option (List Int)
 | 0,_,_,_,_,_,_=>none
 | k+1,x1,x5,x6,x13,x14,x15=>if x15 < x14 then (if 0<=x15 then (if x15 < (x13.length:Int) then (if 0<=x1 then (if x5.length < 35184372088832 then (if 0<=(wrap64 (32 - x1)) then (Za7.l0 k x1 (x5 ++ [Go.bits .or .u32 (shl .u32 (rd x13 x15) x1) x6]) ((shr .u64 (IntKind.u64.wrap (rd x13 x15)) (wrap64 (32 - x1))) % 4294967296) x13 x14 (wrap64 (x15+1))) else (none)) else (none)) else (none)) else (none)) else (none)) else (if x5.length < 35184372088832 then (some (x5 ++ [x6])) else (none))
def Za7.f (k:Nat) (l0:List Int) (a1:Int):Option (List Int):=if 0<=(wrap64 ((l0.length:Int)+1)) then (if (wrap64 ((l0.length:Int)+1):Int).toNat<=70368744177664 then (Za7.l0 k a1 (List.replicate 0 0) 0 l0 (l0.length:Int) 0) else (none)) else (none)
theorem Za7.calls (k:Nat) (A0:Option Addr) (c0:Nat) (l0:List Int) (a1:Int) (r:List Int) (w:World) (hr0:Kd.C (Kd.int .u32) w A0 l0.length l0) (hc0:l0.length<=c0) (h:Za7.f k l0 a1=some r) :
  Calls Tryz.prog 157 #[.slice A0 l0.length c0,.int .i64 a1] w fun e w' => ∃ v0_:Value,e=.returned (v0_)/\Kd.R (Kd.int .u32) 85 w' w.heap.size (fun _=>True) v0_ r/\Below w.heap.size w w':=by
 have HR0:=am hr0
 have HC0:=am hc0
 clear hr0 hc0
 have HB:=am (Below.refl w.heap.size w)
 have H:(if 0<=(wrap64 ((l0.length:Int)+1)) then (if (wrap64 ((l0.length:Int)+1):Int).toNat<=70368744177664 then (Za7.l0 k a1 (List.replicate 0 0) 0 l0 (l0.length:Int) 0) else (none)) else (none))=some r:=h
 clear h
 obtain ⟨ji3,hji3⟩:∃ j_:Int,(wrap64 ((l0.length:Int)+1))=j_:=⟨_,rfl⟩
 replace H:(if 0<=(ji3) then (if (ji3:Int).toNat<=70368744177664 then (Za7.l0 k a1 (List.replicate 0 0) 0 l0 (l0.length:Int) 0) else (none)) else (none))=some r:=by first|(rw [hji3] at H;exact H)|(simp only [hji3] at H ⊢;exact H)
 have hji3w:(IntKind.i64.wrap ((l0.length:Int)+1))=ji3:=(Zcd _).trans hji3
 by_cases c4:0<=(ji3)
 ·rw [if_pos c4] at H
  have c4b0:=eq_true c4
  have c4b1:decide (0<=(ji3))=true:=decide_eq_true c4
  clear c4
  by_cases c5:(ji3:Int).toNat<=70368744177664
  ·rw [if_pos c5] at H
   have c5b0:=eq_true c5
   have c5b1:decide ((ji3:Int).toNat<=70368744177664)=true:=decide_eq_true c5
   clear c5
   obtain ⟨qn,qb⟩:∃ y_:List Int,y_=(List.replicate 0 0):=⟨_,rfl⟩
   replace H:(Za7.l0 k a1 qn 0 l0 (l0.length:Int) 0)=some r:=by have hy_:=qb;exact pH
   have qf:=am qb
   clear qb
   have H':=am H
   clear H
   go_enter Tryz.func157,Tryz.ntmps157
   go_wp2_with (first|((with_reducible refine gd 12 ?_);refine Zhj (Kd.int .u32) _ 85 rfl (N:=12) rfl 134 _ _ rfl ji3 rfl rfl Tryz.underlying134 (.int .u32 0) 4 info85 (by omega) 0 (ok:=fun _=>True) (okp:=fun _=>True) (fun _ hk=>hk) trivial (of_decide_eq_true pQ) (Nat.le_trans (Nat.mul_le_mul_right _ (of_decide_eq_true pQ:(ji3:Int).toNat<=70368744177664)) (by omega)) (Below.refl _ _) (Nat.le_refl _) ?_;intro qr w6 ho7 hb hg_ hnew_;clear hg_ hnew_;(first|rw [<- qf.out] at ho7|(simp only [Int.reduceToNat] at ho7;rw [<- qf.out] at ho7));have qi:=am (Kd.Zo ho7 (Zd pB));replace HB:=bS hb;clear hb ho7))
   go_loopg [5,6,15] k (fun kq v5 v6 v15 w' => ∃ (x5_1:List Int) (x6_1:Int) (x15_1:Int),v6=.int .u32 x6_1/\v15=.int .i64 x15_1/\Aside0 (Za7.l0 kq a1 x5_1 x6_1 l0 (l0.length:Int) x15_1=some r)/\Aside0 (kq<=k)/\Aside0 (Kd.R (Kd.int .u32) 85 w' w.heap.size (fun _=>True) v5 x5_1)/\Aside0 (Below w.heap.size w w'))
   case atStart=>exact ⟨(qn),(0),(0),pR,pR,H',⟨Nat.le_refl _⟩,⟨by refine rp ?_;exact qi.o⟩,⟨pB⟩⟩
   case round =>
    clear H'
    obtain ⟨x5_1,x6_1,x15_1,rfl,rfl,HA,HK1,HO_5,HB⟩:=hrel
    cases gk with
    | zero=>exact absurd HA.out (by simp [Za7.l0])
    | succ k1 =>
     have H:=HA.out
     clear HA
     simp only [Za7.l0] at H
     by_cases c8:x15_1 < (l0.length:Int)
     ·rw [if_pos c8] at H
      have c8b0:decide (x15_1 < (l0.length:Int))=true:=decide_eq_true c8
      clear c8
      by_cases c9:0<=x15_1
      ·rw [if_pos c9] at H
       have c9b0:decide (0<=x15_1)=true:=decide_eq_true c9
       clear c9
       by_cases c10:x15_1 < (l0.length:Int)
       ·rw [if_pos c10] at H
        have c10b0:decide (x15_1 < (l0.length:Int))=true:=decide_eq_true c10
        clear c10
        by_cases c11:0<=a1
        ·rw [if_pos c11] at H
         have c11b0:=eq_true c11
         have c11b1:decide (0<=a1)=true:=decide_eq_true c11
         clear c11
         obtain ⟨ji12,hji12⟩:∃ j_:Int,(shl .u32 (rd l0 x15_1) a1)=j_:=⟨_,rfl⟩
         replace H:(if x5_1.length < 35184372088832 then (if 0<=(wrap64 (32 - a1)) then (Za7.l0 k1 a1 (x5_1 ++ [Go.bits .or .u32 (ji12) x6_1]) ((shr .u64 (IntKind.u64.wrap (rd l0 x15_1)) (wrap64 (32 - a1))) % 4294967296) l0 (l0.length:Int) (wrap64 (x15_1+1))) else (none)) else (none))=some r:=by first|(rw [hji12] at H;exact H)|(simp only [hji12] at H ⊢;exact H)
         have hji12_:(IntKind.u32.wrap ((rd l0 x15_1)*2 ^ min a1.toNat 32))=ji12:=hji12
         have hji12z:a1<=32->(IntKind.u32.wrap ((rd l0 x15_1)*2 ^ a1.toNat))=ji12:=Zkg hji12
         by_cases c13:x5_1.length < 35184372088832
         ·rw [if_pos c13] at H
          have LMc13:=am c13
          clear c13
          obtain ⟨qe,qc⟩:∃ y_:List Int,y_=(x5_1 ++ [Go.bits .or .u32 (ji12) x6_1]):=⟨_,rfl⟩
          replace H:(if 0<=(wrap64 (32 - a1)) then (Za7.l0 k1 a1 qe ((shr .u64 (IntKind.u64.wrap (rd l0 x15_1)) (wrap64 (32 - a1))) % 4294967296) l0 (l0.length:Int) (wrap64 (x15_1+1))) else (none))=some r:=by have hy_:=qc;exact pH
          have ql:=am qc
          clear qc
          obtain ⟨ji14,hji14⟩:∃ j_:Int,(wrap64 (32 - a1))=j_:=⟨_,rfl⟩
          replace H:(if 0<=(ji14) then (Za7.l0 k1 a1 qe ((shr .u64 (IntKind.u64.wrap (rd l0 x15_1)) (ji14)) % 4294967296) l0 (l0.length:Int) (wrap64 (x15_1+1))) else (none))=some r:=by first|(rw [hji14] at H;exact H)|(simp only [hji14] at H ⊢;exact H)
          have hji14w:(IntKind.i64.wrap (32 - a1))=ji14:=(Zcd _).trans hji14
          by_cases c15:0<=(ji14)
          ·rw [if_pos c15] at H
           have c15b0:=eq_true c15
           have c15b1:decide (0<=(ji14))=true:=decide_eq_true c15
           clear c15
           obtain ⟨ji16,hji16⟩:∃ j_:Int,(shr .u64 (IntKind.u64.wrap (rd l0 x15_1)) (ji14))=j_:=⟨_,rfl⟩
           replace H:(Za7.l0 k1 a1 qe ((ji16) % 4294967296) l0 (l0.length:Int) (wrap64 (x15_1+1)))=some r:=by first|(rw [hji16] at H;exact H)|(simp only [hji16] at H ⊢;exact H)
           have hji16_:((IntKind.u64.wrap (rd l0 x15_1)) / 2 ^ min (ji14).toNat 64)=ji16:=hji16
           have hji16z:(ji14)<=64->((IntKind.u64.wrap (rd l0 x15_1)) / 2 ^ (ji14).toNat)=ji16:=Zkh hji16
           have H':=am H
           clear H
           have qg:0<=(x15_1:Int):=of_decide_eq_true pQ
           have qh:x15_1 < (l0.length:Int):=of_decide_eq_true pQ
           obtain ⟨qq,qo,qa⟩:=Kd.Za5 HR0.o x15_1 qg qh
           cases qo
           replace qa:=(HB.o.cell (World.block_lt_of_cell? w _ qa)).trans qa
           replace qg:=eq_true qg
           replace qh:=eq_true qh
           go_wp2_with (first|((with_reducible refine Zam (b:=.append) (xs:=#[.tmp 19,.tmp 25]) rfl ?_);at_builtin;refine Kd.Zb1 (Kd.int .u32) (w0:=w) w.heap.size rfl (.tmp 19) (.tmp 25) 134 85 (.int .u32 0) 4 rfl Tryz.underlying134 info85 rfl (by decide) (by omega) u5 x5_1 (Go.bits .or .u32 (ji12) x6_1) [.int .u32 (Go.bits .or .u32 (ji12) x6_1)] (fun _=>True) (fun _=>False) rfl rfl ?aP (fun _ hk=>hk.elim) ?aF ?aO ?aB ?aS ?aL ?_;(case aP=>exact rfl);(case aB=>exact pB);(case aF=>exact (fun _ _=>trivial));(case aO=>exact (Kd.Za HO_5.o pl));(case aS=>exact (Zd pB));(case aL=>have := LMc13.o;omega);intro qs w17 ho hb hg hat;rw [<- ql.out] at ho;have qj:=am ho;replace HB:=am hb;clear HO_5 ho hb hg hat))
           go_roundg k1
           case measure=>have := HK1.out;omega
           case rel=>exact ⟨(qe),((ji16) % 4294967296),(wrap64 (x15_1+1)),(by first|rfl|(simp;done)|(simp only [<- hji16] <;> (first|rfl|simp))|(simp [*];done)),pR,(by first|exact H'|(have H_:=H'.out;simp only [<- hji3] at H_;exact ⟨H_⟩)|(refine ⟨?_⟩;have H_:=H'.out;simp only [<- hji3] at H_ ⊢;exact H_)|(have H_:=H'.out;simp only [<- hji14] at H_;exact ⟨H_⟩)|(refine ⟨?_⟩;have H_:=H'.out;simp only [<- hji14] at H_ ⊢;exact H_)),⟨by have := HK1.out;omega⟩,⟨by refine rp ?_;exact qj.o⟩,⟨pB⟩⟩
          ·rw [if_neg c15] at H
           exact absurd H (by simp)
         ·rw [if_neg c13] at H
          exact absurd H (by simp)
        ·rw [if_neg c11] at H
         exact absurd H (by simp)
       ·rw [if_neg c10] at H
        exact absurd H (by simp)
      ·rw [if_neg c9] at H
       exact absurd H (by simp)
     ·rw [if_neg c8] at H
      have c8b0:decide (x15_1 < (l0.length:Int))=false:=decide_eq_false c8
      clear c8
      by_cases c18:x5_1.length < 35184372088832
      ·rw [if_pos c18] at H
       have LMc18:=am c18
       clear c18
       obtain ⟨qp,qd⟩:∃ y_:List Int,y_=(x5_1 ++ [x6_1]):=⟨_,rfl⟩
       replace H:(some qp)=some r:=by have hy_:=qd;exact pH
       have qm:=am qd
       clear qd
       obtain rfl:=Option.some.inj H
       go_wp2_with (first|((with_reducible refine Zam (b:=.append) (xs:=#[.tmp 34,.tmp 36]) rfl ?_);at_builtin;refine Kd.Zb1 (Kd.int .u32) (w0:=w) w.heap.size rfl (.tmp 34) (.tmp 36) 134 85 (.int .u32 0) 4 rfl Tryz.underlying134 info85 rfl (by decide) (by omega) u5 x5_1 x6_1 [.int .u32 x6_1] (fun _=>True) (fun _=>False) rfl rfl ?aP (fun _ hk=>hk.elim) ?aF ?aO ?aB ?aS ?aL ?_;(case aP=>exact rfl);(case aB=>exact pB);(case aF=>exact (fun _ _=>trivial));(case aO=>exact (Kd.Za HO_5.o pl));(case aS=>exact (Zd pB));(case aL=>have := LMc18.o;omega);intro qt w19 ho hb hg hat;rw [<- qm.out] at ho;have qk:=am ho;replace HB:=am hb;clear HO_5 ho hb hg hat))
       go_ret
       exact ⟨_,by first|rfl|(simp [Zak,Zal] <;> rfl)|(simp only [<- hji3];first|rfl|(simp [Zak,Zal] <;> rfl))|(simp [*,Zak,Zal] <;> rfl),by refine rp ?_;exact qk.o,pB⟩
      ·rw [if_neg c18] at H
       exact absurd H (by simp)
  ·rw [if_neg c5] at H
   exact absurd H (by simp)
 ·rw [if_neg c4] at H
  exact absurd H (by simp)
mutual
def Zbr.l0:Nat->Int->Int->Int->Int->Int->Option (Int)
 | 0,_,_,_,_,_=>none
 | k+1,x2,x3,x4,x12,x13=>if (x12 / 4294967296) > 0 then (Zbr.j1 k x2 x3 x4 x12 x13 true) else (Zbr.j1 k x2 x3 x4 x12 x13 (decide ((IntKind.u64.wrap (x12*(IntKind.u64.wrap (x4)))) > (Go.bits .or .u64 (IntKind.u64.wrap (x13*4294967296)) (IntKind.u64.wrap (x2))))))
def Zbr.j1:Nat->Int->Int->Int->Int->Int->Bool->Option (Int)
 | 0,_,_,_,_,_,_=>none
 | k+1,x2,x3,x4,x12,x13,x42=>if x42=true then (if ((IntKind.u64.wrap (x13+(IntKind.u64.wrap (x3)))) / 4294967296) > 0 then (some (IntKind.u64.wrap (x12 - 1))) else (Zbr.l0 k x2 x3 x4 (IntKind.u64.wrap (x12 - 1)) (IntKind.u64.wrap (x13+(IntKind.u64.wrap (x3)))))) else (some x12)
end
def Zbr.f (k:Nat) (a0:Int) (a1:Int) (a2:Int) (a3:Int) (a4:Int):Option (Int):=if (IntKind.u64.wrap (a3))=0 then (none) else (Zbr.l0 k a2 a3 a4 (IntKind.u64.wrap (Int.tdiv (Go.bits .or .u64 (IntKind.u64.wrap ((IntKind.u64.wrap (a0))*4294967296)) (IntKind.u64.wrap (a1))) (IntKind.u64.wrap (a3)))) (Int.tmod (Go.bits .or .u64 (IntKind.u64.wrap ((IntKind.u64.wrap (a0))*4294967296)) (IntKind.u64.wrap (a1))) (IntKind.u64.wrap (a3))))
theorem Zbr.calls (k:Nat) (a0:Int) (a1:Int) (a2:Int) (a3:Int) (a4:Int) (r:Int) (w:World) (h:Zbr.f k a0 a1 a2 a3 a4=some r) :
  Calls Tryz.prog 159 #[.int .u32 a0,.int .u32 a1,.int .u32 a2,.int .u32 a3,.int .u32 a4] w fun e w'=>e=.returned (.int .u64 r)/\Drawn0 w w':=by
 have H:(if (IntKind.u64.wrap (a3))=0 then (none) else (Zbr.l0 k a2 a3 a4 (IntKind.u64.wrap (Int.tdiv (Go.bits .or .u64 (IntKind.u64.wrap ((IntKind.u64.wrap (a0))*4294967296)) (IntKind.u64.wrap (a1))) (IntKind.u64.wrap (a3)))) (Int.tmod (Go.bits .or .u64 (IntKind.u64.wrap ((IntKind.u64.wrap (a0))*4294967296)) (IntKind.u64.wrap (a1))) (IntKind.u64.wrap (a3)))))=some r:=h
 clear h
 by_cases c6:(IntKind.u64.wrap (a3))=0
 ·rw [if_pos c6] at H
  exact absurd H (by simp)
 ·rw [if_neg c6] at H
  have c6b0:((IntKind.u64.wrap (a3)) == 0)=false:=beq_eq_false_iff_ne.mpr c6
  have c6b1:((IntKind.u64.wrap (a3)) != 0)=true:=bne_iff_ne.mpr c6
  have H':=am H
  clear H
  go_enter Tryz.func159,Tryz.ntmps159
  go_wp2
  repeat (go_quiet (fail);try go_wp2)
  go_loopg [12,13] k (fun kq v12 v13 w' => ∃ (x12_1:Int) (x13_1:Int),v12=.int .u64 x12_1/\v13=.int .u64 x13_1/\Aside0 (Zbr.l0 kq a2 a3 a4 x12_1 x13_1=some r)/\Aside0 (kq<=k)/\Drawn0 w w')
  case atStart=>exact ⟨(IntKind.u64.wrap (Int.tdiv (Go.bits .or .u64 (IntKind.u64.wrap ((IntKind.u64.wrap (a0))*4294967296)) (IntKind.u64.wrap (a1))) (IntKind.u64.wrap (a3)))),(Int.tmod (Go.bits .or .u64 (IntKind.u64.wrap ((IntKind.u64.wrap (a0))*4294967296)) (IntKind.u64.wrap (a1))) (IntKind.u64.wrap (a3))),pR,pR,H',⟨Nat.le_refl _⟩,pD⟩
  case round =>
   clear H'
   obtain ⟨x12_1,x13_1,rfl,rfl,HA,HK1,⟨m1,rfl⟩⟩:=hrel
   cases gk with
   | zero=>exact absurd HA.out (by simp [Zbr.l0])
   | succ k1 =>
    have H:=HA.out
    clear HA
    simp only [Zbr.l0] at H
    have HC7:=am H
    clear H
    go_upto_region 3 with (fail)
    repeat (go_quiet (fail);go_upto_region 3 with (fail))
    go_cut [42] (fun v42 wc => ∃ (kq:Nat) (x42_6:Bool),v42=.bool x42_6/\Aside0 (Zbr.j1 kq a2 a3 a4 x12_1 x13_1 x42_6=some r)/\Aside0 (kq<=k1)/\Drawn0 w wc)
    case first =>
     have H:=HC7.o
     clear HC7
     by_cases c8:(x12_1 / 4294967296) > 0
     ·rw [if_pos c8] at H
      have c8b0:decide (0 < (x12_1 / 4294967296))=true:=decide_eq_true c8
      clear c8
      (first|rw [c8b0]|(simp only [Zcd,Zdb];rw [c8b0])|skip)
      have H':=am H
      clear H
      go_wp2
      repeat (go_quiet (fail);try go_wp2)
      go_meet
      case rel=>exact ⟨_,(true),pR,H',⟨by have := HK1.out;first|omega|exact Nat.le_refl _⟩,pD⟩
     ·rw [if_neg c8] at H
      have c8b0:decide (0 < (x12_1 / 4294967296))=false:=decide_eq_false c8
      clear c8
      (first|rw [c8b0]|(simp only [Zcd,Zdb];rw [c8b0])|skip)
      have H':=am H
      clear H
      go_wp2
      repeat (go_quiet (fail);try go_wp2)
      go_meet
      case rel=>exact ⟨_,(decide ((IntKind.u64.wrap (x12_1*(IntKind.u64.wrap (a4)))) > (Go.bits .or .u64 (IntKind.u64.wrap (x13_1*4294967296)) (IntKind.u64.wrap (a2))))),pR,H',⟨by have := HK1.out;first|omega|exact Nat.le_refl _⟩,pD⟩
    case rest =>
     clear HC7
     obtain ⟨kq,x42_6,rfl,HA,HJ6,⟨mc6,rfl⟩⟩:=hcut
     cases kq with
     | zero=>exact absurd HA.out (by simp [Zbr.j1])
     | succ kj6 =>
      have H:=HA.out
      clear HA
      simp only [Zbr.j1] at H
      by_cases c9:x42_6=true
      ·subst c9
       rw [if_pos rfl] at H
       by_cases c10:((IntKind.u64.wrap (x13_1+(IntKind.u64.wrap (a3)))) / 4294967296) > 0
       ·rw [if_pos c10] at H
        have c10b0:decide (0 < ((IntKind.u64.wrap (x13_1+(IntKind.u64.wrap (a3)))) / 4294967296))=true:=decide_eq_true c10
        clear c10
        obtain rfl:=Option.some.inj H
        go_wp2
        repeat (go_quiet (fail);try go_wp2)
        go_ret
        exact ⟨pR,pD⟩
       ·rw [if_neg c10] at H
        have c10b0:decide (0 < ((IntKind.u64.wrap (x13_1+(IntKind.u64.wrap (a3)))) / 4294967296))=false:=decide_eq_false c10
        clear c10
        have H':=am H
        clear H
        go_wp2
        repeat (go_quiet (fail);try go_wp2)
        go_roundg kj6
        case measure=>have := HK1.out;have := HJ6.o;omega
        case rel=>exact ⟨(IntKind.u64.wrap (x12_1 - 1)),(IntKind.u64.wrap (x13_1+(IntKind.u64.wrap (a3)))),pR,pR,H',⟨by have := HK1.out;have := HJ6.o;omega⟩,pD⟩
      ·replace c9:=Bool.eq_false_iff.mpr c9
       subst c9
       rw [if_neg (show ¬ (false=true) by decide)] at H
       obtain rfl:=Option.some.inj H
       go_wp2
       repeat (go_quiet (fail);try go_wp2)
       go_ret
       exact ⟨pR,pD⟩
def Zz.l0:Nat->List Int->Int->List Int->List Int->Int->Int->Option (List Int)
 | 0,_,_,_,_,_,_=>none
 | k+1,x0,x1,x5,x11,x12,x13=>if x13 < x12 then (if 0<=x13 then (if x13 < (x11.length:Int) then (if 0<=x1 then (if x13 < (x5.length:Int) then ((some (x5.set (x13:Int).toNat (shr .u32 (rd x11 x13) x1):List Int)).bind fun qa=>(if (wrap64 (x13+1)) < (x0.length:Int) then (if 0<=(wrap64 (x13+1)) then (if 0<=(wrap64 (32 - x1)) then (Zz.l0 k x0 x1 (qa.set (x13:Int).toNat (Go.bits .or .u32 (rd qa x13) ((shl .u64 (IntKind.u64.wrap (rd x0 (wrap64 (x13+1)))) (wrap64 (32 - x1))) % 4294967296))) x11 x12 (wrap64 (x13+1))) else (none)) else (none)) else (Zz.l0 k x0 x1 qa x11 x12 (wrap64 (x13+1))))) else (none)) else (none)) else (none)) else (none)) else ((Zv.f k x5).bind fun qx=>(some qx))
def Zz.f (k:Nat) (l0:List Int) (a1:Int):Option (List Int):=if 0<=(l0.length:Int) then (if ((l0.length:Int):Int).toNat<=70368744177664 then (Zz.l0 k l0 a1 (List.replicate ((l0.length:Int):Int).toNat 0) l0 (l0.length:Int) 0) else (none)) else (none)
def Zz.T7:Bool × List (List Nat × List Nat):=(true,[([],[]),([],[]),([0,1],[0,1]),([2],[2]),([],[]),([],[]),([5],[5]),([4,6],[4,6]),([7],[7]),([8],[8]),([],[]),([10],[10]),([9,11],[9,11]),([12],[12]),([3,13],[3,13]),([0,1,0,1,2,3,4,5,6,7,8,9,10,11,12,13,14],[0,1]),([15,14,0,1,2,3,4,5,6,7,8,9,10,11,12,13,14],[14,15])])
def Zz.B7:List Nat:=[0,0,3,7,0,0,32,112,240,496,0,1024,4080,8176,16383,32767,65535]
theorem Zz.tab7:rtab .any (opsOf Tryz.f162 7)=Zz.T7:=by kernel_rfl
theorem Zz.bits7:waitsOk Zz.T7.2 Zz.B7=true:=by kernel_rfl
theorem Zz.calls (k:Nat) (A0:Option Addr) (c0:Nat) (l0:List Int) (a1:Int) (r:List Int) (w:World) (hr0:Kd.C (Kd.int .u32) w A0 l0.length l0) (hc0:l0.length<=c0) (h:Zz.f k l0 a1=some r) :
  Calls Tryz.prog 162 #[.slice A0 l0.length c0,.int .i64 a1] w fun e w' => ∃ v0_:Value,e=.returned (v0_)/\Kd.R (Kd.int .u32) 85 w' w.heap.size (fun _=>True) v0_ r/\Below w.heap.size w w':=by
 have HR0:=am hr0
 have HC0:=am hc0
 clear hr0 hc0
 have HB:=am (Below.refl w.heap.size w)
 have H:(if 0<=(l0.length:Int) then (if ((l0.length:Int):Int).toNat<=70368744177664 then (Zz.l0 k l0 a1 (List.replicate ((l0.length:Int):Int).toNat 0) l0 (l0.length:Int) 0) else (none)) else (none))=some r:=h
 clear h
 by_cases c3:0<=(l0.length:Int)
 ·rw [if_pos c3] at H
  have c3b0:=eq_true c3
  have c3b1:decide (0<=(l0.length:Int))=true:=decide_eq_true c3
  clear c3
  by_cases c4:((l0.length:Int):Int).toNat<=70368744177664
  ·rw [if_pos c4] at H
   have c4b0:=eq_true c4
   have c4b1:decide (((l0.length:Int):Int).toNat<=70368744177664)=true:=decide_eq_true c4
   clear c4
   obtain ⟨q3,ql⟩:∃ y_:List Int,y_=(List.replicate ((l0.length:Int):Int).toNat 0):=⟨_,rfl⟩
   replace H:(Zz.l0 k l0 a1 q3 l0 (l0.length:Int) 0)=some r:=by have hy_:=ql;exact pH
   have qo:=am ql
   clear ql
   have H':=am H
   clear H
   go_enter Tryz.func162,Tryz.ntmps162
   go_wp2_with (first|((with_reducible refine gd 10 ?_);refine Kd.Zlr (Kd.int .u32) _ 85 rfl (N:=10) rfl 134 _ _ rfl (l0.length:Int) rfl rfl Tryz.underlying134 (.int .u32 0) 4 info85 rfl (by decide) (by omega) 0 (ok:=fun _=>True) (okp:=fun _=>True) rfl (fun _ hk=>hk) trivial (of_decide_eq_true pQ) (Nat.le_trans (Nat.mul_le_mul_right _ (of_decide_eq_true pQ:(l0.length:Int).toNat<=70368744177664)) (by omega)) (Below.refl _ _) (Nat.le_refl _) ?_;intro q8 w5 ho6 hb hg_ hnew_;clear hg_ hnew_;(first|rw [<- qo.out] at ho6|(simp only [Int.reduceToNat] at ho6;rw [<- qo.out] at ho6));have qy:=am (Kd.Zo ho6 (Zd pB));replace HB:=bS hb;clear hb ho6))
   go_loopg [13] k (fun kq v13 w' => ∃ (x5_1:List Int) (x13_1:Int),v13=.int .i64 x13_1/\Aside0 (Zz.l0 kq l0 a1 x5_1 l0 (l0.length:Int) x13_1=some r)/\Aside0 (kq<=k)/\Aside0 (Kd.R (Kd.int .u32) 85 w' w.heap.size (fun _=>True) q8 x5_1)/\Aside0 (Below w.heap.size w w'))
   case atStart=>exact ⟨(q3),(0),pR,H',⟨Nat.le_refl _⟩,⟨by refine rp ?_;exact qy.o⟩,⟨pB⟩⟩
   case round =>
    clear H'
    obtain ⟨x5_1,x13_1,rfl,HA,HK1,HO_5,HB⟩:=hrel
    cases gk with
    | zero=>exact absurd HA.out (by simp [Zz.l0])
    | succ k1 =>
     have H:=HA.out
     clear HA
     simp only [Zz.l0] at H
     by_cases c7:x13_1 < (l0.length:Int)
     ·rw [if_pos c7] at H
      have c7b0:decide (x13_1 < (l0.length:Int))=true:=decide_eq_true c7
      clear c7
      by_cases c8:0<=x13_1
      ·rw [if_pos c8] at H
       have c8b0:decide (0<=x13_1)=true:=decide_eq_true c8
       clear c8
       by_cases c9:x13_1 < (l0.length:Int)
       ·rw [if_pos c9] at H
        have c9b0:decide (x13_1 < (l0.length:Int))=true:=decide_eq_true c9
        clear c9
        by_cases c10:0<=a1
        ·rw [if_pos c10] at H
         have c10b0:=eq_true c10
         have c10b1:decide (0<=a1)=true:=decide_eq_true c10
         clear c10
         obtain ⟨ji11,hji11⟩:∃ j_:Int,(shr .u32 (rd l0 x13_1) a1)=j_:=⟨_,rfl⟩
         replace H:(if x13_1 < (x5_1.length:Int) then ((some (x5_1.set (x13_1:Int).toNat (ji11):List Int)).bind fun qa=>(if (wrap64 (x13_1+1)) < (l0.length:Int) then (if 0<=(wrap64 (x13_1+1)) then (if 0<=(wrap64 (32 - a1)) then (Zz.l0 k1 l0 a1 (qa.set (x13_1:Int).toNat (Go.bits .or .u32 (rd qa x13_1) ((shl .u64 (IntKind.u64.wrap (rd l0 (wrap64 (x13_1+1)))) (wrap64 (32 - a1))) % 4294967296))) l0 (l0.length:Int) (wrap64 (x13_1+1))) else (none)) else (none)) else (Zz.l0 k1 l0 a1 qa l0 (l0.length:Int) (wrap64 (x13_1+1))))) else (none))=some r:=by first|(rw [hji11] at H;exact H)|(simp only [hji11] at H ⊢;exact H)
         have hji11_:((rd l0 x13_1) / 2 ^ min a1.toNat 32)=ji11:=hji11
         have hji11z:a1<=32->((rd l0 x13_1) / 2 ^ a1.toNat)=ji11:=Zkh hji11
         by_cases c12:x13_1 < (x5_1.length:Int)
         ·rw [if_pos c12] at H
          have c12b0:decide (x13_1 < (x5_1.length:Int))=true:=decide_eq_true c12
          clear c12
          obtain ⟨qa,qm⟩:∃ y_:List Int,y_=(x5_1.set (x13_1:Int).toNat (ji11)):=⟨_,rfl⟩
          replace H:(if (wrap64 (x13_1+1)) < (l0.length:Int) then (if 0<=(wrap64 (x13_1+1)) then (if 0<=(wrap64 (32 - a1)) then (Zz.l0 k1 l0 a1 (qa.set (x13_1:Int).toNat (Go.bits .or .u32 (rd qa x13_1) ((shl .u64 (IntKind.u64.wrap (rd l0 (wrap64 (x13_1+1)))) (wrap64 (32 - a1))) % 4294967296))) l0 (l0.length:Int) (wrap64 (x13_1+1))) else (none)) else (none)) else (Zz.l0 k1 l0 a1 qa l0 (l0.length:Int) (wrap64 (x13_1+1))))=some r:=by have hy_:=qm;exact pH
          have qh:=am qm
          clear qm
          by_cases c14:(wrap64 (x13_1+1)) < (l0.length:Int)
          ·rw [if_pos c14] at H
           have c14b0:decide ((wrap64 (x13_1+1)) < (l0.length:Int))=true:=decide_eq_true c14
           clear c14
           obtain ⟨ji15,hji15⟩:∃ j_:Int,(wrap64 (x13_1+1))=j_:=⟨_,rfl⟩
           replace H:(if 0<=(ji15) then (if 0<=(wrap64 (32 - a1)) then (Zz.l0 k1 l0 a1 (qa.set (x13_1:Int).toNat (Go.bits .or .u32 (rd qa x13_1) ((shl .u64 (IntKind.u64.wrap (rd l0 (ji15))) (wrap64 (32 - a1))) % 4294967296))) l0 (l0.length:Int) ji15) else (none)) else (none))=some r:=by first|(rw [hji15] at H;exact H)|(simp only [hji15] at H ⊢;exact H)
           (try rw [hji15] at c14b0)
           have hji15w:(IntKind.i64.wrap (x13_1+1))=ji15:=(Zcd _).trans hji15
           by_cases c16:0<=(ji15)
           ·rw [if_pos c16] at H
            have c16b0:decide (0<=(ji15))=true:=decide_eq_true c16
            clear c16
            obtain ⟨ji17,hji17⟩:∃ j_:Int,(wrap64 (32 - a1))=j_:=⟨_,rfl⟩
            replace H:(if 0<=(ji17) then (Zz.l0 k1 l0 a1 (qa.set (x13_1:Int).toNat (Go.bits .or .u32 (rd qa x13_1) ((shl .u64 (IntKind.u64.wrap (rd l0 (ji15))) (ji17)) % 4294967296))) l0 (l0.length:Int) ji15) else (none))=some r:=by first|(rw [hji17] at H;exact H)|(simp only [hji17] at H ⊢;exact H)
            have hji17w:(IntKind.i64.wrap (32 - a1))=ji17:=(Zcd _).trans hji17
            by_cases c18:0<=(ji17)
            ·rw [if_pos c18] at H
             have c18b0:=eq_true c18
             have c18b1:decide (0<=(ji17))=true:=decide_eq_true c18
             clear c18
             obtain ⟨ji19,hji19⟩:∃ j_:Int,(shl .u64 (IntKind.u64.wrap (rd l0 (ji15))) (ji17))=j_:=⟨_,rfl⟩
             replace H:(Zz.l0 k1 l0 a1 (qa.set (x13_1:Int).toNat (Go.bits .or .u32 (rd qa x13_1) ((ji19) % 4294967296))) l0 (l0.length:Int) ji15)=some r:=by first|(rw [hji19] at H;exact H)|(simp only [hji19] at H ⊢;exact H)
             have hji19_:(IntKind.u64.wrap ((IntKind.u64.wrap (rd l0 (ji15)))*2 ^ min (ji17).toNat 64))=ji19:=hji19
             have hji19z:(ji17)<=64->(IntKind.u64.wrap ((IntKind.u64.wrap (rd l0 (ji15)))*2 ^ (ji17).toNat))=ji19:=Zkg hji19
             obtain ⟨q4,qn⟩:∃ y_:List Int,y_=(qa.set (x13_1:Int).toNat (Go.bits .or .u32 (rd qa x13_1) ((ji19) % 4294967296))):=⟨_,rfl⟩
             replace H:(Zz.l0 k1 l0 a1 q4 l0 (l0.length:Int) ji15)=some r:=by have hy_:=qn;exact pH
             have q0:=am qn
             clear qn
             have H':=am H
             clear H
             have qe:0<=(x13_1:Int):=of_decide_eq_true pQ
             have qf:x13_1 < (l0.length:Int):=of_decide_eq_true pQ
             obtain ⟨qi,qs,qb⟩:=Kd.Za5 HR0.o x13_1 qe qf
             cases qs
             replace qb:=(HB.o.cell (World.block_lt_of_cell? w _ qb)).trans qb
             replace qe:=eq_true qe
             replace qf:=eq_true qf
             have p13:0<=(x13_1:Int):=of_decide_eq_true pQ
             have q13:(x13_1:Int) < ((x5_1.length:Int):Int):=of_decide_eq_true pQ
             obtain ⟨go13,qq,qj,qk,gl13,cl13,HG13⟩:=Kd.Zif HO_5.o (by omega)
             (first|cases qj|(injection qj with ea_ en_ ec_;(first|subst ea_|(injection ea_ with ea_;subst ea_));subst ec_;clear en_))
             have GB13:=am qk
             have GG13:=am HG13
             clear qk gl13 HG13
             obtain ⟨hx13_0,hf13_0⟩:=Kd.Zfc 0 HO_5.o (x13_1:Int) p13 q13
             replace p13:=eq_true p13
             replace q13:=eq_true q13
             have HP21:=Kd.Zjl HO_5.o (x13_1:Int) ji11
             try go_wp2_with (first|((with_reducible refine Zc4 (t:=85) (p:=23) rfl ?_);refine Zcp (t:=85) (p:=23) (v:=?vo_w22) (w1:=(wr.setCell ⟨go13,(x13_1:Int).toNat,none⟩ (.int .u32 ji11))) ?hg ?ho ?hn ?hr ?_;(case ho=>rfl);(case hg=>rfl);(case hn=>rfl);(case hr=>first|(go_simp;done)|(go_simp;rfl));intro w22 hw;have hg:wr.grownBy w22 (some go13):=(by rw [hw];exact HP21.2);have hp_:Kd.R (Kd.int .u32) 85 w22 w.heap.size (fun _=>True) (.slice (some ⟨go13,0,none⟩) x5_1.length qq) qa:=(by rw [hw,qh.out];exact HP21.1);clear HP21;replace HO_5:=am (hp_);replace HB:=am ((by rw [hw];exact Zdn (HB.o) GB13.out:Below w.heap.size w w22));clear hg hw hp_))
             replace HO_5:=am (Kd.Zc1 HO_5.o)
             replace HB:=am (Zav HB.o)
             have qt:0<=(x13_1:Int):=of_decide_eq_true pQ
             have qv:x13_1 < (qa.length:Int):=(by have h_:(x13_1:Int) < ((x5_1.length:Int):Int):=of_decide_eq_true pQ;first|(have e_:=(Kd.Zc HO_5.o).1;omega)|simpa only [qh.out,List.length_set] using h_)
             have q9:((x13_1:Int) < ((x5_1.length:Int):Int))=True:=eq_true (of_decide_eq_true pQ)
             obtain ⟨q1,q5,qc⟩:=Kd.Za5 (Kd.Zc HO_5.o).2.2 x13_1 qt qv
             obtain rfl:(⟨go13,0,none⟩:Addr)=q1:=(by injection q5)
             (first|simp only [add_plain] at qc|simp only [Zf3] at qc|simp only [Addr.add,Nat.zero_add] at qc|skip)
             replace qt:=eq_true qt
             replace qv:=eq_true qv
             have qu:0<=((ji15):Int):=of_decide_eq_true pQ
             have qw:(ji15) < (l0.length:Int):=of_decide_eq_true pQ
             obtain ⟨q2,q6,qd⟩:=Kd.Za5 HR0.o (ji15) qu qw
             have qg:=qd
             obtain rfl:qi=q2:=(by injection q6)
             replace qd:=(HB.o.cell (World.block_lt_of_cell? w _ qd)).trans qd
             replace qu:=eq_true qu
             replace qw:=eq_true qw
             have p20:0<=(x13_1:Int):=of_decide_eq_true pQ
             have q20:(x13_1:Int) < ((x5_1.length:Int):Int):=of_decide_eq_true pQ
             obtain ⟨hx20_0,hf20_0⟩:=Kd.Zfc 0 HO_5.o (x13_1:Int) p20 q20
             replace p20:=eq_true p20
             replace q20:=eq_true q20
             have HP24:=Kd.Znq HO_5.o (x13_1:Int) (Go.bits .or .u32 (rd qa x13_1) ((ji19) % 4294967296))
             rw [<- q0.out] at HP24
             have HQ24:=am HP24
             clear HP24
             refine start_ (n:=17) (S:=fun w'=>w'.cell? ⟨go13,(x13_1).toNat,none⟩=some (.int .u32 (rd qa x13_1))/\w'.cell? (qi.add ((ji15)).toNat)=some (.int .u32 (rd l0 (ji15)))) (ds:=[16]) #[false,false,false,false,false,false,false,false,false,false,false,false,false,false,false,false,false] (by kernel_rfl) rfl rfl ⟨qc,((HB.o.cell (World.block_lt_of_cell? w _ qg)).trans qg)⟩ (fun hHeld=>?_);refine Zb6 Zz.tab7 Zz.bits7 (fun HT_ HW_=>?_)
             generalize w22.drew=w23 at HO_5 HB HQ24 hf20_0 qc qd hx20_0 hHeld ⊢
             refine pu 0 (some 29) #[true,false,false,false,false,false,false,false,false,false,false,false,false,false,false,false,false] (h:=?_)
             refine pu 1 (some 30) #[true,true,false,false,false,false,false,false,false,false,false,false,false,false,false,false,false] (h:=?_)
             refine pu 2 (some 31) #[true,true,true,false,false,false,false,false,false,false,false,false,false,false,false,false,false] (h:=?_)
             refine pu 4 (some 33) #[true,true,true,false,true,false,false,false,false,false,false,false,false,false,false,false,false] (h:=?_)
             refine pu 5 (some 34) #[true,true,true,false,true,true,false,false,false,false,false,false,false,false,false,false,false] (h:=?_)
             refine pu 6 (some 35) #[true,true,true,false,true,true,true,false,false,false,false,false,false,false,false,false,false] (h:=?_)
             refine pu 7 (some 36) #[true,true,true,false,true,true,true,true,false,false,false,false,false,false,false,false,false] (h:=?_)
             refine pu 10 (some 39) #[true,true,true,false,true,true,true,true,false,false,true,false,false,false,false,false,false] (h:=?_)
             refine pu 11 (some 40) #[true,true,true,false,true,true,true,true,false,false,true,true,false,false,false,false,false] (h:=?_)
             refine take_ (i:=3) (N:=some 32) (v:=?_) (a':=?_) #[true,true,true,true,true,true,true,true,false,false,true,true,false,false,false,false,false] rfl rfl (Zay HT_.out HW_.out (by kernel_rfl)) (fun _ _ _ h=>h) (Or.inl ⟨by rfl,?_⟩) hHeld ?_ ?_
             rotate_left
             ·rintro w' ⟨s0,s1⟩
              go_simp
              with_reducible rfl
             rotate_left
             ·exact pP
             refine take_ (i:=8) (N:=some 37) (v:=?_) (a':=?_) #[true,true,true,true,true,true,true,true,true,false,true,true,false,false,false,false,false] rfl rfl (Zay HT_.out HW_.out (by kernel_rfl)) (fun _ _ _ h=>h) (Or.inl ⟨by rfl,?_⟩) hHeld ?_ ?_
             rotate_left
             ·rintro w' ⟨s0,s1⟩
              go_simp
              with_reducible rfl
             rotate_left
             ·exact pP
             refine pu 9 (some 38) #[true,true,true,true,true,true,true,true,true,true,true,true,false,false,false,false,false] (h:=?_)
             refine pu 12 (some 41) #[true,true,true,true,true,true,true,true,true,true,true,true,true,false,false,false,false] (h:=?_)
             refine pu 13 (some 42) #[true,true,true,true,true,true,true,true,true,true,true,true,true,true,false,false,false] (h:=?_)
             refine pu 14 (some 43) #[true,true,true,true,true,true,true,true,true,true,true,true,true,true,true,false,false] (h:=?_)
             refine pu 15 (some 44) #[true,true,true,true,true,true,true,true,true,true,true,true,true,true,true,true,false] (h:=?_)
             refine last_ (i:=16) (N:=none) #[true,true,true,true,true,true,true,true,true,true,true,true,true,true,true,true,true] rfl rfl (Zbh HT_.out (by kernel_rfl)) (by decide) (fun K hK=>?_)
             refine skip_ (w1:=?_) (by rfl) rfl ?_ ?_
             rotate_left
             ·go_simp
              rfl
             refine hK.out _ _ ?_
             clear hK K
             refine done_ (Zde HT_.out (by kernel_rfl)) ?_
             try go_wp2
             go_roundg k1
             case measure=>have := HK1.out;omega
             case rel=>exact ⟨(q4),(ji15),(by first|rfl|(simp;done)|(simp only [<- hji15] <;> (first|rfl|simp))|(simp [*];done)),(by first|exact H'|(have H_:=H'.out;simp only [<- hji15] at H_;exact ⟨H_⟩)|(refine ⟨?_⟩;have H_:=H'.out;simp only [<- hji15] at H_ ⊢;exact H_)|(have H_:=H'.out;simp only [<- hji17] at H_;exact ⟨H_⟩)|(refine ⟨?_⟩;have H_:=H'.out;simp only [<- hji17] at H_ ⊢;exact H_)),⟨by have := HK1.out;omega⟩,⟨by refine rp ?_;exact HQ24.out⟩,⟨by repeat (first|(with_reducible first|exact HB.o|apply Zcw|apply Za6|apply Zav|refine Zdn ?_ GB13.out)|exact HB.o)⟩⟩
            ·rw [if_neg c18] at H
             exact absurd H (by simp)
           ·rw [if_neg c16] at H
            exact absurd H (by simp)
          ·rw [if_neg c14] at H
           have c14b0:decide ((wrap64 (x13_1+1)) < (l0.length:Int))=false:=decide_eq_false c14
           clear c14
           have H':=am H
           clear H
           have qe:0<=(x13_1:Int):=of_decide_eq_true pQ
           have qf:x13_1 < (l0.length:Int):=of_decide_eq_true pQ
           obtain ⟨qi,qs,qb⟩:=Kd.Za5 HR0.o x13_1 qe qf
           cases qs
           replace qb:=(HB.o.cell (World.block_lt_of_cell? w _ qb)).trans qb
           replace qe:=eq_true qe
           replace qf:=eq_true qf
           have p13:0<=(x13_1:Int):=of_decide_eq_true pQ
           have q13:(x13_1:Int) < ((x5_1.length:Int):Int):=of_decide_eq_true pQ
           obtain ⟨go13,qq,qj,qk,gl13,cl13,HG13⟩:=Kd.Zif HO_5.o (by omega)
           (first|cases qj|(injection qj with ea_ en_ ec_;(first|subst ea_|(injection ea_ with ea_;subst ea_));subst ec_;clear en_))
           have GB13:=am qk
           have GG13:=am HG13
           clear qk gl13 HG13
           obtain ⟨hx13_0,hf13_0⟩:=Kd.Zfc 0 HO_5.o (x13_1:Int) p13 q13
           replace p13:=eq_true p13
           replace q13:=eq_true q13
           have HP25:=Kd.Zjl HO_5.o (x13_1:Int) ji11
           go_wp2_with (first|((with_reducible refine Zc4 (t:=85) (p:=23) rfl ?_);refine Zcp (t:=85) (p:=23) (v:=?vo_w26) (w1:=(wr.setCell ⟨go13,(x13_1:Int).toNat,none⟩ (.int .u32 ji11))) ?hg ?ho ?hn ?hr ?_;(case ho=>rfl);(case hg=>rfl);(case hn=>rfl);(case hr=>first|(go_simp;done)|(go_simp;rfl));intro w26 hw;have hg:wr.grownBy w26 (some go13):=(by rw [hw];exact HP25.2);have hp_:Kd.R (Kd.int .u32) 85 w26 w.heap.size (fun _=>True) (.slice (some ⟨go13,0,none⟩) x5_1.length qq) qa:=(by rw [hw,qh.out];exact HP25.1);clear HP25;replace HO_5:=am (hp_);replace HB:=am ((by rw [hw];exact Zdn (HB.o) GB13.out:Below w.heap.size w w26));clear hg hw hp_))
           go_roundg k1
           case measure=>have := HK1.out;omega
           case rel=>exact ⟨(qa),(wrap64 (x13_1+1)),pR,H',⟨by have := HK1.out;omega⟩,⟨by refine rp ?_;exact HO_5.o⟩,⟨pB⟩⟩
         ·rw [if_neg c12] at H
          exact absurd H (by simp)
        ·rw [if_neg c10] at H
         exact absurd H (by simp)
       ·rw [if_neg c9] at H
        exact absurd H (by simp)
      ·rw [if_neg c8] at H
       exact absurd H (by simp)
     ·rw [if_neg c7] at H
      have c7b0:decide (x13_1 < (l0.length:Int))=false:=decide_eq_false c7
      clear c7
      obtain ⟨qx,A27,H⟩:=ob H
      obtain rfl:=Option.some.inj H
      obtain ⟨qp,qr,q7⟩:=Kd.Zj HO_5.o
      subst q7
      go_wp2_with (first|(refine gL (some 47) Tryz.func132 #[.slice qp x5_1.length qr] (h:=?_);(with_reducible refine (Zv.calls k1 (fun k_=>some k_=(.slice qp x5_1.length qr:Value).ownBlock) (.slice qp x5_1.length qr) x5_1 qx w _ ?side1 ?side2 A27.o).mono ?_);(case side1=>exact pB);(case side2=>exact Kd.Zbj rfl HO_5.o);rintro e w29 ⟨ja,rfl,ho0,hb,hkp⟩;refine ⟨_,rfl,?_⟩;have qz:=am (Kd.Zh (ok':=fun k_=>True) ho0 (fun k_ hk_=>trivial));replace HB:=am hb;clear HO_5))
      go_ret
      exact ⟨_,pE,by refine rp ?_;exact qz.o,pB⟩
  ·rw [if_neg c4] at H
   exact absurd H (by simp)
 ·rw [if_neg c3] at H
  exact absurd H (by simp)
end YtjbjkmccfocikaaGreatDoor.B
end
section
namespace YtjbjkmccfocikaaGreatDoor.P
open Go.RowKit YtjbjkmccfocikaaGreatDoor.B YtjbjkmccfocikaaGreatDoorW.PrintWords YtjbjkmccfocikaaGreatDoorW.PrintLast YtjbjkmccfocikaaGreatDoorW.PrintMore YtjbjkmccfocikaaGreatDoor.P.Nm
theorem Zfv {n:Nat} (h:n < 32):2 ^ n<=2147483648:=by
 have := Nat.pow_le_pow_right (show 0 < 2 by omega) (show n<=31 by omega)
 exact Nat.le_trans this (by decide)
theorem two_pow_pos (n:Nat):0 < 2 ^ n:=Nat.pow_pos (by omega)
theorem Zgy {n:Nat} (h:n<=32):2 ^ n*2 ^ (32 - n)=4294967296:=by rw [<- Nat.pow_add,show n+(32 - n)=32 by omega]
theorem Zk4 (n h l:Nat) (hl:l < 2 ^ n):(h*2 ^ n) ||| l=h*2 ^ n+l:=by
 rw [Nat.mul_comm,<- Nat.two_pow_add_eq_or_of_lt hl]
theorem shl32 {x n:Nat} (h:n<=32) (hx:x < 4294967296):shl .u32 (x:Int) (n:Int)=(((x*2 ^ n) % 4294967296:Nat):Int):=by
 unfold shl
 rw [Int.toNat_natCast,show IntKind.u32.bits=32 from rfl,Nat.min_eq_left h]
 have e:(x:Int)*2 ^ n=((x*2 ^ n:Nat):Int):=by rw [Int.natCast_mul,Int.natCast_pow];rfl
 rw [e]
 simp [IntKind.wrap,IntKind.bits,IntKind.signed]
theorem shl64 {x n:Nat} (h:n<=64) (hx:x*2 ^ n < 18446744073709551616):shl .u64 (x:Int) (n:Int)=((x*2 ^ n:Nat):Int):=by
 unfold shl
 rw [Int.toNat_natCast,show IntKind.u64.bits=64 from rfl,Nat.min_eq_left h]
 have e:(x:Int)*2 ^ n=((x*2 ^ n:Nat):Int):=by rw [Int.natCast_mul,Int.natCast_pow];rfl
 rw [e,u64n hx]
theorem Zpb {k:IntKind} {x n:Nat} (h:n<=k.bits):shr k (x:Int) (n:Int)=((x / 2 ^ n:Nat):Int):=by
 unfold shr
 rw [Int.toNat_natCast,Nat.min_eq_left h,Int.natCast_ediv,Int.natCast_pow];rfl
theorem Zmk {x n m:Nat} (hn:n < 32) (hx:x < 4294967296) (hm:m < 2 ^ n):bits .or .u32 (((x*2 ^ n) % 4294967296:Nat):Int) (m:Int)=(((x*2 ^ n) % 4294967296+m:Nat):Int)/\(x*2 ^ n) % 4294967296+m < 4294967296/\x / 2 ^ (32 - n) < 2 ^ n/\(x*2 ^ n) % 4294967296+m+4294967296*(x / 2 ^ (32 - n))=x*2 ^ n+m:=by
 have h2:=Zfv hn
 have h3:=two_pow_pos n
 have h4:=Zgy (n:=n) (by omega)
 have h5:=two_pow_pos (32 - n)
 obtain ⟨P,hP⟩:∃ P,2 ^ n=P:=⟨_,rfl⟩
 obtain ⟨R,hR⟩:∃ R,2 ^ (32 - n)=R:=⟨_,rfl⟩
 rw [hP] at h2 h3 h4 hm ⊢
 rw [hR] at h4 h5 ⊢
 have e1:(x*P) % 4294967296=(x % R)*P:=by rw [<- h4,Nat.mul_comm P R];exact Nat.mul_mod_mul_right P x R
 have e2:x % R < R:=Nat.mod_lt _ h5
 have e3:(x % R)*P+P<=4294967296:=by
  have := Nat.mul_le_mul_right P (show x % R+1<=R by omega)
  rw [Nat.add_mul,Nat.one_mul,Nat.mul_comm R P,h4] at this
  exact this
 have e4:x / R < P:=(Nat.div_lt_iff_lt_mul h5).2 (by rw [h4];exact hx)
 have e5:x*P=R*P*(x / R)+(x % R)*P:=by
  have := Nat.div_add_mod x R
  conv=>lhs;rw [<- this]
  rw [Nat.add_mul,Nat.mul_right_comm]
 rw [e1]
 refine ⟨?_,by omega,e4,?_⟩
 ·rw [u32_or_nat _ _ (by omega) (by omega),<- hP,Zk4 n _ _ (by rw [hP];exact hm)]
 ·rw [e5,Nat.mul_comm R P,h4];omega
structure LeftAt (a:List Int) (n i m:Nat) (o:List Int):Prop where
 len:o.length=i
 dg:Dg 4294967296 o
 m1:m < 2 ^ n
 law:val 4294967296 o+pw 4294967296 i*m=val 4294967296 (a.take i)*((2 ^ n:Nat):Int)
theorem LeftAt.step {a:List Int} {n i m:Nat} {o:List Int} (h:LeftAt a n i m o) (hn:n < 32) {x:Nat} (hx:a.getD i 0=x) (hx1:x < 4294967296) :
  LeftAt a n (i+1) (x / 2 ^ (32 - n)) (o ++ [(((x*2 ^ n) % 4294967296+m:Nat):Int)]):=by
 obtain ⟨_,s2,s3,s4⟩:=Zmk hn hx1 h.m1
 refine ⟨by simp [h.len],h.dg.app (Dg.one (by omega) (by omega)),s3,?_⟩
 rw [Zck,Zdm,h.len,Zd8,hx,Int.add_mul,<- h.law]
 generalize pw 4294967296 i=M
 obtain ⟨z,hz⟩:∃ z,(x*2 ^ n) % 4294967296+m=z:=⟨_,rfl⟩
 obtain ⟨y,hy⟩:∃ y,x / 2 ^ (32 - n)=y:=⟨_,rfl⟩
 rw [hz,hy] at s4 ⊢
 have e1:M*(z:Int)+4294967296*M*(y:Int)=M*m+M*x*((2 ^ n:Nat):Int):=by
  rw [Int.mul_comm 4294967296 M,Int.mul_assoc,<- Int.mul_add,Int.mul_assoc,<- Int.mul_add,<- Int.natCast_mul]
  congr 1;omega
 omega
theorem Zof {a:List Int} (ha:Dg 4294967296 a) (la:a.length<=1000000) (n:Nat) (hn:n < 32):∀ (d i m:Nat) (o:List Int),a.length - i=d->i<=a.length->LeftAt a n i m o ->
  ∃ R,Tells (fun k=>Za7.l0 k (n:Int) o (m:Int) a (a.length:Int) (i:Int)) R/\R.length=a.length+1/\Dg 4294967296 R/\val 4294967296 R=val 4294967296 a*((2 ^ n:Nat):Int)
 | 0,i,m,o,hd,hi,h=>by
  obtain rfl:i=a.length:=by omega
  have hlen:=h.len
  have c3:o.length < 35184372088832:=by omega
  have hm:=h.m1
  have h2:=Zfv hn
  refine ⟨o ++ [(m:Int)],?_,by simp [hlen],h.dg.app (Dg.one (by omega) (by omega)),?_⟩
  ·refine Tells.succ ?_
   simp only [Za7.l0]
   exact Tells.ifn (Int.lt_irrefl _) (Tells.ifp c3 (Tells.pure _))
  ·rw [Zdm,hlen,h.law,List.take_length]
 | d+1,i,m,o,hd,hi,h=>by
  obtain ⟨x,hx,hx1⟩:=dgL ha i
  obtain ⟨s1,s2,s3,s4⟩:=Zmk hn hx1 h.m1
  obtain ⟨R,h1,h2,h3,h4⟩:=Zof ha la n hn d (i+1) _ _ (by omega) (by omega) (h.step hn hx hx1)
  refine ⟨R,?_,h2,h3,h4⟩
  have hlen:=h.len
  have hp:=Zfv hn
  have c1:(i:Int) < (a.length:Int):=by omega
  have c2:(0:Int)<=(i:Int):=by omega
  have c3:o.length < 35184372088832:=by omega
  have c4:(0:Int)<=(n:Int):=by omega
  have c5:(0:Int)<=((32 - n:Nat):Int):=by omega
  have e2:(32:Int) - (n:Int)=((32 - n:Nat):Int):=by omega
  have e3:((x / 2 ^ (32 - n):Nat):Int) % 4294967296=((x / 2 ^ (32 - n):Nat):Int):=by
   obtain ⟨y,hy⟩:∃ y,x / 2 ^ (32 - n)=y:=⟨_,rfl⟩
   rw [hy] at s3 ⊢
   omega
  refine Tells.succ ?_
  simp only [Za7.l0]
  rw [rd_n,hx,w64s (by omega),shl32 (by omega) hx1,s1,e2,w64c (m:=32 - n) (by omega),u64n (m:=x) (by omega),Zpb (k:=.u64) (by show 32 - n<=64;omega),e3]
  exact Tells.ifp c1 (Tells.ifp c2 (Tells.ifp c1 (Tells.ifp c4 (Tells.ifp c3 (Tells.ifp c5 h1)))))
theorem Zil {a:List Int} (ha:Dg 4294967296 a) (la:a.length<=1000000) (n:Nat) (hn:n < 32) :
  ∃ R,Tells (fun k=>Za7.f k a (n:Int)) R/\R.length=a.length+1/\Dg 4294967296 R/\val 4294967296 R=val 4294967296 a*((2 ^ n:Nat):Int):=by
 obtain ⟨R,h1,h2⟩:=Zof ha la n hn a.length 0 0 [] (by omega) (by omega) ⟨rfl,Dg.nil _,two_pow_pos n,by simp [val]⟩
 refine ⟨R,?_,h2⟩
 unfold Za7.f
 rw [w64s (by omega)]
 exact Tells.ifp (by omega) (Tells.ifp (by omega) h1)
theorem Zmj {x y n:Nat} (hn:n < 32) (hx:x < 4294967296) (hy:y < 4294967296):bits .or .u32 ((x / 2 ^ n:Nat):Int) (((y*2 ^ (32 - n)) % 4294967296:Nat):Int)=((x / 2 ^ n+(y % 2 ^ n)*2 ^ (32 - n):Nat):Int)/\x / 2 ^ n+(y % 2 ^ n)*2 ^ (32 - n) < 4294967296:=by
 have h3:=two_pow_pos n
 have h4:=Zgy (n:=n) (by omega)
 have h5:=two_pow_pos (32 - n)
 obtain ⟨P,hP⟩:∃ P,2 ^ n=P:=⟨_,rfl⟩
 obtain ⟨R,hR⟩:∃ R,2 ^ (32 - n)=R:=⟨_,rfl⟩
 rw [hP] at h3 h4 ⊢
 rw [hR] at h4 h5 ⊢
 have e1:(y*R) % 4294967296=(y % P)*R:=by rw [<- h4];exact Nat.mul_mod_mul_right R y P
 have e2:y % P < P:=Nat.mod_lt _ h3
 have e3:x / P < R:=(Nat.div_lt_iff_lt_mul h3).2 (by rw [Nat.mul_comm,h4];exact hx)
 have e4:(y % P)*R+R<=4294967296:=by
  have := Nat.mul_le_mul_right R (show y % P+1<=P by omega)
  rw [Nat.add_mul,Nat.one_mul,h4] at this
  exact this
 rw [e1]
 refine ⟨?_,by omega⟩
 rw [u32_or_nat _ _ (by omega) (by omega),Nat.or_comm,<- hR,Zk4 (32 - n) _ _ (by rw [hR];exact e3),Nat.add_comm]
structure RightAt (a:List Int) (n i:Nat) (o:List Int):Prop where
 len:o.length=a.length
 dg:Dg 4294967296 o
 law:val 4294967296 (o.take i)=(val 4294967296 a / ((2 ^ n:Nat):Int)) % pw 4294967296 i
 hi:∀ j,i<=j->o.getD j 0=0
theorem Zlg {a:List Int} (ha:Dg 4294967296 a) {i n:Nat} (hn:n < 32) {x y:Nat} (hx:a.getD i 0=x) (hy:a.getD (i+1) 0=y) (hx1:x < 4294967296) (hy1:y < 4294967296) :
  (val 4294967296 a / ((2 ^ n:Nat):Int)) % pw 4294967296 (i+1)=(val 4294967296 a / ((2 ^ n:Nat):Int)) % pw 4294967296 i+pw 4294967296 i*((x / 2 ^ n+(y % 2 ^ n)*2 ^ (32 - n):Nat):Int):=by
 obtain ⟨V,hV⟩:∃ V:Nat,val 4294967296 a=V:=⟨(val 4294967296 a).toNat,by have := Zbt (b:=4294967296) (by omega) ha;omega⟩
 have hlow:∀ j,∃ L H:Nat,V=L+4294967296 ^ j*H/\L < 4294967296 ^ j/\val 4294967296 (a.drop j)=H:=fun j=>by
  by_cases hj:j<=a.length
  ·have h1:=Zh7 (b:=4294967296) a j hj
   have h2:=Zdz (b:=4294967296) (by omega) (ha.take j)
   have h3:=Zbt (b:=4294967296) (by omega) (ha.take j)
   have h4:=Zbt (b:=4294967296) (by omega) (ha.drop j)
   rw [List.length_take,Nat.min_eq_left hj,pwL] at h2
   refine ⟨(val 4294967296 (a.take j)).toNat,(val 4294967296 (a.drop j)).toNat,?_,by omega,by omega⟩
   have e1:(((val 4294967296 (a.take j)).toNat:Nat):Int)=val 4294967296 (a.take j):=by omega
   have e2:(((val 4294967296 (a.drop j)).toNat:Nat):Int)=val 4294967296 (a.drop j):=by omega
   have:((V:Nat):Int)=(((val 4294967296 (a.take j)).toNat+4294967296 ^ j*(val 4294967296 (a.drop j)).toNat:Nat):Int):=by
    rw [Int.natCast_add,Int.natCast_mul,e1,e2,<- pwL,<- h1,hV]
   exact Int.ofNat.inj this
  ·refine ⟨V,0,by rw [Nat.mul_zero,Nat.add_zero],?_,by rw [List.drop_of_length_le (by omega)];rfl⟩
   have h2:=Zdz (b:=4294967296) (by omega) ha
   rw [hV,pwL] at h2
   have h3:V < 4294967296 ^ a.length:=Int.ofNat_lt.1 h2
   exact Nat.lt_of_lt_of_le h3 (Nat.pow_le_pow_right (by omega) (by omega))
 obtain ⟨L,H,e1,e2,e3⟩:=hlow i
 obtain ⟨L2,H2,f1,f2,f3⟩:=hlow (i+1+1)
 have hH:H=x+4294967296*(y+4294967296*H2):=by
  have hd:∀ j,val 4294967296 (a.drop j)=a.getD j 0+4294967296*val 4294967296 (a.drop (j+1)):=fun j=>by
   by_cases hj:j < a.length
   ·rw [Zf8 hj,Zb3]
   ·rw [List.drop_of_length_le (by omega),List.drop_of_length_le (by omega),Ze5 (by omega)];rfl
  have h1:=hd i
  rw [hd (i+1),hx,hy,e3,f3] at h1
  omega
 rw [hV,pwL,pwL]
 have key:V / 2 ^ n % 4294967296 ^ (i+1)=V / 2 ^ n % 4294967296 ^ i+4294967296 ^ i*(x / 2 ^ n+(y % 2 ^ n)*2 ^ (32 - n)):=by
  have h3:=two_pow_pos n
  have h4:=Zgy (n:=n) (by omega)
  rw [Nat.pow_succ,Nat.mod_mul]
  congr 2
  rw [Nat.div_div_eq_div_mul,Nat.mul_comm (2 ^ n),<- Nat.div_div_eq_div_mul]
  have hVH:V / 4294967296 ^ i=H:=by
   rw [e1,Nat.add_mul_div_left _ _ (Nat.pow_pos (by omega)),Nat.div_eq_of_lt e2,Nat.zero_add]
  rw [hVH,hH]
  obtain ⟨P,hP⟩:∃ P,2 ^ n=P:=⟨_,rfl⟩
  obtain ⟨R,hR⟩:∃ R,2 ^ (32 - n)=R:=⟨_,rfl⟩
  rw [hP] at h3 h4 ⊢
  rw [hR] at h4 ⊢
  have g1:(x+4294967296*(y+4294967296*H2)) / P=x / P+R*(y+4294967296*H2):=by
   rw [<- h4,Nat.mul_assoc,Nat.add_mul_div_left _ _ h3]
  rw [g1]
  have g2:y=P*(y / P)+y % P:=(Nat.div_add_mod y P).symm
  have e3':x / P < R:=(Nat.div_lt_iff_lt_mul h3).2 (by rw [Nat.mul_comm,h4];exact hx1)
  have e2':y % P < P:=Nat.mod_lt _ h3
  have e4':(y % P)*R+R<=4294967296:=by
   have := Nat.mul_le_mul_right R (show y % P+1<=P by omega)
   rw [Nat.add_mul,Nat.one_mul,h4] at this
   exact this
  have g3:x / P+R*(y+4294967296*H2)=(x / P+(y % P)*R)+4294967296*(y / P+R*H2):=by
   conv=>lhs;rw [g2]
   rw [Nat.mul_add R (_+_),Nat.mul_add R (P*_),<- Nat.mul_assoc R P,Nat.mul_comm R P,h4,Nat.mul_left_comm R 4294967296 H2,Nat.mul_comm R (y % P),Nat.mul_add 4294967296]
   omega
  rw [g3,Nat.add_mul_mod_self_left,Nat.mod_eq_of_lt (by omega)]
 have k2:((V / 2 ^ n % 4294967296 ^ (i+1):Nat):Int)=((V / 2 ^ n % 4294967296 ^ i+4294967296 ^ i*(x / 2 ^ n+(y % 2 ^ n)*2 ^ (32 - n)):Nat):Int):=congrArg (fun z:Nat=>(z:Int)) key
 rw [Int.natCast_add,Int.natCast_emod,Int.natCast_emod,Int.natCast_mul,Int.natCast_ediv] at k2
 exact k2
theorem RightAt.start {a:List Int} (ha:Dg 4294967296 a) (n:Nat):RightAt a n 0 (List.replicate a.length 0) :=
 ⟨by simp,Dg.zeros (by omega) _,by simp [val,pw,Int.emod_one],fun j _=>by simp [List.getD,List.getElem?_replicate];split <;> rfl⟩
theorem RightAt.step {a:List Int} {n i:Nat} {o:List Int} (h:RightAt a n i o) (ha:Dg 4294967296 a) (hn:n < 32) (hi:i < a.length) {x y:Nat} (hx:a.getD i 0=x) (hy:a.getD (i+1) 0=y) (hx1:x < 4294967296) (hy1:y < 4294967296) :
  RightAt a n (i+1) (o.set i ((x / 2 ^ n+(y % 2 ^ n)*2 ^ (32 - n):Nat):Int)):=by
 obtain ⟨_,s2⟩:=Zmj hn hx1 hy1
 have hlt:i < o.length:=by rw [h.len];exact hi
 refine ⟨by rw [List.length_set];exact h.len,Zg2 h.dg _ (Int.natCast_nonneg _) (Int.ofNat_lt.2 s2),?_,fun j hj=>?_⟩
 ·rw [Zck,Zlg ha hn hx hy hx1 hy1,<- h.law]
  congr 2
  ·rw [List.take_set_of_le (Nat.le_refl i)]
  ·rw [List.getD,List.getElem?_set_self hlt];rfl
 ·rw [getD_set_ne _ (by omega)];exact h.hi j (by omega)
theorem RightAt.done {a:List Int} {n:Nat} {o:List Int} (h:RightAt a n a.length o) (ha:Dg 4294967296 a):val 4294967296 o=((num a / 2 ^ n:Nat):Int):=by
 have hl:=h.law
 rw [List.take_of_length_le (by rw [h.len];exact Nat.le_refl _),<- Zdj ha,pwL,<- Int.natCast_ediv,<- Int.natCast_emod,Nat.mod_eq_of_lt (Nat.lt_of_le_of_lt (Nat.div_le_self _ _) (Zoo ha))] at hl
 exact hl
theorem Zmg {a:List Int} (ha:Dg 4294967296 a) (la:a.length<=1000000) (n:Nat) (hn:n < 32):∀ (d i:Nat) (o:List Int),a.length - i=d->i<=a.length->RightAt a n i o ->
  Tells (fun k=>Zz.l0 k a (n:Int) o a (a.length:Int) (i:Int)) (limbs (num a / 2 ^ n))
 | 0,i,o,hd,hi,h=>by
  obtain rfl:i=a.length:=by omega
  have hlen:=h.len
  have hT:=Zdt h.dg (h.done ha) (by omega)
  refine Tells.succ ?_
  simp only [Zz.l0]
  exact Tells.ifn (Int.lt_irrefl _) (hT.bind (Tells.pure _))
 | d+1,i,o,hd,hi,h=>by
  have hil:i < a.length:=by omega
  obtain ⟨x,hx,hx1⟩:=dgL ha i
  obtain ⟨y,hy,hy1⟩:=dgL ha (i+1)
  obtain ⟨s1,s2⟩:=Zmj hn hx1 hy1
  have ih:=Zmg ha la n hn d (i+1) _ (by omega) (by omega) (h.step ha hn hil hx hy hx1 hy1)
  have hlen:=h.len
  have hlt:i < o.length:=by omega
  have hp:=Zfv hn
  have h3:=two_pow_pos n
  have c1:(i:Int) < (a.length:Int):=by omega
  have c2:(0:Int)<=(i:Int):=by omega
  have c3:(i:Int) < (o.length:Int):=by omega
  have c4:(0:Int)<=(n:Int):=by omega
  have c5:(0:Int)<=((32 - n:Nat):Int):=by omega
  have c6:(0:Int)<=((i+1:Nat):Int):=by omega
  have e2:(32:Int) - (n:Int)=((32 - n:Nat):Int):=by omega
  have hrd:(o.set i ((x / 2 ^ n:Nat):Int)).getD i 0=((x / 2 ^ n:Nat):Int):=by rw [List.getD,List.getElem?_set_self hlt];rfl
  have e5:y*2 ^ (32 - n) < 18446744073709551616:=by
   have h6:2 ^ (32 - n)<=4294967296:=Nat.le_trans (Nat.pow_le_pow_right (show 0 < 2 by omega) (show 32 - n<=32 by omega)) (by decide)
   have := Nat.mul_le_mul (show y<=4294967295 by omega) h6
   omega
  refine Tells.succ ?_
  simp only [Zz.l0]
  rw [rd_n,hx,w64s (by omega),Zpb (k:=.u32) (by show n<=32;omega),Int.toNat_natCast]
  refine Tells.ifp c1 (Tells.ifp c2 (Tells.ifp c1 (Tells.ifp c4 (Tells.ifp c3 ((Tells.pure _).bind ?_)))))
  rw [rd_n,rd_n,hy,hrd,e2,w64c (m:=32 - n) (by omega),u64n (m:=y) (by omega),shl64 (by omega) e5,emod32,s1,List.set_set]
  by_cases h1:i+1 < a.length
  ·exact Tells.ifp (by omega) (Tells.ifp c6 (Tells.ifp c5 ih))
  ·have hy0:y=0:=by have := Ze5 (l:=a) (i:=i+1) (by omega);omega
   rw [hy0,Nat.zero_mod,Nat.zero_mul,Nat.add_zero] at ih
   exact Tells.ifn (by omega) ih
theorem Zlb {a:List Int} (ha:Dg 4294967296 a) (la:a.length<=1000000) (n:Nat) (hn:n < 32):Tells (fun k=>Zz.f k a (n:Int)) (limbs (num a / 2 ^ n)):=by
 have h:=Zmg ha la n hn a.length 0 _ (by omega) (by omega) (RightAt.start ha n)
 unfold Zz.f
 rw [Int.toNat_natCast]
 exact Tells.ifp (by omega) (Tells.ifp (by omega) h)
theorem Zj5 {h l:Nat} (h1:h < 4294967296) (h2:l < 4294967296):bits .or .u64 ((h*4294967296:Nat):Int) (l:Int)=((h*4294967296+l:Nat):Int):=by
 rw [u64_or_nat _ _ (by omega) (by omega)]
 have := Zk4 32 h l (by simpa using h2)
 rw [show (2:Nat) ^ 32=4294967296 from rfl] at this
 rw [this]
structure GuessAt (head low top second q r:Nat):Prop where
 law:q*top+r=head
 hi:head*4294967296+low < (q+1)*(top*4294967296+second)\/4294967296<=q+1
theorem Zgs {head low top second q r:Nat} (h:q*top+r=head):(r*4294967296+low < q*second) ↔ (head*4294967296+low < q*(top*4294967296+second)):=by
 rw [<- h,Nat.mul_add,<- Nat.mul_assoc,Nat.add_mul]
 omega
theorem Zl5 (low top second head:Nat) (hl:low < 4294967296) (ht:2147483648<=top) (ht2:top < 4294967296) (hs:second < 4294967296) (hh:head<=top*4294967296+4294967295) :
  ∀ (f q r:Nat),4294967296 - r<=f->r < 4294967296->q<=8589934592->GuessAt head low top second q r ->
  Tells (fun k=>Zbr.l0 k (low:Int) (top:Int) (second:Int) (q:Int) (r:Int)) ((min ((head*4294967296+low) / (top*4294967296+second)) 4294967295:Nat):Int)
 | 0,q,r,hf,hr,hq,h=>by omega
 | f+1,q,r,hf,hr,hq,h=>by
  have hlaw:=h.law
  have down:(4294967296<=q\/r*4294967296+low < q*second)->Tells (fun k=>Zbr.j1 k (low:Int) (top:Int) (second:Int) (q:Int) (r:Int) true) ((min ((head*4294967296+low) / (top*4294967296+second)) 4294967295:Nat):Int):=fun hbad=>by
   have hq0:0 < q:=by
    rcases hbad with hb|hb
    ·omega
    ·rcases Nat.eq_zero_or_pos q with e|e
     ·rw [e] at hb;omega
     ·exact e
   obtain ⟨p,rfl⟩:∃ p,q=p+1:=⟨q - 1,by omega⟩
   have hst:GuessAt head low top second p (r+top):=by
    refine ⟨by rw [<- hlaw,Nat.add_mul];omega,?_⟩
    rcases hbad with hb|hb
    ·exact .inr hb
    ·exact .inl ((Zgs hlaw).1 hb)
   have e1:((p+1:Nat):Int) - 1=(p:Int):=by omega
   refine Tells.succ ?_
   simp only [Zbr.j1]
   rw [e1,u64n (m:=p) (by omega),u64n (m:=top) (by omega),u64p (by omega),ediv32]
   refine Tells.ifp trivial ?_
   by_cases hbr:4294967296<=r+top
   ·refine Tells.ifp (by omega) ((Tells.pure _).val ?_)
    have hp:p < 4294967296:=by
     refine Nat.not_le.1 (fun hge=>?_)
     have := Nat.mul_le_mul_right top hge
     have := hst.law
     omega
    have hle:p*(top*4294967296+second)<=head*4294967296+low:=by
     have h0:¬ ((r+top)*4294967296+low < p*second):=by
      have := Nat.mul_le_mul (show p<=4294967295 by omega) (show second<=4294967295 by omega)
      omega
     exact Nat.not_lt.1 (fun hc=>h0 ((Zgs hst.law).2 hc))
    congr 1
    rcases hst.hi with hh2|hh2
    ·rw [Nat.div_eq_of_lt_le hle hh2,Nat.min_eq_left (by omega)]
    ·have := (Nat.le_div_iff_mul_le (show 0 < top*4294967296+second by omega)).2 hle
     rw [Nat.min_eq_right (by omega)];omega
   ·refine Tells.ifn (by omega) ?_
    exact Zl5 low top second head hl ht ht2 hs hh f p (r+top) (by omega) (by omega) (by omega) hst
  refine Tells.succ ?_
  simp only [Zbr.l0]
  rw [ediv32]
  by_cases hq1:4294967296<=q
  ·exact Tells.ifp (by omega) (down (.inl hq1))
  ·refine Tells.ifn (by omega) ?_
   obtain ⟨z,hz⟩:∃ z,q*second=z:=⟨_,rfl⟩
   have hzb:z < 18446744073709551616:=by
    have := Nat.mul_le_mul (show q<=4294967295 by omega) (show second<=4294967295 by omega)
    omega
   have e2:(r:Int)*4294967296=((r*4294967296:Nat):Int):=by omega
   rw [u64n (m:=second) (by omega),u64k hz hzb,e2,u64n (m:=r*4294967296) (by omega),u64n (m:=low) (by omega),Zj5 hr hl]
   by_cases ht3:r*4294967296+low < z
   ·have e3:decide ((z:Int) > ((r*4294967296+low:Nat):Int))=true:=decide_eq_true (by omega)
    rw [e3]
    exact down (.inr (by rw [hz];exact ht3))
   ·have e3:decide ((z:Int) > ((r*4294967296+low:Nat):Int))=false:=decide_eq_false (by omega)
    rw [e3]
    refine Tells.succ ?_
    simp only [Zbr.j1]
    refine Tells.ifn (by simp) ((Tells.pure _).val ?_)
    have hle:q*(top*4294967296+second)<=head*4294967296+low:=Nat.not_lt.1 (fun hc=>ht3 (by rw [<- hz];exact (Zgs hlaw).2 hc))
    congr 1
    rcases h.hi with hh2|hh2
    ·rw [Nat.div_eq_of_lt_le hle hh2,Nat.min_eq_left (by omega)]
    ·have := (Nat.le_div_iff_mul_le (show 0 < top*4294967296+second by omega)).2 hle
     rw [Nat.min_eq_right (by omega)];omega
theorem Zkv (high next low top second:Nat) (h1:high<=top) (h2:next < 4294967296) (hl:low < 4294967296) (ht:2147483648<=top) (ht2:top < 4294967296) (hs:second < 4294967296) :
  Tells (fun k=>Zbr.f k (high:Int) (next:Int) (low:Int) (top:Int) (second:Int)) ((min (((high*4294967296+next)*4294967296+low) / (top*4294967296+second)) 4294967295:Nat):Int):=by
 obtain ⟨head,hh⟩:∃ head,high*4294967296+next=head:=⟨_,rfl⟩
 have hhb:head<=top*4294967296+4294967295:=by omega
 have hr:head % top < top:=Nat.mod_lt _ (by omega)
 have hq:head / top<=8589934592:=by
  have:head / top < 8589934592:=(Nat.div_lt_iff_lt_mul (show 0 < top by omega)).2 (by omega)
  omega
 have hg:GuessAt head low top second (head / top) (head % top):=by
  refine ⟨by rw [Nat.mul_comm];exact Nat.div_add_mod head top,.inl ?_⟩
  have := Nat.div_add_mod head top
  have h3:head+1<=(head / top+1)*top:=by rw [Nat.add_mul,Nat.mul_comm (head / top)];omega
  have h4:=Nat.mul_le_mul_right 4294967296 h3
  rw [Nat.mul_add (head / top+1),<- Nat.mul_assoc]
  omega
 have h:=Zl5 low top second head hl ht ht2 hs hhb _ _ _ (Nat.le_refl _) (by omega) hq hg
 have e1:(high:Int)*4294967296=((high*4294967296:Nat):Int):=by omega
 have e2:Int.tdiv (head:Int) (top:Int)=((head / top:Nat):Int):=by rw [Int.tdiv_eq_ediv_of_nonneg (by omega)];exact (Int.natCast_ediv _ _).symm
 have e3:Int.tmod (head:Int) (top:Int)=((head % top:Nat):Int):=by rw [Int.tmod_eq_emod_of_nonneg (by omega)];exact (Int.natCast_emod _ _).symm
 have c1:¬ ((top:Int)=0):=by omega
 unfold Zbr.f
 rw [u64n (m:=high) (by omega),u64n (m:=next) (by omega),u64n (m:=top) (by omega),e1,u64n (m:=high*4294967296) (by omega),Zj5 (by omega) h2,hh,e2,e3,u64n (m:=head / top) (by omega)]
 exact Tells.ifn c1 h
end YtjbjkmccfocikaaGreatDoor.P
end
section
namespace YtjbjkmccfocikaaGreatDoor.B
open Go.RowKit YtjbjkmccfocikaaGreatDoorW.PrintWords YtjbjkmccfocikaaGreatDoorW.PrintLast YtjbjkmccfocikaaGreatDoorW.PrintMore
attribute [local go_sem] Zb7 Zb9 Zcr Zcs Zbp Zbq Zb8 Zca
def Za3.f (l0:List Int):Option (Int):=if (l0.length:Int) > 256 then (some 5) else (if (l0.length:Int) > 0 then (if 0<=(wrap64 ((l0.length:Int) - 1)) then (if (wrap64 ((l0.length:Int) - 1)) < (l0.length:Int) then (if (rd l0 (wrap64 ((l0.length:Int) - 1)))=0 then (some 9) else (some 0)) else (none)) else (none)) else (some 0))
theorem Za3.calls (A0:Option Addr) (c0:Nat) (l0:List Int) (r:Int) (w:World) (hr0:Kd.C (Kd.int .u32) w A0 l0.length l0) (hc0:l0.length<=c0) (h:Za3.f l0=some r) :
  Calls Tryz.prog 108 #[.slice A0 l0.length c0] w fun e w'=>e=.returned (.int .i64 r)/\Drawn0 w w':=by
 have HR0:=am hr0
 have HC0:=am hc0
 clear hr0 hc0
 have H:(if (l0.length:Int) > 256 then (some 5) else (if (l0.length:Int) > 0 then (if 0<=(wrap64 ((l0.length:Int) - 1)) then (if (wrap64 ((l0.length:Int) - 1)) < (l0.length:Int) then (if (rd l0 (wrap64 ((l0.length:Int) - 1)))=0 then (some 9) else (some 0)) else (none)) else (none)) else (some 0)))=some r:=h
 clear h
 by_cases c2:(l0.length:Int) > 256
 ·rw [if_pos c2] at H
  have c2b0:decide (256 < (l0.length:Int))=true:=decide_eq_true c2
  have c2b1:decide (256 < l0.length)=true:=decide_eq_true (by omega)
  clear c2
  obtain rfl:=Option.some.inj H
  go_enter Tryz.func108,Tryz.ntmps108
  go_wp2
  go_ret
  exact ⟨pR,pD⟩
 ·rw [if_neg c2] at H
  have c2b0:decide (256 < (l0.length:Int))=false:=decide_eq_false c2
  have c2b1:decide (256 < l0.length)=false:=decide_eq_false (by omega)
  clear c2
  by_cases c3:(l0.length:Int) > 0
  ·rw [if_pos c3] at H
   have c3b0:decide (0 < (l0.length:Int))=true:=decide_eq_true c3
   have c3b1:decide (0 < l0.length)=true:=decide_eq_true (by omega)
   clear c3
   obtain ⟨ji4,hji4⟩:∃ j_:Int,(wrap64 ((l0.length:Int) - 1))=j_:=⟨_,rfl⟩
   replace H:(if 0<=(ji4) then (if (ji4) < (l0.length:Int) then (if (rd l0 (ji4))=0 then (some 9) else (some 0)) else (none)) else (none))=some r:=by first|(rw [hji4] at H;exact H)|(simp only [hji4] at H ⊢;exact H)
   have hji4w:(IntKind.i64.wrap ((l0.length:Int) - 1))=ji4:=(Zcd _).trans hji4
   by_cases c5:0<=(ji4)
   ·rw [if_pos c5] at H
    have c5b0:decide (0<=(ji4))=true:=decide_eq_true c5
    clear c5
    by_cases c6:(ji4) < (l0.length:Int)
    ·rw [if_pos c6] at H
     have c6b0:decide ((ji4) < (l0.length:Int))=true:=decide_eq_true c6
     clear c6
     by_cases c7:(rd l0 (ji4))=0
     ·rw [if_pos c7] at H
      have c7b0:((rd l0 (ji4)) == 0)=true:=beq_iff_eq.mpr c7
      have c7b1:((rd l0 (ji4)) != 0)=false:=bne_eq_false_iff_eq.mpr c7
      clear c7
      obtain rfl:=Option.some.inj H
      have qa:0<=((ji4):Int):=of_decide_eq_true pQ
      have qb:(ji4) < (l0.length:Int):=of_decide_eq_true pQ
      obtain ⟨qe,qd,qc⟩:=Kd.Za5 HR0.o (ji4) qa qb
      cases qd
      replace qa:=eq_true qa
      replace qb:=eq_true qb
      go_enter Tryz.func108,Tryz.ntmps108
      go_wp2
      go_ret
      exact ⟨by first|rfl|(simp;done)|(simp only [<- hji4] <;> (first|rfl|simp))|(simp [*];done),pD⟩
     ·rw [if_neg c7] at H
      have c7b0:((rd l0 (ji4)) == 0)=false:=beq_eq_false_iff_ne.mpr c7
      have c7b1:((rd l0 (ji4)) != 0)=true:=bne_iff_ne.mpr c7
      obtain rfl:=Option.some.inj H
      have qa:0<=((ji4):Int):=of_decide_eq_true pQ
      have qb:(ji4) < (l0.length:Int):=of_decide_eq_true pQ
      obtain ⟨qe,qd,qc⟩:=Kd.Za5 HR0.o (ji4) qa qb
      cases qd
      replace qa:=eq_true qa
      replace qb:=eq_true qb
      go_enter Tryz.func108,Tryz.ntmps108
      go_wp2
      go_ret
      exact ⟨by first|rfl|(simp;done)|(simp only [<- hji4] <;> (first|rfl|simp))|(simp [*];done),pD⟩
    ·rw [if_neg c6] at H
     exact absurd H (by simp)
   ·rw [if_neg c5] at H
    exact absurd H (by simp)
  ·rw [if_neg c3] at H
   have c3b0:decide (0 < (l0.length:Int))=false:=decide_eq_false c3
   have c3b1:decide (0 < l0.length)=false:=decide_eq_false (by omega)
   clear c3
   obtain rfl:=Option.some.inj H
   go_enter Tryz.func108,Tryz.ntmps108
   go_wp2
   go_ret
   exact ⟨pR,pD⟩
def Zbv.l0:Nat->Int->List Int->Int->Int->Option (Int)
 | 0,_,_,_,_=>none
 | k+1,x3,x6,x7,x8=>if x8 < x7 then (if 0<=x8 then (if x8 < (x6.length:Int) then (if (rd x6 x8)=x3 then (Zbv.l0 k x3 x6 x7 (wrap64 (x8+1))) else (some (rd x6 x8))) else (none)) else (none)) else (some x3)
def Zbv.f (k:Nat) (l0:List Int):Option (Int):=Zbv.l0 k 0 l0 (l0.length:Int) 0
theorem Zbv.calls (k:Nat) (A0:Option Addr) (c0:Nat) (l0:List Int) (r:Int) (w:World) (hr0:Kd.C (Kd.int .i64) w A0 l0.length l0) (hc0:l0.length<=c0) (h:Zbv.f k l0=some r) :
  Calls Tryz.prog 137 #[.slice A0 l0.length c0] w fun e w'=>e=.returned (.int .i64 r)/\Drawn0 w w':=by
 have HR0:=am hr0
 have HC0:=am hc0
 clear hr0 hc0
 have H:(Zbv.l0 k 0 l0 (l0.length:Int) 0)=some r:=h
 clear h
 have H':=am H
 clear H
 go_enter Tryz.func137,Tryz.ntmps137
 go_wp2
 go_loopg [8] k (fun kq v8 w' => ∃ (x8_1:Int),v8=.int .i64 x8_1/\Aside0 (Zbv.l0 kq 0 l0 (l0.length:Int) x8_1=some r)/\Aside0 (kq<=k)/\Drawn0 w w')
 case atStart=>exact ⟨(0),pR,H',⟨Nat.le_refl _⟩,pD⟩
 case round =>
  clear H'
  obtain ⟨x8_1,rfl,HA,HK1,⟨m1,rfl⟩⟩:=hrel
  cases gk with
  | zero=>exact absurd HA.out (by simp [Zbv.l0])
  | succ k1 =>
   have H:=HA.out
   clear HA
   simp only [Zbv.l0] at H
   by_cases c2:x8_1 < (l0.length:Int)
   ·rw [if_pos c2] at H
    have c2b0:decide (x8_1 < (l0.length:Int))=true:=decide_eq_true c2
    clear c2
    by_cases c3:0<=x8_1
    ·rw [if_pos c3] at H
     have c3b0:decide (0<=x8_1)=true:=decide_eq_true c3
     clear c3
     by_cases c4:x8_1 < (l0.length:Int)
     ·rw [if_pos c4] at H
      have c4b0:decide (x8_1 < (l0.length:Int))=true:=decide_eq_true c4
      clear c4
      by_cases c5:(rd l0 x8_1)=0
      ·rw [if_pos c5] at H
       have c5b0:((rd l0 x8_1) == 0)=true:=beq_iff_eq.mpr c5
       have c5b1:((rd l0 x8_1) != 0)=false:=bne_eq_false_iff_eq.mpr c5
       clear c5
       have H':=am H
       clear H
       have qa:0<=(x8_1:Int):=of_decide_eq_true pQ
       have qb:x8_1 < (l0.length:Int):=of_decide_eq_true pQ
       obtain ⟨qe,qd,qc⟩:=Kd.Za5 HR0.o x8_1 qa qb
       cases qd
       replace qa:=eq_true qa
       replace qb:=eq_true qb
       go_wp2
       go_roundg k1
       case measure=>have := HK1.out;omega
       case rel=>exact ⟨(wrap64 (x8_1+1)),pR,H',⟨by have := HK1.out;omega⟩,pD⟩
      ·rw [if_neg c5] at H
       have c5b0:((rd l0 x8_1) == 0)=false:=beq_eq_false_iff_ne.mpr c5
       have c5b1:((rd l0 x8_1) != 0)=true:=bne_iff_ne.mpr c5
       obtain rfl:=Option.some.inj H
       have qa:0<=(x8_1:Int):=of_decide_eq_true pQ
       have qb:x8_1 < (l0.length:Int):=of_decide_eq_true pQ
       obtain ⟨qe,qd,qc⟩:=Kd.Za5 HR0.o x8_1 qa qb
       cases qd
       replace qa:=eq_true qa
       replace qb:=eq_true qb
       go_wp2
       go_ret
       exact ⟨pR,pD⟩
     ·rw [if_neg c4] at H
      exact absurd H (by simp)
    ·rw [if_neg c3] at H
     exact absurd H (by simp)
   ·rw [if_neg c2] at H
    have c2b0:decide (x8_1 < (l0.length:Int))=false:=decide_eq_false c2
    clear c2
    obtain rfl:=Option.some.inj H
    go_wp2
    go_ret
    exact ⟨pR,pD⟩
def Zdp.f (k:Nat) (l0:List Int) (l1:List Int):Option (Int):=(Za3.f l0).bind fun qa=>((Za3.f l1).bind fun qb=>((Zbv.f k (([qa,qb]:List Int))).bind fun qc=>(some qc)))
theorem Zdp.calls (k:Nat) (A0:Option Addr) (c0:Nat) (l0:List Int) (A1:Option Addr) (c1:Nat) (l1:List Int) (r:Int) (w:World) (hr0:Kd.C (Kd.int .u32) w A0 l0.length l0) (hc0:l0.length<=c0) (hr1:Kd.C (Kd.int .u32) w A1 l1.length l1) (hc1:l1.length<=c1) (h:Zdp.f k l0 l1=some r) :
  Calls Tryz.prog 126 #[.slice A0 l0.length c0,.slice A1 l1.length c1] w fun e w'=>e=.returned (.int .i64 r)/\Below w.heap.size w w':=by
 have HR0:=am hr0
 have HC0:=am hc0
 clear hr0 hc0
 have HR1:=am hr1
 have HC1:=am hc1
 clear hr1 hc1
 have HB:=am (Below.refl w.heap.size w)
 have H:((Za3.f l0).bind fun qa=>((Za3.f l1).bind fun qb=>((Zbv.f k (([qa,qb]:List Int))).bind fun qc=>(some qc))))=some r:=h
 clear h
 obtain ⟨qa,A3,H⟩:=ob H
 obtain ⟨qb,A4,H⟩:=ob H
 obtain ⟨qg,qe⟩:∃ y_:List Int,y_=(([qa,qb]:List Int)):=⟨_,rfl⟩
 replace H:((Zbv.f k qg).bind fun qc=>(some qc))=some r:=by have hy_:=qe;exact pH
 have qf:=am qe
 clear qe
 obtain ⟨qc,A5,H⟩:=ob H
 obtain rfl:=Option.some.inj H
 go_enter Tryz.func126,Tryz.ntmps126
 go_wp2_with (first|(refine gL (some 6) Tryz.func108 #[.slice A0 l0.length c0] (h:=?_);(with_reducible refine (Za3.calls _ _ l0 qa _ ?side1 ?side2 A3.o).mono ?_);(case side1=>refine cp ?_;exact HR0.o);(case side2=>exact HC0.o);rintro e w' ⟨rfl,⟨nd,rfl⟩⟩;refine ⟨_,rfl,?_⟩)|(refine gL (some 8) Tryz.func108 #[.slice A1 l1.length c1] (h:=?_);(with_reducible refine (Za3.calls _ _ l1 qb _ ?side1 ?side2 A4.o).mono ?_);(case side1=>refine cp ?_;exact HR1.o);(case side2=>exact HC1.o);rintro e w' ⟨rfl,⟨nd,rfl⟩⟩;refine ⟨_,rfl,?_⟩)|((with_reducible refine gd 9 ?_);refine Kd.Zf1 (Kd.int .i64) _ 32 ?hg (N:=9) ?hd (xs:=([qa,qb]:List Int)) (inner:=[.int .i64 qa,.int .i64 qb]) (ok:=fun _=>True) (okp:=fun _=>True) ?hr ?hp (fun _ hk=>hk) trivial (Below.refl _ _) (Nat.le_refl _) (by simp) ?_;(case hd=>rfl);(case hg=>rfl);(case hr=>first|(go_simp;done)|(go_simp;rfl));(case hp=>exact (Reps.one (show Kd.M (Kd.int .i64) _ _ _ qa [.int .i64 qa] from rfl) (Reps.one (show Kd.M (Kd.int .i64) _ _ _ qb [.int .i64 qb] from rfl) (Reps.none _ _))));intro qh w6 ho7 hb hg_ hnew_;clear hg_ hnew_;(first|rw [<- qf.out] at ho7|(simp only [Int.reduceToNat] at ho7;rw [<- qf.out] at ho7));have qd:=am (Kd.Zo ho7 (Zd pB));replace HB:=bS hb;clear hb ho7;obtain ⟨Ao8,co8,eo8⟩:=Kd.Zj qd.o;subst eo8)|(refine gL (some 10) Tryz.func137 #[.slice Ao8 qg.length co8] (h:=?_);(with_reducible refine (Zbv.calls k _ _ qg qc _ ?side1 ?side2 A5.o).mono ?_);(case side1=>exact Kd.Zn (Kd.Zc qd.o).2.2 pl);(case side2=>exact (Kd.Zc qd.o).2.1);rintro e w' ⟨rfl,⟨nd,rfl⟩⟩;refine ⟨_,rfl,?_⟩))
 go_ret
 exact ⟨pE,pB⟩
def cmp_isNaN_int.f (a0:Int):Option (Bool):=some (a0 != a0)
theorem cmp_isNaN_int.calls (a0:Int) (r:Bool) (w:World) (h:cmp_isNaN_int.f a0=some r) :
  Calls Tryz.prog 186 #[.int .i64 a0] w fun e w'=>e=.returned (.bool r)/\Drawn0 w w':=by
 have H:(some (a0 != a0))=some r:=h
 clear h
 obtain rfl:=Option.some.inj H
 go_enter Tryz.func186,Tryz.ntmps186
 go_wp2
 go_ret
 exact ⟨pR,pD⟩
def cmp_Compare_int.f (a0:Int) (a1:Int):Option (Int):=(cmp_isNaN_int.f a0).bind fun qb=>((cmp_isNaN_int.f a1).bind fun qa=>(if qb=true then (if qa=true then (some 0) else (some (-1))) else (if qa=true then (some 1) else (if a0 < a1 then (some (-1)) else (if a0 > a1 then (some 1) else (some 0))))))
theorem cmp_Compare_int.calls (a0:Int) (a1:Int) (r:Int) (w:World) (h:cmp_Compare_int.f a0 a1=some r) :
  Calls Tryz.prog 165 #[.int .i64 a0,.int .i64 a1] w fun e w'=>e=.returned (.int .i64 r)/\Drawn0 w w':=by
 have H:((cmp_isNaN_int.f a0).bind fun qb=>((cmp_isNaN_int.f a1).bind fun qa=>(if qb=true then (if qa=true then (some 0) else (some (-1))) else (if qa=true then (some 1) else (if a0 < a1 then (some (-1)) else (if a0 > a1 then (some 1) else (some 0)))))))=some r:=h
 clear h
 obtain ⟨qb,A3,H⟩:=ob H
 obtain ⟨qa,A4,H⟩:=ob H
 by_cases c5:qb=true
 ·subst c5
  rw [if_pos rfl] at H
  by_cases c6:qa=true
  ·subst c6
   rw [if_pos rfl] at H
   obtain rfl:=Option.some.inj H
   go_enter Tryz.func165,Tryz.ntmps165
   go_wp2_with (first|(refine gL (some 8) Tryz.func186 #[.int .i64 a0] (h:=?_);(with_reducible refine (cmp_isNaN_int.calls a0 true _ A3.o).mono ?_);rintro e w' ⟨rfl,⟨nd,rfl⟩⟩;refine ⟨_,rfl,?_⟩)|(refine gL (some 10) Tryz.func186 #[.int .i64 a1] (h:=?_);(with_reducible refine (cmp_isNaN_int.calls a1 true _ A4.o).mono ?_);rintro e w' ⟨rfl,⟨nd,rfl⟩⟩;refine ⟨_,rfl,?_⟩))
   go_ret
   exact ⟨pR,pD⟩
  ·replace c6:=Bool.eq_false_iff.mpr c6
   subst c6
   rw [if_neg (show ¬ (false=true) by decide)] at H
   obtain rfl:=Option.some.inj H
   go_enter Tryz.func165,Tryz.ntmps165
   go_wp2_with (first|(refine gL (some 8) Tryz.func186 #[.int .i64 a0] (h:=?_);(with_reducible refine (cmp_isNaN_int.calls a0 true _ A3.o).mono ?_);rintro e w' ⟨rfl,⟨nd,rfl⟩⟩;refine ⟨_,rfl,?_⟩)|(refine gL (some 10) Tryz.func186 #[.int .i64 a1] (h:=?_);(with_reducible refine (cmp_isNaN_int.calls a1 false _ A4.o).mono ?_);rintro e w' ⟨rfl,⟨nd,rfl⟩⟩;refine ⟨_,rfl,?_⟩))
   go_ret
   exact ⟨pR,pD⟩
 ·replace c5:=Bool.eq_false_iff.mpr c5
  subst c5
  rw [if_neg (show ¬ (false=true) by decide)] at H
  by_cases c7:qa=true
  ·subst c7
   rw [if_pos rfl] at H
   obtain rfl:=Option.some.inj H
   go_enter Tryz.func165,Tryz.ntmps165
   go_wp2_with (first|(refine gL (some 8) Tryz.func186 #[.int .i64 a0] (h:=?_);(with_reducible refine (cmp_isNaN_int.calls a0 false _ A3.o).mono ?_);rintro e w' ⟨rfl,⟨nd,rfl⟩⟩;refine ⟨_,rfl,?_⟩)|(refine gL (some 10) Tryz.func186 #[.int .i64 a1] (h:=?_);(with_reducible refine (cmp_isNaN_int.calls a1 true _ A4.o).mono ?_);rintro e w' ⟨rfl,⟨nd,rfl⟩⟩;refine ⟨_,rfl,?_⟩))
   go_ret
   exact ⟨pR,pD⟩
  ·replace c7:=Bool.eq_false_iff.mpr c7
   subst c7
   rw [if_neg (show ¬ (false=true) by decide)] at H
   by_cases c8:a0 < a1
   ·rw [if_pos c8] at H
    have c8b0:decide (a0 < a1)=true:=decide_eq_true c8
    clear c8
    obtain rfl:=Option.some.inj H
    go_enter Tryz.func165,Tryz.ntmps165
    go_wp2_with (first|(refine gL (some 8) Tryz.func186 #[.int .i64 a0] (h:=?_);(with_reducible refine (cmp_isNaN_int.calls a0 false _ A3.o).mono ?_);rintro e w' ⟨rfl,⟨nd,rfl⟩⟩;refine ⟨_,rfl,?_⟩)|(refine gL (some 10) Tryz.func186 #[.int .i64 a1] (h:=?_);(with_reducible refine (cmp_isNaN_int.calls a1 false _ A4.o).mono ?_);rintro e w' ⟨rfl,⟨nd,rfl⟩⟩;refine ⟨_,rfl,?_⟩))
    go_ret
    exact ⟨pR,pD⟩
   ·rw [if_neg c8] at H
    have c8b0:decide (a0 < a1)=false:=decide_eq_false c8
    clear c8
    by_cases c9:a0 > a1
    ·rw [if_pos c9] at H
     have c9b0:decide (a1 < a0)=true:=decide_eq_true c9
     clear c9
     obtain rfl:=Option.some.inj H
     go_enter Tryz.func165,Tryz.ntmps165
     go_wp2_with (first|(refine gL (some 8) Tryz.func186 #[.int .i64 a0] (h:=?_);(with_reducible refine (cmp_isNaN_int.calls a0 false _ A3.o).mono ?_);rintro e w' ⟨rfl,⟨nd,rfl⟩⟩;refine ⟨_,rfl,?_⟩)|(refine gL (some 10) Tryz.func186 #[.int .i64 a1] (h:=?_);(with_reducible refine (cmp_isNaN_int.calls a1 false _ A4.o).mono ?_);rintro e w' ⟨rfl,⟨nd,rfl⟩⟩;refine ⟨_,rfl,?_⟩))
     go_ret
     exact ⟨pR,pD⟩
    ·rw [if_neg c9] at H
     have c9b0:decide (a1 < a0)=false:=decide_eq_false c9
     clear c9
     obtain rfl:=Option.some.inj H
     go_enter Tryz.func165,Tryz.ntmps165
     go_wp2_with (first|(refine gL (some 8) Tryz.func186 #[.int .i64 a0] (h:=?_);(with_reducible refine (cmp_isNaN_int.calls a0 false _ A3.o).mono ?_);rintro e w' ⟨rfl,⟨nd,rfl⟩⟩;refine ⟨_,rfl,?_⟩)|(refine gL (some 10) Tryz.func186 #[.int .i64 a1] (h:=?_);(with_reducible refine (cmp_isNaN_int.calls a1 false _ A4.o).mono ?_);rintro e w' ⟨rfl,⟨nd,rfl⟩⟩;refine ⟨_,rfl,?_⟩))
     go_ret
     exact ⟨pR,pD⟩
def Zap.f (a0:Int):Option (Bool):=some (a0 != a0)
theorem Zap.calls (a0:Int) (r:Bool) (w:World) (h:Zap.f a0=some r) :
  Calls Tryz.prog 187 #[.int .u32 a0] w fun e w'=>e=.returned (.bool r)/\Drawn0 w w':=by
 have H:(some (a0 != a0))=some r:=h
 clear h
 obtain rfl:=Option.some.inj H
 go_enter Tryz.func187,Tryz.ntmps187
 go_wp2
 go_ret
 exact ⟨pR,pD⟩
end YtjbjkmccfocikaaGreatDoor.B
end
end Go.Proofs
